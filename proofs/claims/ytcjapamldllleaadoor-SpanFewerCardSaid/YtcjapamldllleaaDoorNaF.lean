/- Proved here: the law of fewer values. Conditions: those of each theorem; no statement of the seat is proved in this text. -/
import Derived.Test.YtcjapamldllleaaDoorNaH
namespace Go.Proofs.YtcjapamldllleaaDoor
open Go.Ab
set_option maxHeartbeats 4000000
set_option maxRecDepth 100000
set_option linter.unusedSimpArgs false
set_option linter.unusedVariables false
set_option linter.unusedSectionVars false
theorem WF.less {cs ds : List Col} (h : Less cs ds) : ∀ e : Ex, WF cs e → WF ds e
  | .num n, w => w
  | .col nm, w => by unfold WF at *; rw [h.seek]; exact w
  | .wrd nm w op, g => by unfold WF at *; rw [h.seek, h.ws]; exact g
  | .una op a, g => ⟨WF.less h a g.1, g.2⟩
  | .bin op a b, g => ⟨WF.less h a g.1, WF.less h b g.2.1, g.2.2⟩
  | .ite c a b, g => ⟨WF.less h c g.1, WF.less h a g.2.1, WF.less h b g.2.2.1, g.2.2.2⟩
theorem Ex.fewer {cs ds : List Col} (hT : Tame cs) (hD : Tame ds) (h : Less cs ds) : ∀ e : Ex, WF cs e → Sub (e.spn ds) (e.spn cs)
  | num n, w => Sub.rfl' _
  | col nm, w => h.part nm w
  | wrd nm w op, g => by
    obtain ⟨h1, _, h3⟩ := g
    have h1' : 0 ≤ seekK ds nm := by rw [h.seek]; exact h1
    have e : place ds nm w = place cs nm w := by unfold place; rw [h.ws]
    have key : ∀ op : Int, 4 ≤ op → op ≤ 17 → (takesN op).1 = [0, 0] → op ≠ 8 → Sub (opI op (colI ds nm) (dup (place ds nm w)) (0, 0)) (opI op (colI cs nm) (dup (place cs nm w)) (0, 0)) := fun op g1 g2 g3 g4 => by
      rw [e]
      have k0 : (takesN op).1.getD 0 0 = 0 := by rw [g3]; rfl
      have k1 : (takesN op).1.getD 1 0 = 0 := by rw [g3]; rfl
      have o1 := hT.col h1
      have o2 := hT.place nm w
      have o3 := hD.col h1'
      rw [← k0] at o1 o3; rw [← k1] at o2
      exact op_sub g1 g2 o1 (fun _ => o2) o3 (fun _ => o2) (h.part nm h1) (fun _ => Sub.rfl' _) (fun h => absurd h g4)
    rcases h3 with rfl | rfl
    · exact key 9 (by decide) (by decide) rfl (by decide)
    · exact key 10 (by decide) (by decide) rfl (by decide)
  | una op a, g => by
    obtain ⟨w1, w2, w3⟩ := g
    have ha := Ex.ok hT a w1
    have hd := Ex.ok hD a (w1.less h)
    have hv := fewer hT hD h a w1
    have k : (takesN op).1.getD 0 0 = a.kind := by rw [w3]; rfl
    have n2 : ¬ 2 ≤ arI op := by unfold arI; rw [if_pos w2]; decide
    exact op_sub (by omega) (by omega) (k ▸ ha) (fun h => absurd h n2) (k ▸ hd) (fun h => absurd h n2) hv (fun h => absurd h n2) (fun h => by omega)
  | bin op a b, g => by
    obtain ⟨w1, w2, w3, w4⟩ := g
    have ha := Ex.ok hT a w1
    have hb := Ex.ok hT b w2
    have da := Ex.ok hD a (w1.less h)
    have db := Ex.ok hD b (w2.less h)
    have va := fewer hT hD h a w1
    have vb := fewer hT hD h b w2
    have k : (takesN op).1.getD 0 0 = a.kind := by rw [w4]; rfl
    have k2 : (takesN op).1.getD 1 0 = b.kind := by rw [w4]; rfl
    exact op_sub (by omega) (by omega) (k ▸ ha) (fun _ => k2 ▸ hb) (k ▸ da) (fun _ => k2 ▸ db) va (fun _ => vb) (fun h => by omega)
  | ite c a b, g => by
    obtain ⟨w1, w2, w3, k1, k2, k3⟩ := g
    have hc := Ex.ok hT c w1
    have ha := Ex.ok hT a w2
    have dc := Ex.ok hD c (w1.less h)
    have da := Ex.ok hD a (w2.less h)
    rw [k1] at hc dc; rw [k2] at ha da
    exact op_sub (op := 8) (by decide) (by decide) hc (fun _ => ha) dc (fun _ => da) (fewer hT hD h c w1) (fun _ => fewer hT hD h a w2) (fun _ => fewer hT hD h b w3)
end Go.Proofs.YtcjapamldllleaaDoor
namespace Go.Proofs.YtcjapamldllleaaDoor.N
open Go.Ab
set_option maxHeartbeats 4000000
set_option maxRecDepth 100000
set_option linter.unusedSimpArgs false
set_option linter.unusedVariables false
set_option linter.unusedSectionVars false
theorem at7 : env.P.funcs[7]? = some Tryd.f7 := by kernel_rfl
def Fewer (c d : Col) : Prop := d.name = c.name ∧ d.ws = c.ws ∧ d.w = rowW c.ws ∧ (c.ws = [] → c.lo ≤ d.lo ∧ d.lo ≤ d.hi ∧ d.hi ≤ c.hi) ∧ (c.ws ≠ [] → d.lo = c.lo ∧ d.hi = c.hi)
def Fewers (cs ds : List Col) : Prop := ∀ j, j < ds.length → Fewer (cs.getD j Col.none) (ds.getD j Col.none)
theorem Fewers.add {cs ds : List Col} (h : Fewers cs ds) {d : Col} (hd : Fewer (cs.getD ds.length Col.none) d) : Fewers cs (ds ++ [d]) := fun j hj => by
  rw [List.length_append, List.length_singleton] at hj
  by_cases e : j < ds.length
  · have : (ds ++ [d]).getD j Col.none = ds.getD j Col.none := by simp only [List.getD]; rw [List.getElem?_append_left e]
    rw [this]; exact h j e
  · have : j = ds.length := by omega
    subst this
    have : (ds ++ [d]).getD ds.length Col.none = d := by simp [List.getD]
    rw [this]; exact hd
theorem firstQ_congr {f g : Nat → Bool} : ∀ m i, (∀ j, i ≤ j → j < i + m → f j = g j) → firstQ f m i = firstQ g m i
  | 0, i, _ => rfl
  | m + 1, i, h => by
    simp only [firstQ]
    rw [h i (Nat.le_refl _) (by omega), firstQ_congr m (i + 1) (fun j h1 h2 => h j (by omega) (by omega))]
theorem Fewer.kit {c d : Col} (h : Fewer c d) (hk : Kit c) : Kit d := by
  obtain ⟨h1, h2, h3, h4, h5⟩ := h
  obtain ⟨k1, k2, k3⟩ := hk
  refine ⟨by rw [h1]; exact k1, by rw [h3, h2]; exact rowW_is _, ?_⟩
  rcases k3 with ⟨a, b⟩ | ⟨k, a, b, c1, d1, e1⟩
  · have := h4 a
    exact .inl ⟨by rw [h2]; exact a, by omega, by omega, by omega⟩
  · have hne : c.ws ≠ [] := by
      intro e
      have := reds_len b
      rw [← c1, e] at this
      simp at this; omega
    have := h5 hne
    exact .inr ⟨k, a, b, by rw [h2]; exact c1, by omega, by omega⟩
section
variable {cs ds : List Col} (h : Fewers cs ds) (hl : ds.length = cs.length) (hk : Kits cs)
include h hl hk
theorem Fewers.kits : Kits ds := fun d hd => by
  obtain ⟨j, hj, e⟩ := List.mem_iff_getElem.1 hd
  have e2 : ds.getD j Col.none = d := by rw [List.getD, List.getElem?_eq_getElem hj]; exact e
  rw [← e2]
  exact (h j hj).kit (hk.at (by omega))
theorem Fewers.seek (nm : List UInt8) : seekK ds nm = seekK cs nm := by
  unfold seekK
  rw [hl]
  exact firstQ_congr cs.length 0 fun j _ hj => by rw [(h j (by omega)).1]
theorem Fewers.less : Less cs ds := by
  have hs := h.seek hl hk
  refine ⟨hs, fun nm => ?_, fun nm hn => ?_⟩
  · unfold YtcjapamldllleaaDoor.colN
    rw [hs]
    by_cases h0 : 0 ≤ seekK cs nm
    · rw [if_pos h0, if_pos h0]
      obtain ⟨j, k1, k2, k3⟩ := colN_at h0
      rw [k1, Int.toNat_natCast]
      exact (h j (by omega)).2.1
    · rw [if_neg h0, if_neg h0]
  · obtain ⟨j, k1, k2, k3⟩ := colN_at hn
    obtain ⟨j', k1', k2', k3'⟩ := colN_at (cs := ds) (nm := nm) (by rw [hs]; exact hn)
    have : j' = j := by rw [hs] at k1'; omega
    subst this
    unfold colI
    rw [k3, k3']
    obtain ⟨h1, h2, h3, h4, h5⟩ := h j' k2'
    unfold Sub
    simp only
    by_cases hw : (cs.getD j' Col.none).ws = []
    · have := h4 hw; omega
    · have := h5 hw; omega
end
theorem fewer_found {xv yv zv : V} {xs ys zs : List Int} (Kx : Tk xv xs) (Ky : Tk yv ys) (Kz : Tk zv zs) : Go.Ab.Found env 7 [xv, yv, zv] := by
  refine found_of_wp at7 rfl (by simp [Tryd.f7]) (by simp [Tryd.f7]) (G_start ?_)
  have hK := known_call
  obtain ⟨v, L1, ts1, n, cells, cs, hS, g1, g2, g2', g3, g4, g5, g6, _⟩ := Schemas_call Kx [] []
  have hvl := g1.len 36
  obtain ⟨a, b, c, q, r, hix⟩ := isI_get g1 g2 g3
  have en : IntKind.i64.wrap ((n : Int) - 1) = ((n - 1 : Nat) : Int) := by rw [wrap_i64 (by omega) (by omega)]; omega
  have b39y := build39 Ky.hx
  have cy := isCell_I Ky.hx
  have b39z := build39 Kz.hx
  have cz := isCell_I Kz.hx
  obtain ⟨P, hP⟩ : ∃ P, P = (L1 ++ [AObj.cells [yv, .int .i64 0] 39]).length := ⟨_, rfl⟩
  have hPl : P = L1.length + 1 := by rw [hP]; simp
  have hHy : Has (L1 ++ [tk yv 0] ++ [tk zv 0]) L1.length yv ys := Has.app ⟨0, Nat.zero_le _, heap_end _ _⟩ _
  have hHz : Has (L1 ++ [tk yv 0] ++ [tk zv 0]) P zv zs := ⟨0, Nat.zero_le _, by rw [hP]; exact heap_end _ _⟩
  obtain ⟨w1, _, hO, e1, L2, ts2, rfl, hH2, hK2, gw1, x1, wf1, kd1, ln1⟩ := operand_call Ky q g4.ok g5 (by omega) g4.ws (L1 ++ [tk yv 0] ++ [tk zv 0]) L1.length ts1 hHy
  obtain ⟨w2, _, hC, e2, L3, ts3, rfl, hH3, hK3, gw2, x2, wf2, kd2, ln2⟩ := condition_call Ky q g4.ok g5 (by omega) g4.ws L2 L1.length ts2 hH2
  have hHz3 : Has L3 P zv zs := by
    obtain ⟨a0, a1, a2⟩ := hHz
    have hlt := (List.getElem?_eq_some_iff.1 a2).1
    exact ⟨a0, a1, by rw [hK3.2 P (by have := hK2.1; omega) (by omega), hK2.2 P hlt (by omega)]; exact a2⟩
  have hO : callFn env (ev env) 20 [.ptr L1.length 0, .row (flatC cs) cs.length q, .int .i64 3] ⟨L1 ++ [.cells [yv, .int .i64 0] 39] ++ [.cells [zv, .int .i64 0] 39], ts1⟩ = some (w1, ⟨L2, ts2⟩) := hO
  have hC : callFn env (ev env) 21 [.ptr L1.length 0, .row (flatC cs) cs.length q, .int .i64 3] ⟨L2, ts2⟩ = some (w2, ⟨L3, ts3⟩) := hC
  have hb3 : bnd 3 ≤ 200 := by decide
  have F1 : Fit w1 e1.post (.row (flatC cs) cs.length q) cs := ⟨RN.grow gw1, by omega, RC.row g4.ok q, g4.ok, by omega, g4.short⟩
  have F2 : Fit w2 e2.post (.row (flatC cs) cs.length q) cs := ⟨RN.grow gw2, by omega, RC.row g4.ok q, g4.ok, by omega, g4.short⟩
  have cOf := of_tree F1 g4.proper wf1 (by omega) kd1
  have cCan := can_tree F2 g4.proper wf2 (by omega) kd2
  simp -implicitDefEqProofs only [Tryd.f7,Wa,Wb,Wc,Wd,We,Wf,Wg,Wh,Wi,Wj,Wk,Wl,Wm,Wn,Zo,Zp,evalT,Nat.reduceLT,Nat.reduceEqDiff,if_true,if_false,reduceIte,Ys,ofVal,ofCell,argT,resT,setT,Y0,Int.reduceEq,Int.reduceLT,Int.reduceLE,Int.reduceNeg,mb,Nat.reduceBEq,tys,stb,Va,storeList,Nat.reduceAdd,Nat.reduceLeDiff,tysc,empty_mk,-Ys,hK,hS,hvl,en,hix,load_3,load_hd,b39y,cy,b39z,cz,hO,hC]
  refine loop_rule (fun m T D σ => D = [] ∧ T 7 = .bool true ∧ T 9 = .row (flatC cs) cs.length q ∧ T 11 = .ptr P 0 ∧ T 12 = w1 ∧ T 13 = w2 ∧ ∃ (M : List AObj) (ts : List Nat) (ds : List Col) (dv : V), σ = ⟨M, ts⟩ ∧ T 14 = dv ∧ GC 0 ts dv ds ∧ Fewers cs ds ∧ T 15 = .int .i64 ds.length ∧ Has M P zv zs ∧ ds.length ≤ cs.length ∧ m = cs.length - ds.length) ?_ (cs.length - 0) _ _ _
    ⟨rfl, rfl, rfl, by rw [hP]; rfl, rfl, rfl, L3, ts3, [], .nilsl, rfl, rfl, .nil, fun j hj => by simp at hj, rfl, hHz3, Nat.zero_le _, rfl⟩
  rintro m T D σ ⟨rfl, t7, t9, t11, t12, t13, M, ts, ds, dv, rfl, t14, hg, hF, t15, hM, hdl, rfl⟩
  refine G_start ?_
  by_cases hlt : ds.length < cs.length
  · have c1 : (ds.length : Int) < (cs.length : Int) := by omega
    have e1' : IntKind.i64.wrap ((ds.length : Int) + 1) = ((ds.length + 1 : Nat) : Int) := by rw [wrap_i64 (by omega) (by omega)]; omega
    obtain ⟨rr, hxc⟩ := idx_C' cs q hlt
    have hkt := g4.at hlt
    have hbd := g4.bounds _ hlt
    have hwl := g4.ws _ hlt
    generalize hc : cs.getD ds.length Col.none = k at *
    have hCp := copy_call k hkt.2.1 hwl
    have hic : (rowW k.ws).isCell = true := rfl
    have ld4 := load4_rptr
    have hll : ∀ e, vLenT (some (.slice e)) (rowW k.ws) = some (.int .i64 k.ws.length) := fun e => rfl
    unfold aggC at hCp
    have hMP : ∀ o : AObj, Has (M ++ [o]) P zv zs := fun o => hM.app [o]
    have hPM := hM.lt
    have nxt : ∀ (M' : List AObj) (ts2 : List Nat) (d : Col) (dv' : V), Has M' P zv zs → GC 0 ts2 dv' (ds ++ [d]) → Fewer k d → ∃ m', m' < cs.length - ds.length ∧ ∃ (M : List AObj) (ts : List Nat) (ds2 : List Col) (dv : V), (⟨M', ts2⟩ : S) = ⟨M, ts⟩ ∧ dv' = dv ∧ GC 0 ts dv ds2 ∧ Fewers cs ds2 ∧ V.int .i64 ((ds.length + 1 : Nat) : Int) = .int .i64 ds2.length ∧ Has M P zv zs ∧ ds2.length ≤ cs.length ∧ m' = cs.length - ds2.length :=
      fun M' ts2 d dv' f1 f2 f3 => ⟨cs.length - (ds.length + 1), by omega, M', ts2, ds ++ [d], dv', rfl, rfl, f2, hF.add (by rw [hc]; exact f3), by simp, f1, by simp; omega, by simp⟩
    by_cases hw : k.ws = []
    · have gw : ((k.ws.length : Int) = 0) = True := eq_true (by rw [hw]; rfl)
      have e2 : IntKind.i64.wrap (k.hi - k.lo) = k.hi - k.lo := wrap_i64 (by omega) (by omega)
      have e3 : IntKind.i64.wrap (k.hi - k.lo + 1) = k.hi - k.lo + 1 := wrap_i64 (by omega) (by omega)
      obtain ⟨r1, M1, hT1, hH1, hK1, hl1, p1, p2, _⟩ := take_at Kz (hMP (.cells [.str k.name, .int .i64 k.lo, .int .i64 k.hi, rowW k.ws] 46)) (k.hi - k.lo + 1) (by unfold In64; omega)
      have hp2 := p2 (by omega)
      have e4 : IntKind.i64.wrap (k.lo + r1) = k.lo + r1 := wrap_i64 (by omega) (by omega)
      have hG1 : M1[M.length]? = some (.cells [.str k.name, .int .i64 k.lo, .int .i64 k.hi, rowW k.ws] 46) := by rw [hK1.2 _ (by simp) (by omega)]; exact heap_end _ _
      have hs1 : ∀ Y, (M1.set M.length Y)[M.length]? = some Y := fun Y => List.getElem?_set_self (List.getElem?_eq_some_iff.1 hG1).1
      have e5 : IntKind.i64.wrap (k.hi - (k.lo + r1)) = k.hi - (k.lo + r1) := wrap_i64 (by omega) (by omega)
      have e6 : IntKind.i64.wrap (k.hi - (k.lo + r1) + 1) = k.hi - (k.lo + r1) + 1 := wrap_i64 (by omega) (by omega)
      have hHs : Has (M1.set M.length (.cells [.str k.name, .int .i64 (k.lo + r1), .int .i64 k.hi, rowW k.ws] 46)) P zv zs := by
        obtain ⟨a0, b1, b2⟩ := hH1
        exact ⟨a0, b1, by rw [List.getElem?_set_ne (by omega)]; exact b2⟩
      obtain ⟨r2, M2, hT2, hH2', hK2', hl2, p3, p4, _⟩ := take_at Kz hHs (k.hi - (k.lo + r1) + 1) (by unfold In64; omega)
      have hp4 := p4 (by omega)
      have e7 : IntKind.i64.wrap (k.lo + r1 + r2) = k.lo + r1 + r2 := wrap_i64 (by omega) (by omega)
      have hG2 : M2[M.length]? = some (.cells [.str k.name, .int .i64 (k.lo + r1), .int .i64 k.hi, rowW k.ws] 46) := by rw [hK2'.2 _ (List.getElem?_eq_some_iff.1 (hs1 _)).1 (by omega)]; exact hs1 _
      have hs2 : ∀ Y, (M2.set M.length Y)[M.length]? = some Y := fun Y => List.getElem?_set_self (List.getElem?_eq_some_iff.1 hG2).1
      have ld := ld4_at (hs2 (.cells [.str k.name, .int .i64 (k.lo + r1), .int .i64 (k.lo + r1 + r2), rowW k.ws] 46))
      have hHs2 : Has (M2.set M.length (.cells [.str k.name, .int .i64 (k.lo + r1), .int .i64 (k.lo + r1 + r2), rowW k.ws] 46)) P zv zs := by
        obtain ⟨a0, b1, b2⟩ := hH2'
        exact ⟨a0, b1, by rw [List.getElem?_set_ne (by omega)]; exact b2⟩
      obtain ⟨dv', ts2, hA, hg', _⟩ := GC.push (hp := M2.set M.length (.cells [.str k.name, .int .i64 (k.lo + r1), .int .i64 (k.lo + r1 + r2), rowW k.ws] 46)) hg (Nat.zero_le _) ⟨k.name, k.lo + r1, k.lo + r1 + r2, rowW k.ws, k.ws⟩ rfl .full (by omega)
      simp only at hA
      simp -implicitDefEqProofs only [Wa,Wb,Wc,Wd,We,Wf,Wg,Wh,Wi,Wj,Wk,Wl,Wm,Wn,Zo,Zp,evalT,Nat.reduceLT,Nat.reduceEqDiff,if_true,if_false,reduceIte,Ys,ofVal,ofCell,argT,resT,setT,Y0,Int.reduceEq,Int.reduceLT,Int.reduceLE,Int.reduceNeg,mb,Nat.reduceBEq,tys,stb,Va,storeList,Nat.reduceAdd,Nat.reduceLeDiff,t7,t9,t11,t12,t13,t14,t15,-Ys,c1,hxc,ld4,hCp,isCell_int,isCell_str,hic,heap_end,set_end,hll,gw]
      refine G_stab rfl (fun _ => True) trivial (by kernel_rfl) ?_
      simp -implicitDefEqProofs only [Wa,Wb,Wc,Wd,We,Wf,Wg,Wh,Wi,Wj,Wk,Wl,Wm,Wn,Zo,Zp,evalT,Nat.reduceLT,Nat.reduceEqDiff,if_true,if_false,reduceIte,Ys,ofVal,ofCell,argT,resT,setT,Y0,Int.reduceEq,Int.reduceLT,Int.reduceLE,Int.reduceNeg,mb,Nat.reduceBEq,tys,stb,Va,storeList,Nat.reduceAdd,Nat.reduceLeDiff,t7,t9,t11,t12,t13,t14,t15,-Ys,hxc,load_hd,e2,e3,hT1,e4,hG1,isCell_int,sc_take,sc_load,sc_move,sc_indexAddr,sc_fieldAddr,rd_fieldAddr,sc_build',rd_build',rd_bs,sc_binOp,rd_binOp,sc_assign,rd_assign,sc_store,rd_store,rd_load,rd_move,rd_indexAddr,rd_call,aread_load]
      refine ⟨fun _ => trivial, fun _ => trivial, fun _ => trivial, ?_⟩
      refine G_stab rfl (fun s => cellAt s.heap[M.length]? 1 = some (V.int .i64 (k.lo + r1))) (by rw [hs1]; rfl) (by kernel_rfl) ?_
      simp -implicitDefEqProofs only [Wa,Wb,Wc,Wd,We,Wf,Wg,Wh,Wi,Wj,Wk,Wl,Wm,Wn,Zo,Zp,evalT,Nat.reduceLT,Nat.reduceEqDiff,if_true,if_false,reduceIte,Ys,ofVal,ofCell,argT,resT,setT,Y0,Int.reduceEq,Int.reduceLT,Int.reduceLE,Int.reduceNeg,mb,Nat.reduceBEq,tys,stb,Va,storeList,Nat.reduceAdd,Nat.reduceLeDiff,t7,t9,t11,t12,t13,t14,t15,-Ys,e1',hxc,load_hd,hs1,e5,e6,hT2,e7,hG2,hs2,List.set_set,isCell_int,ld,opT_rowO,rowC1,hA,sc_take,sc_load,sc_move,sc_indexAddr,sc_fieldAddr,rd_fieldAddr,sc_build',rd_build',rd_bs,sc_binOp,rd_binOp,sc_assign,rd_assign,sc_store,rd_store,rd_load,rd_move,rd_indexAddr,rd_call,aread_load]
      exact ⟨fun s h => h, fun s _ => trivial, fun s h => h, nxt _ _ _ _ hHs2 hg' ⟨rfl, rfl, rfl, fun _ => ⟨by simp only; omega, by simp only; omega, by simp only; omega⟩, fun h => absurd hw h⟩⟩
    · have gw : ((k.ws.length : Int) = 0) = False := eq_false (fun h => hw (List.eq_nil_of_length_eq_zero (by omega)))
      have ld := ld4_at (heap_end M (.cells [.str k.name, .int .i64 k.lo, .int .i64 k.hi, rowW k.ws] 46))
      obtain ⟨dv', ts2, hA, hg', _⟩ := GC.push (hp := M ++ [.cells [.str k.name, .int .i64 k.lo, .int .i64 k.hi, rowW k.ws] 46]) hg (Nat.zero_le _) ⟨k.name, k.lo, k.hi, rowW k.ws, k.ws⟩ rfl .full (by omega)
      simp only at hA
      simp -implicitDefEqProofs only [Wa,Wb,Wc,Wd,We,Wf,Wg,Wh,Wi,Wj,Wk,Wl,Wm,Wn,Zo,Zp,evalT,Nat.reduceLT,Nat.reduceEqDiff,if_true,if_false,reduceIte,Ys,ofVal,ofCell,argT,resT,setT,Y0,Int.reduceEq,Int.reduceLT,Int.reduceLE,Int.reduceNeg,mb,Nat.reduceBEq,tys,stb,Va,storeList,Nat.reduceAdd,Nat.reduceLeDiff,t7,t9,t11,t12,t13,t14,t15,-Ys,c1,e1',hxc,ld4,hCp,isCell_int,isCell_str,hic,heap_end,set_end,hll,gw,ld,opT_rowO,rowC1,hA]
      exact nxt _ _ _ _ (hMP _) hg' ⟨rfl, rfl, rfl, fun h => absurd h hw, fun _ => ⟨rfl, rfl⟩⟩
  · have hde : ds.length = cs.length := by omega
    have c1 : ¬ (ds.length : Int) < (cs.length : Int) := by omega
    obtain ⟨q2, rfl⟩ := hg.isrow (by omega)
    have kD := hF.kits hde g4
    have hLs := hF.less hde g4
    have D1 : Fit w1 e1.post (.row (flatC ds) ds.length q2) ds := ⟨RN.grow gw1, by omega, RC.row kD.ok q2, kD.ok, by omega, kD.short⟩
    have D2 : Fit w2 e2.post (.row (flatC ds) ds.length q2) ds := ⟨RN.grow gw2, by omega, RC.row kD.ok q2, kD.ok, by omega, kD.short⟩
    have dOf := of_tree D1 kD.proper (WF.less hLs e1 wf1) (by omega) kd1
    have dCan := can_tree D2 kD.proper (WF.less hLs e2 wf2) (by omega) kd2
    have s1 := Ex.fewer g4.tame kD.tame hLs e1 wf1
    have s2 := Ex.fewer g4.tame kD.tame hLs e2 wf2
    have o1 := Ex.ok kD.tame e1 (WF.less hLs e1 wf1)
    have o2 := Ex.ok g4.tame e2 wf2
    have o3 := Ex.ok kD.tame e2 (WF.less hLs e2 wf2)
    rw [kd1] at o1; rw [kd2] at o2 o3
    obtain ⟨b1, _, _⟩ := o1.num
    obtain ⟨p0, p1, p2⟩ := o2.bit
    obtain ⟨r0, r1, r2⟩ := o3.bit
    unfold Sub at s1 s2
    generalize (e1.spn cs).1 = lo at *
    generalize (e1.spn cs).2 = hi at *
    generalize (e2.spn cs).1 = pl at *
    generalize (e2.spn cs).2 = ph at *
    generalize (e1.spn ds).1 = lo' at *
    generalize (e1.spn ds).2 = hi' at *
    generalize (e2.spn ds).1 = pl' at *
    generalize (e2.spn ds).2 = ph' at *
    have c2 : (lo' ≥ lo) = True := eq_true (by omega)
    have c3 : (hi' ≤ hi) = True := eq_true (by omega)
    have c4 : (lo' ≤ hi') = True := eq_true b1
    rcases p1 with rfl | rfl <;> rcases p2 with rfl | rfl <;> rcases r1 with rfl | rfl <;> rcases r2 with rfl | rfl
    all_goals first
      | omega
      | (simp only [decide_true, decide_false, Int.reduceEq, reduceIte] at cCan dCan
         simp -implicitDefEqProofs only [Wa,Wb,Wc,Wd,We,Wf,Wg,Wh,Wi,Wj,Wk,Wl,Wm,Wn,Zo,Zp,evalT,Nat.reduceLT,Nat.reduceEqDiff,if_true,if_false,reduceIte,Ys,ofVal,ofCell,argT,resT,setT,Y0,Int.reduceEq,Int.reduceLT,Int.reduceLE,Int.reduceNeg,mb,Nat.reduceBEq,tys,stb,Va,storeList,Nat.reduceAdd,Nat.reduceLeDiff,t7,t9,t11,t12,t13,t14,t15,c1,cOf,cCan,dOf,dCan,c2,c3,c4]
         rfl)
theorem fewer_foundt {u v w : V} (h : Tyd Tryd.prog 6 24 [u]) (h2 : Tyd Tryd.prog 6 24 [v]) (h3 : Tyd Tryd.prog 6 24 [w]) : Go.Ab.Found env 7 [u, v, w] := by
  obtain ⟨xs, a1, a2, a3⟩ := tyd_IS (k := 4) h
  obtain ⟨ys, b1, b2, b3⟩ := tyd_IS (k := 4) h2
  obtain ⟨zs, c1, c2, c3⟩ := tyd_IS (k := 4) h3
  exact fewer_found ⟨a1, a3, a2⟩ ⟨b1, b3, b2⟩ ⟨c1, c3, c2⟩
end Go.Proofs.YtcjapamldllleaaDoor.N
