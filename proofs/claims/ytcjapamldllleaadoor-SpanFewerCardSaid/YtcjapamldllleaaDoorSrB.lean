/- Proved here: the package's run over spans. Conditions: those of each theorem; no statement of the seat is proved in this text. -/
import Derived.Test.YtcjapamldllleaaDoorSrA
namespace Go.Proofs.YtcjapamldllleaaDoor
open Go.Ab
set_option maxHeartbeats 4000000
set_option maxHeartbeats 4000000
set_option maxRecDepth 100000
set_option linter.unusedSimpArgs false
set_option linter.unusedVariables false
def Rs.v (s : Rs) : V := .agg [.int .i64 s.lo, .int .i64 s.hi, .bool s.yes, .bool s.no]
theorem build52o (x : Int) : buildO env 52 [(0, .int .i64 x)] = some (.agg [.int .i64 x, .int .i64 0, .str []]) := by kernel_rfl
end Go.Proofs.YtcjapamldllleaaDoor
namespace Go.Proofs.YtcjapamldllleaaDoor
open Go.Ab
set_option maxHeartbeats 4000000
set_option maxHeartbeats 4000000
set_option maxRecDepth 100000
set_option linter.unusedSimpArgs false
set_option linter.unusedVariables false
end Go.Proofs.YtcjapamldllleaaDoor
namespace Go.Proofs.YtcjapamldllleaaDoor
open Go.Ab
set_option maxHeartbeats 4000000
set_option maxHeartbeats 4000000
set_option maxRecDepth 100000
set_option linter.unusedSimpArgs false
set_option linter.unusedVariables false
theorem weakL_ivs : ∀ l : List Iv, V.weak.weakL (ivs l) = ivs l
  | [] => rfl
  | p :: l => by rw [ivs_cons]; simp only [V.weak.weakL, V.weak, weakL_ivs l]
theorem weakL_strs : ∀ l : List (List UInt8), V.weak.weakL (l.map V.str) = l.map V.str
  | [] => rfl
  | x :: l => by simp only [List.map_cons, V.weak.weakL, V.weak, weakL_strs l]
theorem weak_W {w : V} {ws : List (List UInt8)} (h : IsW w ws) : w.weak = w := by
  rcases h with ⟨rfl, _⟩ | rfl
  · rfl
  · simp only [V.weak, weakL_strs, RCap.weak]
theorem weakL_flatC : ∀ {cs : List Col}, OkC cs → V.weak.weakL (flatC cs) = flatC cs
  | [], _ => rfl
  | c :: cs, h => by
    rw [flatC_cons]
    simp only [V.weak.weakL, V.weak, weakL_flatC (cs := cs) (fun d hd => h d (List.mem_cons_of_mem _ hd)), weak_W (h c List.mem_cons_self)]
theorem weak_C {cv : V} {cs : List Col} (h : IsC cv cs) (ok : OkC cs) : cv.weak = cv := by
  rcases h with ⟨rfl, _⟩ | ⟨q, rfl | rfl, rfl⟩
  · rfl
  · simp only [V.weak, weakL_flatC ok, RCap.weak]
  · simp only [V.weak, weakL_flatC ok, RCap.weak]
abbrev at0 (d : List Iv) (i : Nat) : Iv := d.getD i (0, 0)
theorem applyI_call (cv : V) (cs : List Col) (hc : IsC cv cs) (ok : OkC cs) (op : Int) (h1 : 4 ≤ op) (h2 : op ≤ 17) (d : List Iv) (hd : d.length = (arI op).toNat) (hq : In64 (at0 d 1).1 ∧ In64 (at0 d 1).2) (q e w : Nat) (σ : S) :
    callFn env (ev env) 133 [cv, .int .i64 op, .row (ivs d) d.length (.tok q e w)] σ = some (ivV (opI op (at0 d 0) (at0 d 1) (at0 d 2)), σ) := by
  have hcc := closed_C hc ok
  have hwk : [cv, V.int .i64 op, V.row (ivs d) d.length (.tok q e w)].map V.weak = [cv, V.int .i64 op, rowI d] := by
    simp only [List.map_cons, List.map_nil, weak_C hc ok, V.weak, weakL_ivs, RCap.weak, rowI]
  rw [callFn_weak rfl rfl (by simp [V.closed, V.closed.closedL]) (by rw [hwk]; simp [rowI, V.closed, V.closed.closedL, hcc, closed_ivs]), hwk]
  have ho : op = 4 ∨ op = 5 ∨ op = 6 ∨ op = 7 ∨ op = 8 ∨ op = 9 ∨ op = 10 ∨ op = 11 ∨ op = 12 ∨ op = 13 ∨ op = 14 ∨ op = 15 ∨ op = 16 ∨ op = 17 := by omega
  rcases ho with rfl | rfl | rfl | rfl | rfl | rfl | rfl | rfl | rfl | rfl | rfl | rfl | rfl | rfl
  · match d, hd with | [x, y], _ => exact applyI4_call cv hcc σ x y
  · match d, hd with | [x, y], _ => exact applyI5_call cv hcc σ x y
  · match d, hd, hq with | [x, y], _, hq => exact applyI6_call cv hcc σ x y hq.1 hq.2
  · match d, hd with | [x], _ => exact applyI7_call cv hcc σ x
  · match d, hd with | [x, y, z], _ => exact applyI8_call cv hcc σ x y z
  · match d, hd with | [x, y], _ => exact applyI9_call cv hcc σ x y
  · match d, hd with | [x, y], _ => exact applyI10_call cv hcc σ x y
  · match d, hd with | [x, y], _ => exact applyI11_call cv hcc σ x y
  · match d, hd with | [x, y], _ => exact applyI12_call cv hcc σ x y
  · match d, hd with | [x, y], _ => exact applyI13_call cv hcc σ x y
  · match d, hd with | [x, y], _ => exact applyI14_call cv hcc σ x y
  · match d, hd with | [x, y], _ => exact applyI15_call cv hcc σ x y
  · match d, hd with | [x, y], _ => exact applyI16_call cv hcc σ x y
  · match d, hd with | [x], _ => exact applyI17_call cv hcc σ x
def stepI (l : List Nd) (i : Nat) (cs : List Col) (vs : List Iv) : List Iv :=
  if (gN l i).op = 1 then vs ++ [dup (gN l i).n]
  else if (gN l i).op = 2 then vs ++ [((colN cs (gN l i).col).lo, (colN cs (gN l i).col).hi)]
  else if (gN l i).op = 3 then vs ++ [dup (wordV l i cs)]
  else vs.take (vs.length - (arI (gN l i).op).toNat) ++ [opI (gN l i).op (at0 (vs.drop (vs.length - (arI (gN l i).op).toNat)) 0) (at0 (vs.drop (vs.length - (arI (gN l i).op).toNat)) 1) (at0 (vs.drop (vs.length - (arI (gN l i).op).toNat)) 2)]
def runI (l : List Nd) (cs : List Col) : Nat → Nat → List Iv → List Iv
  | 0, _, vs => vs
  | m + 1, i, vs => runI l cs m (i + 1) (stepI l i cs vs)
def stepR (l : List Nd) (i : Nat) (cs : List Col) (vs : List Rs) : List Rs :=
  if (gN l i).op = 1 then vs ++ [numR (gN l i).n (gN l i).n]
  else if (gN l i).op = 2 then vs ++ [numR (colN cs (gN l i).col).lo (colN cs (gN l i).col).hi]
  else if (gN l i).op = 3 then vs ++ [numR (wordV l i cs) (wordV l i cs)]
  else vs.take (vs.length - (arI (gN l i).op).toNat) ++ [opR (gN l i).op ((vs.drop (vs.length - (arI (gN l i).op).toNat)).getD 0 Rs.none) ((vs.drop (vs.length - (arI (gN l i).op).toNat)).getD 1 Rs.none) ((vs.drop (vs.length - (arI (gN l i).op).toNat)).getD 2 Rs.none)]
def Rels : List Int → List Iv → List Rs → Prop
  | [], [], [] => True
  | k :: ks, p :: ps, s :: ss => Rel k p s ∧ Rels ks ps ss
  | _, _, _ => False
theorem Rels.len : ∀ {ks : List Int} {ps : List Iv} {ss : List Rs}, Rels ks ps ss → ks.length = ps.length ∧ ks.length = ss.length
  | [], [], [], _ => ⟨rfl, rfl⟩
  | _ :: _, _ :: _, _ :: _, h => by have := Rels.len h.2; simp [this.1.symm, this.2.symm]
  | [], [], _ :: _, h => h.elim
  | [], _ :: _, _, h => h.elim
  | _ :: _, [], _, h => h.elim
  | _ :: _, _ :: _, [], h => h.elim
theorem Rels.app : ∀ {a : List Int} {x : List Iv} {u : List Rs} {b : List Int} {y : List Iv} {w : List Rs}, Rels a x u → Rels b y w → Rels (a ++ b) (x ++ y) (u ++ w)
  | [], [], [], _, _, _, _, h => h
  | _ :: _, _ :: _, _ :: _, _, _, _, h, g => ⟨h.1, Rels.app h.2 g⟩
  | [], [], _ :: _, _, _, _, h, _ => h.elim
  | [], _ :: _, _, _, _, _, h, _ => h.elim
  | _ :: _, [], _, _, _, _, h, _ => h.elim
  | _ :: _, _ :: _, [], _, _, _, h, _ => h.elim
theorem Rels.split : ∀ {a b : List Int} {v : List Iv} {w : List Rs}, Rels (a ++ b) v w → ∃ x y u t, v = x ++ y ∧ w = u ++ t ∧ Rels a x u ∧ Rels b y t
  | [], b, v, w, h => ⟨[], v, [], w, rfl, rfl, trivial, h⟩
  | k :: a, b, x :: v, s :: w, h => by
    obtain ⟨p, q, r, t, rfl, rfl, h1, h2⟩ := Rels.split h.2
    exact ⟨x :: p, q, s :: r, t, rfl, rfl, ⟨h.1, h1⟩, h2⟩
  | _ :: _, _, [], _, h => h.elim
  | _ :: _, _, _ :: _, [], h => h.elim
end Go.Proofs.YtcjapamldllleaaDoor
namespace Go.Proofs.YtcjapamldllleaaDoor
open Go.Ab
set_option maxHeartbeats 4000000
set_option maxHeartbeats 4000000
set_option maxRecDepth 100000
set_option linter.unusedSimpArgs false
set_option linter.unusedVariables false
theorem Rels.get : ∀ {a : List Int} {y : List Iv} {t : List Rs}, Rels a y t → ∀ i, i < a.length → Rel (a.getD i 0) (at0 y i) (t.getD i Rs.none)
  | _ :: _, _ :: _, _ :: _, h, 0, _ => h.1
  | _ :: a, _ :: y, _ :: t, h, i + 1, hi => by
    have := Rels.get h.2 i (by simpa using hi)
    simpa [at0] using this
  | [], _, _, _, i, hi => by simp at hi
  | _ :: _, [], _, h, _, _ => h.elim
  | _ :: _, _ :: _, [], h, _, _ => h.elim
theorem take_app {α : Type} {x y : List α} {n : Nat} (h : y.length = n) : (x ++ y).take ((x ++ y).length - n) = x ∧ (x ++ y).drop ((x ++ y).length - n) = y := by
  have e : (x ++ y).length - n = x.length := by rw [List.length_append]; omega
  rw [e]; exact ⟨List.take_left, List.drop_left⟩
theorem step_rel {l : List Nd} {i : Nat} {cs : List Col} {st st' : List Int} {vs : List Iv} {ss : List Rs} (hn : nodeE l i cs = 0) (hp : popN st (takesN (gN l i).op).1 = some st') (hr : Rels st vs ss) (hw : ∀ nm, (colN cs nm).ws.length ≤ 1000)
    (hb : ∀ nm, 0 ≤ seekK cs nm → (colN cs nm).lo ≤ (colN cs nm).hi ∧ -1000000 ≤ (colN cs nm).lo ∧ (colN cs nm).hi ≤ 1000000) : Rels (st' ++ [(takesN (gN l i).op).2]) (stepI l i cs vs) (stepR l i cs ss) := by
  obtain ⟨o1, o2⟩ := nodeE_op hn
  have hst := popN_eq hp
  subst hst
  have hlow : (gN l i).op ≤ 3 → takesN (gN l i).op = ([], 0) := fun h => by unfold takesN; rw [if_pos h]
  obtain ⟨_, t2, _, _⟩ := step_ok (xs := []) (vs := st'.map (fun _ => 0) ++ (takesN (gN l i).op).1.map fun _ => 0) hn hp (by
    have : ∀ ks : List Int, Tys ks (ks.map fun _ => 0) := fun ks => by
      induction ks with
      | nil => trivial
      | cons k ks ih => exact ⟨⟨by simp [In64], fun _ => .inl rfl⟩, ih⟩
    exact (this st').app (this _)) (fun x hx => by simp at hx) hw
  by_cases h1 : (gN l i).op = 1
  · have hn2 : 0 ≤ (gN l i).n ∧ (gN l i).n ≤ 1000000000 := by
      unfold nodeE at hn
      split at hn
      · simp at hn
      · split at hn
        · simp at hn
        · omega
    rw [hlow (by omega)] at hr ⊢
    rw [List.append_nil] at hr
    unfold stepI stepR
    rw [if_pos h1, if_pos h1]
    exact hr.app ⟨.mknum (Int.le_refl _) (by unfold BI dup; simp only; omega) (by unfold BI dup; simp only; omega) rfl rfl, trivial⟩
  by_cases h2 : (gN l i).op = 2
  · obtain ⟨b1, b2, b3⟩ := hb _ (t2 h2)
    rw [hlow (by omega)] at hr ⊢
    rw [List.append_nil] at hr
    unfold stepI stepR
    rw [if_neg h1, if_neg h1, if_pos h2, if_pos h2]
    exact hr.app ⟨.mknum b1 (by unfold BI; simp only; omega) (by unfold BI; simp only; omega) rfl rfl, trivial⟩
  by_cases h3 : (gN l i).op = 3
  · have hpb := placeW_le (colN cs (gN l (i - 1)).col).ws (gN l i).col (colN cs (gN l (i - 1)).col).ws.length 0
    have hw1 := hw (gN l (i - 1)).col
    rw [hlow (by omega)] at hr ⊢
    rw [List.append_nil] at hr
    unfold stepI stepR
    rw [if_neg h1, if_neg h1, if_neg h2, if_neg h2, if_pos h3, if_pos h3]
    exact hr.app ⟨.mknum (Int.le_refl _) (by unfold BI dup wordV; simp only; omega) (by unfold BI dup wordV; simp only; omega) rfl rfl, trivial⟩
  obtain ⟨a1, a2, a3⟩ := takes_ar (op := (gN l i).op) (by omega) o2
  obtain ⟨x, y, u, t, rfl, rfl, w1, w2⟩ := hr.split
  have hl := w2.len
  obtain ⟨e1, e2⟩ := take_app (x := x) (y := y) (n := (arI (gN l i).op).toNat) (by omega)
  obtain ⟨e3, e4⟩ := take_app (x := u) (y := t) (n := (arI (gN l i).op).toNat) (by omega)
  unfold stepI stepR
  rw [if_neg h1, if_neg h1, if_neg h2, if_neg h2, if_neg h3, if_neg h3, e1, e2, e3, e4]
  refine w1.app ⟨op_rel (by omega) o2 (w2.get 0 (by omega)) (fun h => w2.get 1 (by omega)) (fun h => ?_), trivial⟩
  have := w2.get 2 (by rw [a1, h]; decide)
  rw [h] at this
  exact this
theorem bounds_of {cs : List Col} (hP : Proper cs) (hs : ∀ i, i < cs.length → Short (cs.getD i Col.none)) (nm : List UInt8) (h : 0 ≤ seekK cs nm) : (colN cs nm).lo ≤ (colN cs nm).hi ∧ -1000000 ≤ (colN cs nm).lo ∧ (colN cs nm).hi ≤ 1000000 := by
  obtain ⟨j, k1, k2, k3⟩ := colN_at h
  rw [k3]
  exact okCol_bounds (hP j k2) (hs j k2)
end Go.Proofs.YtcjapamldllleaaDoor
namespace Go.Proofs.YtcjapamldllleaaDoor
open Go.Ab
set_option maxHeartbeats 4000000
set_option maxHeartbeats 4000000
set_option maxRecDepth 100000
set_option linter.unusedSimpArgs false
set_option linter.unusedVariables false
theorem at39 : env.P.funcs[39]? = some Tryd.f39 := by kernel_rfl
theorem at60 : env.P.funcs[60]? = some Tryd.f60 := by kernel_rfl
theorem e92 : elemS env 92 = some 67 := by kernel_rfl
theorem zn67 : zeroN env 67 = some 2 := by kernel_rfl
theorem by67 : bys env 67 = some 16 := by kernel_rfl
theorem sz67 : sz env 67 = some 2 := by kernel_rfl
theorem mb39 (r : Nat) : env.mutb 39 r = true := rfl
theorem ivs_app : ∀ a b : List Iv, ivs (a ++ b) = ivs a ++ ivs b
  | [], b => rfl
  | p :: a, b => by rw [List.cons_append, ivs_cons, ivs_cons, ivs_app a b]; rfl
theorem ivs_drop : ∀ (l : List Iv) (k : Nat), (ivs l).drop (k * 2) = ivs (l.drop k)
  | l, 0 => by simp
  | [], k + 1 => by simp [ivs]
  | p :: l, k + 1 => by
    rw [ivs_cons, show (k + 1) * 2 = k * 2 + 1 + 1 by omega]
    simp only [List.drop_succ_cons]
    exact ivs_drop l k
theorem ivs_take : ∀ (l : List Iv) (k : Nat), (ivs l).take (k * 2) = ivs (l.take k)
  | l, 0 => by simp [ivs]
  | [], k + 1 => by simp [ivs]
  | p :: l, k + 1 => by
    rw [ivs_cons, show (k + 1) * 2 = k * 2 + 1 + 1 by omega]
    simp only [List.take_succ_cons, ivs_cons, ivs_take l k]
theorem build_j {T : Tm} (L : List AObj) (ts : List Nat) (x : Operand) : opT env true T ⟨L, ts⟩ (.buildSlice 92 1 #[(0, x)]) = (evalT env T x).bind fun v => if v.cells.length = 2 then some (.hsl L.length 0 1 1 .exact, ⟨L ++ [.cells v.cells 67], ts⟩) else none := by
  obtain ⟨z, hz, hl⟩ : ∃ z, zeroV env 67 = some z ∧ z.cells.length = 2 := ⟨_, tyi.2.2.1, rfl⟩
  unfold opT
  simp only [apure, aread, astate, partsO]
  cases evalT env T x with
  | none => rfl
  | some v =>
    simp only [Option.map_some, Option.bind_some, e92, sz67, hz]
    by_cases hv : v.cells.length = 2
    · have : z.cells.drop 2 = [] := List.drop_of_length_le (by omega)
      simp [vFill, hl, hv, this, S.push, env]
    · simp [vFill, hv]
abbrev SJ (L : List AObj) (sv : V) (vs : List Iv) : Prop := StkV L 67 2 sv vs.length (ivs vs)
theorem SJ.more {L : List AObj} {sv : V} {vs : List Iv} (h : SJ L sv vs) (X : List AObj) : SJ (L ++ X) sv vs := h.move fun b hb => by rw [List.getElem?_append_left (h.lt hb)]
theorem SJ.push {L : List AObj} {sv : V} {vs : List Iv} (h : SJ L sv vs) (ts : List Nat) (p : Iv) (hl : vs.length ≤ 4000) :
    ∃ v' L', appO env true ⟨L ++ [.cells [.int .i64 p.1, .int .i64 p.2] 67], ts⟩ 92 92 sv (.hsl L.length 0 1 1 .exact) = some (v', ⟨L', ts⟩) ∧ SJ L' v' (vs ++ [p]) ∧ (∀ q, q < L.length → blkOf sv ≠ some q → L'[q]? = L[q]?) ∧ (blkOf v' = blkOf sv ∨ blkOf v' = some (L.length + 1)) := by
  have hlim : lim = 2 ^ 40 := rfl
  have hc : vCells (L ++ [AObj.cells [V.int .i64 p.1, V.int .i64 p.2] 67]) 2 1 (.hsl L.length 0 1 1 .exact) = some [.int .i64 p.1, .int .i64 p.2] := by simp [vCells]
  obtain ⟨v', L', ha, hs, hk, hlen, hbk⟩ := StkV.push (E := env) (ts := ts) (ty := 92) (ty2 := 92) (y := .hsl L.length 0 1 1 .exact) (h.more [AObj.cells [V.int .i64 p.1, V.int .i64 p.2] 67]) e92 sz67 zn67 by67 ⟨67, u92⟩ (by omega) ⟨by rw [hlim]; omega, by rw [hlim]; omega⟩ rfl hc rfl rfl
  refine ⟨v', L', ha, ?_, fun q hq hb => by rw [hk q (by simp; omega) hb, List.getElem?_append_left hq], by simpa using hbk⟩
  unfold SJ
  rw [List.length_append, ivs_app]; exact hs
theorem SJ.tail {L : List AObj} {sv : V} {vs : List Iv} (h : SJ L sv vs) (k : Nat) (hk : k < vs.length) : ∃ b off cap ex, sliceO env 92 sv (some (.int .i64 k)) none none = some (.hsl b off (vs.length - k) cap ex) ∧ vCells L 2 (vs.length - k) (.hsl b off (vs.length - k) cap ex) = some (ivs (vs.drop k)) := by
  obtain ⟨hl, ⟨rfl, h0⟩ | ⟨b, cap, cs, rfl, hbk, h1, h2, h3⟩⟩ := h
  · omega
  · refine ⟨b, 0 + k * 2, cap - k, (HCap.grow 2).cut 2, ?_, ?_⟩
    · have h5 : (k : Int) ≤ (vs.length : Int) := by omega
      have hc : k < cap ∨ k = 0 := by omega
      simp [sliceO, u92, sz67, vSlice, vBound, Nat.le_of_lt hk, hc]
    · simp only [vCells, hbk]
      rw [if_pos (by omega), ← ivs_drop, ← h3, List.drop_take, Nat.zero_add, Nat.sub_mul]
theorem cloneI_call (b off n cap : Nat) (ex : HCap) (l : List Iv) (L : List AObj) (ts : List Nat) (hn : l.length = n) (h0 : 0 < n) (hlim : n ≤ 4000) (hc : vCells L 2 n (.hsl b off n cap ex) = some (ivs l)) :
    callFn env (ev env) 60 [.hsl b off n cap ex] ⟨L, ts⟩ = some (.row (ivs l) n (.tok ts.length 0 2), ⟨L, ts ++ [0]⟩) := by
  refine callFn_eq rfl rfl at60 rfl (by simp [Tryd.f60]) (by simp [Tryd.f60]) (G_start ?_)
  have hcells : ∀ l : List Iv, (ivs l).all V.isCell = true := fun l => by
    induction l with
    | nil => rfl
    | cons p l ih => rw [ivs_cons]; simp only [List.all_cons, ih, V.isCell, Bool.and_self]
  have ha : appO env false ⟨L, ts⟩ 92 92 (.row [] 0 .full) (.hsl b off n cap ex) = some (.row (ivs l) n (.tok ts.length 0 2), ⟨L, ts ++ [0]⟩) := by
    have hlim2 : n * 16 ≤ lim ∧ n ≤ lim := by have : lim = 2 ^ 40 := rfl; rw [this]; omega
    unfold appO
    simp only [e92, sz67, by67, zn67, u92, Option.bind_some, vLen, hc, if_true, aappend]
    rw [if_neg (by omega), if_pos ⟨by omega, by omega, by simp, hcells l⟩]
    simp
  have hq : ∀ c, binO env 92 c .eql (some (.hsl b off n cap ex)) (some .nilsl) = some (.bool false) := fun c => by kernel_rfl
  have hr : rowO env 92 0 [] = some (.row [] 0 .full) := by kernel_rfl
  simp -implicitDefEqProofs only [Tryd.f60,Wa,Wb,Wc,Wd,We,Wf,Wg,Wh,Wi,Wj,Wk,Wl,Wm,Wn,Zo,Zp,evalT,Nat.reduceLT,Nat.reduceEqDiff,if_true,if_false,reduceIte,Ys,ofVal,ofCell,argT,resT,setT,Y0,Int.reduceEq,Int.reduceLT,Int.reduceLE,Int.reduceNeg,mb,Nat.reduceBEq,tys,stb,Va,storeList,Nat.reduceAdd,Nat.reduceLeDiff,tysn,opT_rowO,hr,ha,hq]
  exact ⟨rfl, trivial⟩
theorem methI_num (xv : V) : methV env (.iface 71 xv) "privhouse/span.number" = some (135, xv) := by kernel_rfl
theorem methI_col (xv : V) : methV env (.iface 71 xv) "privhouse/span.column" = some (134, xv) := by kernel_rfl
theorem methI_app (xv : V) : methV env (.iface 71 xv) "privhouse/span.apply" = some (133, xv) := by kernel_rfl
theorem nilI_num (xv : V) : nilO env (.meth "privhouse/span.number" (.iface 71 xv)) = some (.meth "privhouse/span.number" (.iface 71 xv)) := by kernel_rfl
theorem nilI_col (xv : V) : nilO env (.meth "privhouse/span.column" (.iface 71 xv)) = some (.meth "privhouse/span.column" (.iface 71 xv)) := by kernel_rfl
theorem nilI_app (xv : V) : nilO env (.meth "privhouse/span.apply" (.iface 71 xv)) = some (.meth "privhouse/span.apply" (.iface 71 xv)) := by kernel_rfl
end Go.Proofs.YtcjapamldllleaaDoor
namespace Go.Proofs.YtcjapamldllleaaDoor
open Go.Ab
set_option maxHeartbeats 4000000
set_option maxHeartbeats 4000000
set_option maxRecDepth 100000
set_option linter.unusedSimpArgs false
set_option linter.unusedVariables false
theorem Rel.in64 {k : Int} {p : Iv} {s : Rs} (h : Rel k p s) : In64 p.1 ∧ In64 p.2 := by
  by_cases hk : k = 1
  · subst hk
    obtain ⟨_, h1, h2, _⟩ := h.bit
    exact ⟨in01 h1, in01 h2⟩
  · obtain ⟨_, h2⟩ := h
    rw [if_neg hk] at h2
    obtain ⟨h1, h2, _⟩ := h2
    unfold BI at h1 h2
    unfold In64
    omega
theorem Rels.in64 {a : List Int} {y : List Iv} {t : List Rs} (h : Rels a y t) (i : Nat) : In64 (at0 y i).1 ∧ In64 (at0 y i).2 := by
  rcases Nat.lt_or_ge i a.length with hi | hi
  · exact (h.get i hi).in64
  · have : at0 y i = (0, 0) := by unfold at0; rw [List.getD, List.getElem?_eq_none (by rw [← h.len.1]; exact hi)]; rfl
    rw [this]; simp [In64]
theorem node_ok {l : List Nd} {i : Nat} {cs : List Col} {st st' : List Int} {vs : List Iv} {ss : List Rs} (hn : nodeE l i cs = 0) (hp : popN st (takesN (gN l i).op).1 = some st') (hr : Rels st vs ss) (hw : ∀ nm, (colN cs nm).ws.length ≤ 1000) :
    ((gN l i).op = 2 → 0 ≤ seekK cs (gN l i).col) ∧ ((gN l i).op = 3 → 1 ≤ i ∧ (gN l (i - 1)).op = 2 ∧ (gN l i).col ∈ (colN cs (gN l (i - 1)).col).ws) ∧
    (4 ≤ (gN l i).op → (arI (gN l i).op).toNat ≤ vs.length ∧ In64 (at0 (vs.drop (vs.length - (arI (gN l i).op).toNat)) 1).1 ∧ In64 (at0 (vs.drop (vs.length - (arI (gN l i).op).toNat)) 1).2) := by
  have hst := popN_eq hp
  obtain ⟨_, t2, t3, _⟩ := step_ok (xs := []) (vs := st'.map (fun _ => 0) ++ (takesN (gN l i).op).1.map fun _ => 0) hn hp (by
    have : ∀ ks : List Int, Tys ks (ks.map fun _ => 0) := fun ks => by
      induction ks with
      | nil => trivial
      | cons k ks ih => exact ⟨⟨by simp [In64], fun _ => .inl rfl⟩, ih⟩
    rw [hst]
    exact (this st').app (this _)) (fun x hx => by simp at hx) hw
  refine ⟨t2, t3, fun h4 => ?_⟩
  obtain ⟨o1, o2⟩ := nodeE_op hn
  obtain ⟨a1, a2, a3⟩ := takes_ar (op := (gN l i).op) h4 o2
  subst hst
  obtain ⟨x, y, u, t, rfl, rfl, w1, w2⟩ := hr.split
  have hl := w2.len
  obtain ⟨e1, e2⟩ := take_app (x := x) (y := y) (n := (arI (gN l i).op).toNat) (by omega)
  rw [e2]
  exact ⟨by rw [List.length_append]; omega, w2.in64 1⟩
theorem runI_call (v : V) (l : List Nd) (hv : IsN v l) (hl : l.length ≤ 1000) (cv : V) (cs : List Col) (hc : IsC cv cs) (ok : OkC cs) (hcl : cs.length ≤ 1000) (hw : ∀ nm, (colN cs nm).ws.length ≤ 1000) (hb : ∀ nm, 0 ≤ seekK cs nm → (colN cs nm).lo ≤ (colN cs nm).hi ∧ -1000000 ≤ (colN cs nm).lo ∧ (colN cs nm).hi ≤ 1000000) (cond : Bool) (hE : exprE l cs cond = 0) (σ : S) :
    callFn env (ev env) 39 [v, cv, .iface 71 cv] σ = some (ivV (at0 (runI l cs l.length 0 []) 0), σ) := by
  have hcc := closed_C hc ok
  refine callFn_pure rfl rfl (by simp [V.closed, V.closed.closedL, hcc, closed_N hv]) at39 rfl (by simp [Tryd.f39]) (by simp [Tryd.f39]) (G_start ?_) σ
  have hR0 := exprE_zero hE
  generalize hR : exprL l cs l.length 0 [] = R at hR0
  obtain ⟨r1, r2, _⟩ := hR0
  generalize hW : runI l cs l.length 0 [] = W
  simp -implicitDefEqProofs only [Tryd.f39,Wa,Wb,Wc,Wd,We,Wf,Wg,Wh,Wi,Wj,Wk,Wl,Wm,Wn,Zo,Zp,evalT,Nat.reduceLT,Nat.reduceEqDiff,if_true,if_false,reduceIte,Ys,ofVal,ofCell,argT,resT,setT,Y0,Int.reduceEq,Int.reduceLT,Int.reduceLE,Int.reduceNeg,mb,Nat.reduceBEq,tys,stb,Va,storeList,Nat.reduceAdd,Nat.reduceLeDiff,tysn,tyi,empty_mk,len_N hv]
  refine loop_rule (fun m T D σ => D = [] ∧ T 6 = .ptr 0 0 ∧ T 0 = v ∧ T 1 = cv ∧ T 2 = .iface 71 cv ∧ T 11 = v ∧ T 12 = .int .i64 l.length ∧ ∃ (L : List AObj) (ts : List Nat) (i : Nat) (st : List Int) (vs : List Iv) (ss : List Rs) (sv : V), σ = ⟨L, ts⟩ ∧ T 7 = sv ∧ L[0]? = some (.cells [.int .i64 0, .int .i64 0] 67) ∧ blkOf sv ≠ some 0 ∧ SJ L sv vs ∧ Rels st vs ss ∧
    T 13 = .int .i64 i ∧ i ≤ l.length ∧ m = l.length - i ∧ vs.length ≤ i ∧ exprL l cs (l.length - i) i st = R ∧ runI l cs (l.length - i) i vs = W) ?_ (l.length - 0) _ _ _ ⟨rfl, rfl, rfl, rfl, rfl, rfl, rfl, _, [], 0, [], [], [], .nilsl, rfl, rfl, rfl, by simp [blkOf], .nil _ _ _, trivial, rfl, by omega, rfl, by simp, hR, hW⟩
  clear hR hW
  rintro m T D σ ⟨rfl, t6, t0, t1, t2, t11, t12, L, ts, i, st, vs, ss, sv, rfl, t7, hz0, hb0, hS, hT, t13, hi, rfl, hvl, hR, hW⟩
  refine G_start ?_
  by_cases hlt : i < l.length
  · have c1 : (i : Int) < (l.length : Int) := by omega
    have e1 : IntKind.i64.wrap ((i : Int) + 1) = ((i + 1 : Nat) : Int) := by rw [wrap_i64 (by omega) (by omega)]; omega
    have hxn := idx_N hv hlt
    change vIndexAddr 3 v (.int .i64 i) = some (.rptr (.int .i64 (gN l i).op :: .int .i64 (gN l i).n :: .str (gN l i).col :: _)) at hxn
    have hobj : (AObj.cells [V.int IntKind.i64 (gN l i).op, V.int IntKind.i64 (gN l i).n, V.str (gN l i).col] 52) = objN (gN l i) := rfl
    obtain ⟨q, hq⟩ : ∃ q, l.length - i = q + 1 := ⟨l.length - i - 1, by omega⟩
    have hq2 : q = l.length - (i + 1) := by omega
    rw [hq] at hR hW
    obtain ⟨hn, st', hp, hstep⟩ := exprL_ok (hR ▸ r1)
    rw [hR] at hstep
    have hT2 := step_rel hn hp hT hw hb
    obtain ⟨s2, s3, s4⟩ := node_ok hn hp hT hw
    simp only [runI] at hW
    obtain ⟨o1, o2⟩ := nodeE_op hn
    have hS1 := hS.more [objN (gN l i)]
    have z1 : (L ++ [objN (gN l i)])[0]? = some (.cells [.int .i64 0, .int .i64 0] 67) := by rw [List.getElem?_append_left (lt_get hz0)]; exact hz0
    have fin : ∀ (v' : V) (L' : List AObj) (ts' : List Nat), SJ L' v' (stepI l i cs vs) → (stepI l i cs vs).length ≤ i + 1 → L'[0]? = some (.cells [.int .i64 0, .int .i64 0] 67) → blkOf v' ≠ some 0 →
        ∃ m', m' < l.length - i ∧ ∃ (L : List AObj) (ts_1 : List Nat) (i_1 : Nat) (st : List Int) (vs : List Iv) (ss : List Rs) (sv : V), (⟨L', ts'⟩ : S) = ⟨L, ts_1⟩ ∧ v' = sv ∧ L[0]? = some (.cells [.int .i64 0, .int .i64 0] 67) ∧ blkOf sv ≠ some 0 ∧ SJ L sv vs ∧ Rels st vs ss ∧ V.int .i64 ((i + 1 : Nat) : Int) = .int .i64 i_1 ∧ i_1 ≤ l.length ∧ m' = l.length - i_1 ∧ vs.length ≤ i_1 ∧ exprL l cs (l.length - i_1) i_1 st = R ∧ runI l cs (l.length - i_1) i_1 vs = W :=
      fun v' L' ts' hS' hln hz' hb' => ⟨l.length - (i + 1), by omega, L', ts', i + 1, _, _, _, v', rfl, rfl, hz', hb', hS', hT2, rfl, by omega, rfl, hln, by rw [← hq2, ← hstep], by rw [← hq2]; exact hW⟩
    have ld1 := ld_op (gN l i)
    have ld2 := ld_n (gN l i)
    have ld3 := ld_col (gN l i)
    by_cases h1 : (gN l i).op = 1
    · have g1 : (((gN l i).op : Int) = 1) = True := eq_true h1
      have hstv : stepI l i cs vs = vs ++ [dup (gN l i).n] := by unfold stepI; rw [if_pos h1]
      obtain ⟨v', L', hA, hS', hkp', hbk'⟩ := hS1.push ts (dup (gN l i).n) (by omega)
      simp only [dup] at hA
      have hN : ∀ σ, callFn env (ev env) 135 [cv, .int .i64 (gN l i).n] σ = some (.agg [.int .i64 (gN l i).n, .int .i64 (gN l i).n], σ) := numberI_call cv hcc (gN l i).n
      simp -implicitDefEqProofs only [Wa,Wb,Wc,Wd,We,Wf,Wg,Wh,Wi,Wj,Wk,Wl,Wm,Wn,Zo,Zp,evalT,Nat.reduceLT,Nat.reduceEqDiff,if_true,if_false,reduceIte,Ys,ofVal,ofCell,argT,resT,setT,Y0,Int.reduceEq,Int.reduceLT,Int.reduceLE,Int.reduceNeg,mb,Nat.reduceBEq,tys,stb,Va,storeList,Nat.reduceAdd,Nat.reduceLeDiff,tysn,tyi,u92,dup,t6,t0,t1,t2,t7,t11,t12,t13,c1,e1,hxn,load3_rptr,YW,isCell_int,isCell_str,hobj,set_end,heap_end,ld1,ld2,g1,opT_invoke,methI_num,hN,build_j,hA,mb39]
      exact fin v' L' _ (by rw [hstv]; exact hS') (by rw [hstv]; simp; omega) (by rw [hkp' 0 (by simp) hb0]; exact z1) (by rcases hbk' with h | h <;> rw [h] <;> first | exact hb0 | (intro e; simp at e))
    have g1 : (((gN l i).op : Int) = 1) = False := eq_false h1
    by_cases h2 : (gN l i).op = 2
    · have g2 : (((gN l i).op : Int) = 2) = True := eq_true h2
      have hstv : stepI l i cs vs = vs ++ [((colN cs (gN l i).col).lo, (colN cs (gN l i).col).hi)] := by unfold stepI; rw [if_neg h1, if_pos h2]
      obtain ⟨j, k1, k2, k3⟩ := colN_at (s2 h2)
      rw [k3] at hstv
      have hK := indexS_call cv cs hc ok hcl (gN l i).col
      rw [k1] at hK
      have hN : ∀ σ, callFn env (ev env) 134 [cv, .int .i64 j] σ = some (.agg [.int .i64 (cs.getD j Col.none).lo, .int .i64 (cs.getD j Col.none).hi], σ) := columnI_call cv cs hc ok j k2
      obtain ⟨v', L', hA, hS', hkp', hbk'⟩ := hS1.push ts ((cs.getD j Col.none).lo, (cs.getD j Col.none).hi) (by omega)
      simp -implicitDefEqProofs only [Wa,Wb,Wc,Wd,We,Wf,Wg,Wh,Wi,Wj,Wk,Wl,Wm,Wn,Zo,Zp,evalT,Nat.reduceLT,Nat.reduceEqDiff,if_true,if_false,reduceIte,Ys,ofVal,ofCell,argT,resT,setT,Y0,Int.reduceEq,Int.reduceLT,Int.reduceLE,Int.reduceNeg,mb,Nat.reduceBEq,tys,stb,Va,storeList,Nat.reduceAdd,Nat.reduceLeDiff,tysn,tyi,u92,dup,t6,t0,t1,t2,t7,t11,t12,t13,c1,e1,hxn,load3_rptr,YW,isCell_int,isCell_str,hobj,set_end,heap_end,ld1,ld2,ld3,g1,g2,opT_invoke,methI_col,mkmeth,opT_nilCheck,nilI_col,hN,hK,build_j,hA,mb39]
      exact ⟨by kernel_rfl, fin v' L' _ (by rw [hstv]; exact hS') (by rw [hstv]; simp; omega) (by rw [hkp' 0 (by simp) hb0]; exact z1) (by rcases hbk' with h | h <;> rw [h] <;> first | exact hb0 | (intro e; simp at e))⟩
    have g2 : (((gN l i).op : Int) = 2) = False := eq_false h2
    by_cases h3 : (gN l i).op = 3
    · have g3 : (((gN l i).op : Int) = 3) = True := eq_true h3
      have hstv : stepI l i cs vs = vs ++ [dup (wordV l i cs)] := by unfold stepI; rw [if_neg h1, if_neg h2, if_pos h3]
      obtain ⟨w1, w2, w3⟩ := s3 h3
      have e0 : IntKind.i64.wrap ((i : Int) - 1) = ((i - 1 : Nat) : Int) := by rw [wrap_i64 (by omega) (by omega)]; omega
      have hxp := idx_N hv (show i - 1 < l.length by omega)
      change vIndexAddr 3 v (.int .i64 ((i - 1 : Nat) : Int)) = some (.rptr (.int .i64 (gN l (i - 1)).op :: .int .i64 (gN l (i - 1)).n :: .str (gN l (i - 1)).col :: _)) at hxp
      have hk0 : 0 ≤ seekK cs (gN l (i - 1)).col := Classical.byContradiction fun h => by unfold colN at w3; rw [if_neg h] at w3; simp [Col.none] at w3
      obtain ⟨j, k1, k2, k3⟩ := colN_at hk0
      have hK := indexS_call cv cs hc ok hcl (gN l (i - 1)).col
      rw [k1] at hK
      have hxk := idx_C hc k2
      have hWr := W_row (colN_W ok (gN l (i - 1)).col) w3
      have hP := indexW_call (colN cs (gN l (i - 1)).col).ws .unk (by intros; simp) (hw _) (gN l i).col
      rw [← hWr] at hP
      rw [← k3] at hxk
      change ∀ σ, _ = some (V.int .i64 (wordV l i cs), σ) at hP
      have hN : ∀ σ, callFn env (ev env) 135 [cv, .int .i64 (wordV l i cs)] σ = some (.agg [.int .i64 (wordV l i cs), .int .i64 (wordV l i cs)], σ) := numberI_call cv hcc (wordV l i cs)
      obtain ⟨v', L', hA, hS', hkp', hbk'⟩ := hS1.push ts (dup (wordV l i cs)) (by omega)
      simp only [dup] at hA
      simp -implicitDefEqProofs only [Wa,Wb,Wc,Wd,We,Wf,Wg,Wh,Wi,Wj,Wk,Wl,Wm,Wn,Zo,Zp,evalT,Nat.reduceLT,Nat.reduceEqDiff,if_true,if_false,reduceIte,Ys,ofVal,ofCell,argT,resT,setT,Y0,Int.reduceEq,Int.reduceLT,Int.reduceLE,Int.reduceNeg,mb,Nat.reduceBEq,tys,stb,Va,storeList,Nat.reduceAdd,Nat.reduceLeDiff,tysn,tyi,u92,dup,tys2,t6,t0,t1,t2,t7,t11,t12,t13,c1,e1,e0,hxn,hxp,hxk,load_hd,load3_rptr,YW,isCell_int,isCell_str,hobj,set_end,heap_end,ld1,ld2,ld3,g1,g2,g3,opT_invoke,methI_num,mkmeth,opT_nilCheck,nilI_num,hN,hK,hP,build_j,hA,mb39]
      refine G_stab rfl (fun s => s.heap[L.length]? = some (objN (gN l i))) (heap_end _ _) (by kernel_rfl) ?_
      simp -implicitDefEqProofs only [Wa,Wb,Wc,Wd,We,Wf,Wg,Wh,Wi,Wj,Wk,Wl,Wm,Wn,Zo,Zp,evalT,Nat.reduceLT,Nat.reduceEqDiff,if_true,if_false,reduceIte,Ys,ofVal,ofCell,argT,resT,setT,Y0,Int.reduceEq,Int.reduceLT,Int.reduceLE,Int.reduceNeg,mb,Nat.reduceBEq,tys,stb,Va,storeList,Nat.reduceAdd,Nat.reduceLeDiff,tysn,tyi,u92,dup,tys2,t6,t0,t1,t2,t7,t11,t12,t13,c1,e1,e0,hxn,hxp,hxk,load_hd,load3_rptr,YW,isCell_int,isCell_str,hobj,set_end,heap_end,ld1,ld2,ld3,g1,g2,g3,opT_invoke,methI_num,mkmeth,opT_nilCheck,nilI_num,hN,hK,hP,build_j,hA,mb39,sc_slice,rd_slice,sc_nil,rd_nil,sc_mkf,rd_mkf,rd_bs,sc_load,sc_move,sc_fieldAddr,sc_indexAddr,rd_indexAddr,sc_binOp,rd_binOp,sc_assign,rd_load,rd_move,rd_fieldAddr,rd_assign,rd_call,aread_load]
      have hkq : L'[L.length]? = some (objN (gN l i)) := by
        rw [hkp' L.length (by simp) (by intro e; have := hS.lt e; omega)]
        exact heap_end _ _
      repeat' refine And.intro ?_ ?_
      all_goals first
        | exact fun _ => trivial
        | exact fun s _ => trivial
        | exact fun s hs => by rw [hs]; exact ld3
        | exact fun _ => hkq
        | exact fun _ => by rw [List.getElem?_append_left (by simp)]; exact heap_end _ _
        | exact fin v' L' _ (by rw [hstv]; exact hS') (by rw [hstv]; simp; omega) (by rw [hkp' 0 (by simp) hb0]; exact z1) (by rcases hbk' with h | h <;> rw [h] <;> first | exact hb0 | (intro e; simp at e))
    have g3 : (((gN l i).op : Int) = 3) = False := eq_false h3
    have o4 : 4 ≤ (gN l i).op := by omega
    obtain ⟨a1, a2⟩ := s4 o4
    obtain ⟨_, b1, b2⟩ := takes_ar o4 o2
    have hA0 := arity_call (gN l i).op
    generalize hk : (arI (gN l i).op).toNat = k at *
    have hki : arI (gN l i).op = (k : Int) := by omega
    rw [hki] at hA0
    have hstv : stepI l i cs vs = vs.take (vs.length - k) ++ [opI (gN l i).op (at0 (vs.drop (vs.length - k)) 0) (at0 (vs.drop (vs.length - k)) 1) (at0 (vs.drop (vs.length - k)) 2)] := by unfold stepI; rw [if_neg h1, if_neg h2, if_neg h3, hk]
    have hlen := hS1.len 67
    have e5 : IntKind.i64.wrap ((vs.length : Int) - (k : Int)) = ((vs.length - k : Nat) : Int) := by rw [wrap_i64 (by omega) (by omega)]; omega
    obtain ⟨b, off, cap, ex, hsl, hvc⟩ := hS1.tail (vs.length - k) (by omega)
    have hlk : vs.length - (vs.length - k) = k := by omega
    rw [hlk] at hsl hvc
    have hdl : (vs.drop (vs.length - k)).length = k := by rw [List.length_drop]; omega
    have hCl := cloneI_call b off k cap ex (vs.drop (vs.length - k)) (L ++ [objN (gN l i)]) ts hdl (by omega) (by omega) hvc
    obtain ⟨v1, hcut, hS2, hb2⟩ := StkV.cut (E := env) hS1 u92 sz67 (vs.length - k) (by omega) none (.inl rfl)
    have hS2 : SJ (L ++ [objN (gN l i)]) v1 (vs.take (vs.length - k)) := by
      unfold SJ
      rw [List.length_take, Nat.min_eq_left (by omega), ← ivs_take]; exact hS2
    have hap : ∀ σ, callFn env (ev env) 133 [cv, .int .i64 (gN l i).op, .row (ivs (vs.drop (vs.length - k))) k (.tok ts.length 0 2)] σ = some (.agg [.int .i64 (opI (gN l i).op (at0 (vs.drop (vs.length - k)) 0) (at0 (vs.drop (vs.length - k)) 1) (at0 (vs.drop (vs.length - k)) 2)).1, .int .i64 (opI (gN l i).op (at0 (vs.drop (vs.length - k)) 0) (at0 (vs.drop (vs.length - k)) 1) (at0 (vs.drop (vs.length - k)) 2)).2], σ) := fun σ => by
      have := applyI_call cv cs hc ok (gN l i).op o4 o2 (vs.drop (vs.length - k)) (by rw [hdl, hk]) a2 ts.length 0 2 σ
      rw [hdl] at this
      exact this
    obtain ⟨v', L', hA, hS', hkeep, hbk'⟩ := hS2.push (ts ++ [0]) (opI (gN l i).op (at0 (vs.drop (vs.length - k)) 0) (at0 (vs.drop (vs.length - k)) 1) (at0 (vs.drop (vs.length - k)) 2)) (by rw [List.length_take]; omega)
    simp -implicitDefEqProofs only [Wa,Wb,Wc,Wd,We,Wf,Wg,Wh,Wi,Wj,Wk,Wl,Wm,Wn,Zo,Zp,evalT,Nat.reduceLT,Nat.reduceEqDiff,if_true,if_false,reduceIte,Ys,ofVal,ofCell,argT,resT,setT,Y0,Int.reduceEq,Int.reduceLT,Int.reduceLE,Int.reduceNeg,mb,Nat.reduceBEq,tys,stb,Va,storeList,Nat.reduceAdd,Nat.reduceLeDiff,tysn,tyi,u92,dup,t6,t0,t1,t2,t7,t11,t12,t13,c1,e1,hxn,load3_rptr,YW,isCell_int,isCell_str,hobj,set_end,heap_end,ld1,ld2,ld3,g1,g2,g3,hA0,hlen,e5,mb39]
    refine G_stab rfl (fun s => s.heap[L.length]? = some (objN (gN l i))) (heap_end _ _) (by kernel_rfl) ?_
    simp -implicitDefEqProofs only [Wa,Wb,Wc,Wd,We,Wf,Wg,Wh,Wi,Wj,Wk,Wl,Wm,Wn,Zo,Zp,evalT,Nat.reduceLT,Nat.reduceEqDiff,if_true,if_false,reduceIte,Ys,ofVal,ofCell,argT,resT,setT,Y0,Int.reduceEq,Int.reduceLT,Int.reduceLE,Int.reduceNeg,mb,Nat.reduceBEq,tys,stb,Va,storeList,Nat.reduceAdd,Nat.reduceLeDiff,tysn,tyi,u92,dup,t6,t0,t1,t2,t7,t11,t12,t13,c1,e1,load3_rptr,YW,isCell_int,isCell_str,hobj,set_end,heap_end,ld1,ld2,ld3,opT_slice,optO_none,optO_some,hcut,hsl,hCl,opT_invoke,methI_app,mkmeth,opT_nilCheck,nilI_app,hap,build_j,hA,mb39,sc_slice,rd_slice,sc_nil,rd_nil,sc_mkf,rd_mkf,rd_bs,sc_load,sc_move,sc_fieldAddr,sc_assign,rd_load,rd_move,rd_fieldAddr,rd_assign,rd_call,aread_load]
    have hkp : L'[L.length]? = some (objN (gN l i)) := by
      rw [hkeep L.length (by simp) (by rw [hb2]; intro e; have := hS.lt e; omega)]
      exact heap_end _ _
    refine ⟨fun s hs => by rw [hs]; exact ld1, fun _ => trivial, fun _ => trivial, fun _ => by rw [List.getElem?_append_left (by simp)]; exact heap_end _ _, fun _ => hkp, ?_⟩
    exact fin v' L' _ (by rw [hstv]; exact hS') (by rw [hstv, List.length_append, List.length_take]; simp; omega) (by rw [hkeep 0 (by simp) (by rw [hb2]; exact hb0)]; exact z1) (by rcases hbk' with h | h <;> rw [h] <;> first | (rw [hb2]; exact hb0) | (intro e; simp at e))
  · have hil : i = l.length := by omega
    subst hil
    have c1 : ¬ (l.length : Int) < (l.length : Int) := by omega
    rw [Nat.sub_self] at hR hW
    simp only [exprL] at hR
    simp only [runI] at hW
    subst hR hW
    have hlen : vs.length = 1 := by rw [← hT.len.1]; simp only at r2; rw [r2]; rfl
    obtain ⟨p, hp, hpl⟩ := hS.rd.2.2.2 0 (by omega)
    have hp : vIndexAddr 2 sv (.int .i64 0) = some p := hp
    have hpl : loadCellsV L 2 p = some [.int .i64 (at0 vs 0).1, .int .i64 (at0 vs 0).2] := by
      rw [hpl]
      match vs, hlen with
      | [x], _ => rfl
    have hl0 := lt_get hz0
    simp -implicitDefEqProofs only [Wa,Wb,Wc,Wd,We,Wf,Wg,Wh,Wi,Wj,Wk,Wl,Wm,Wn,Zo,Zp,evalT,Nat.reduceLT,Nat.reduceEqDiff,if_true,if_false,reduceIte,Ys,ofVal,ofCell,argT,resT,setT,Y0,Int.reduceEq,Int.reduceLT,Int.reduceLE,Int.reduceNeg,mb,Nat.reduceBEq,tys,stb,Va,storeList,Nat.reduceAdd,Nat.reduceLeDiff,tysn,tyi,u92,t6,t0,t1,t2,t7,t11,t12,t13,c1,Int.natCast_zero,hp,hpl,hz0,YW,isCell_int]
    refine V1i (v := [V.agg [.int .i64 (at0 vs 0).1, .int .i64 (at0 vs 0).2]]) ?_ ?_
    · rw [load2_ptr (by rw [List.getElem?_set_self hl0])]; rfl
    · rfl
end Go.Proofs.YtcjapamldllleaaDoor
namespace Go.Proofs.YtcjapamldllleaaDoor
open Go.Ab
set_option maxHeartbeats 4000000
set_option maxHeartbeats 4000000
set_option maxRecDepth 100000
set_option linter.unusedSimpArgs false
set_option linter.unusedVariables false
theorem at14 : env.P.funcs[14]? = some Tryd.f14 := by kernel_rfl
theorem at16 : env.P.funcs[16]? = some Tryd.f16 := by kernel_rfl
theorem mkI71 {m : Bool} {T : Tm} {σ : S} (x : Operand) : opT env m T σ (.makeInterface 71 x) = (evalT env T x).map fun v => (.iface 71 v, σ) := opT_mkI 71 x u71 (by intros; simp)
def spanV (l : List Nd) (cs : List Col) : Iv := at0 (runI l cs l.length 0 []) 0
section
variable {v : V} {l : List Nd} {cv : V} {cs : List Col}
open Classical in
theorem of_call (F : Fine v l cv cs) (σ : S) : callFn env (ev env) 14 [v, cv] σ = some (.tup (if Acc l cs false then [.int .i64 (spanV l cs).1, .int .i64 (spanV l cs).2] else [.int .i64 0, .int .i64 0]), σ) := by
  refine callFn_pure rfl rfl (by simp [V.closed, V.closed.closedL, closed_C F.hc F.ok, closed_N F.hv]) at14 rfl (by simp [Tryd.f14]) (by simp [Tryd.f14]) (G_start ?_) σ
  have hA := accepted_call v l F.hv (Nat.le_trans F.hl (by omega)) cv cs F.hc F.ok F.hcl F.hs false
  by_cases h1 : Acc l cs false
  · rw [decide_eq_true h1] at hA
    rw [if_pos h1]
    have hR : ∀ σ, callFn env (ev env) 39 [v, cv, .iface 71 cv] σ = some (.agg [.int .i64 (spanV l cs).1, .int .i64 (spanV l cs).2], σ) := runI_call v l F.hv F.hl cv cs F.hc F.ok F.hcl F.hw (bounds_of h1.2 F.hs) false h1.1
    simp -implicitDefEqProofs only [Tryd.f14,Wa,Wb,Wc,Wd,We,Wf,Wg,Wh,Wi,Wj,Wk,Wl,Wm,Wn,Zo,Zp,evalT,Nat.reduceLT,Nat.reduceEqDiff,if_true,if_false,reduceIte,Ys,ofVal,ofCell,argT,resT,setT,Y0,Int.reduceEq,Int.reduceLT,Int.reduceLE,Int.reduceNeg,mb,Nat.reduceBEq,tys,stb,Va,storeList,Nat.reduceAdd,Nat.reduceLeDiff,tysn,tyi,empty_mk,ix0,ix1,hA,hR,mkI71,YW,isCell_int]
    exact ⟨by kernel_rfl, rfl⟩
  · rw [decide_eq_false h1] at hA
    rw [if_neg h1]
    simp -implicitDefEqProofs only [Tryd.f14,Wa,Wb,Wc,Wd,We,Wf,Wg,Wh,Wi,Wj,Wk,Wl,Wm,Wn,Zo,Zp,evalT,Nat.reduceLT,Nat.reduceEqDiff,if_true,if_false,reduceIte,Ys,ofVal,ofCell,argT,resT,setT,Y0,Int.reduceEq,Int.reduceLT,Int.reduceLE,Int.reduceNeg,mb,Nat.reduceBEq,tys,stb,Va,storeList,Nat.reduceAdd,Nat.reduceLeDiff,tysn,tyi,empty_mk,hA]
    rfl
open Classical in
theorem can_call (F : Fine v l cv cs) (σ : S) : callFn env (ev env) 16 [v, cv] σ = some (.tup (if Acc l cs true then [.bool (decide ((spanV l cs).2 = 1)), .bool (decide ((spanV l cs).1 = 0))] else [.bool false, .bool false]), σ) := by
  refine callFn_pure rfl rfl (by simp [V.closed, V.closed.closedL, closed_C F.hc F.ok, closed_N F.hv]) at16 rfl (by simp [Tryd.f16]) (by simp [Tryd.f16]) (G_start ?_) σ
  have hA := accepted_call v l F.hv (Nat.le_trans F.hl (by omega)) cv cs F.hc F.ok F.hcl F.hs true
  by_cases h1 : Acc l cs true
  · rw [decide_eq_true h1] at hA
    rw [if_pos h1]
    have hR : ∀ σ, callFn env (ev env) 39 [v, cv, .iface 71 cv] σ = some (.agg [.int .i64 (spanV l cs).1, .int .i64 (spanV l cs).2], σ) := runI_call v l F.hv F.hl cv cs F.hc F.ok F.hcl F.hw (bounds_of h1.2 F.hs) true h1.1
    simp -implicitDefEqProofs only [Tryd.f16,Wa,Wb,Wc,Wd,We,Wf,Wg,Wh,Wi,Wj,Wk,Wl,Wm,Wn,Zo,Zp,evalT,Nat.reduceLT,Nat.reduceEqDiff,if_true,if_false,reduceIte,Ys,ofVal,ofCell,argT,resT,setT,Y0,Int.reduceEq,Int.reduceLT,Int.reduceLE,Int.reduceNeg,mb,Nat.reduceBEq,tys,stb,Va,storeList,Nat.reduceAdd,Nat.reduceLeDiff,tysn,tyi,empty_mk,ix0,ix1,hA,hR,mkI71,YW,isCell_int]
    refine ⟨by kernel_rfl, ?_⟩
    simp [oneOr, sealDepth, sealV_tup, mapM_seal_cons, mapM_seal_nil, sealV_bool]
  · rw [decide_eq_false h1] at hA
    rw [if_neg h1]
    simp -implicitDefEqProofs only [Tryd.f16,Wa,Wb,Wc,Wd,We,Wf,Wg,Wh,Wi,Wj,Wk,Wl,Wm,Wn,Zo,Zp,evalT,Nat.reduceLT,Nat.reduceEqDiff,if_true,if_false,reduceIte,Ys,ofVal,ofCell,argT,resT,setT,Y0,Int.reduceEq,Int.reduceLT,Int.reduceLE,Int.reduceNeg,mb,Nat.reduceBEq,tys,stb,Va,storeList,Nat.reduceAdd,Nat.reduceLeDiff,tysn,tyi,empty_mk,hA]
    rfl
end
end Go.Proofs.YtcjapamldllleaaDoor
