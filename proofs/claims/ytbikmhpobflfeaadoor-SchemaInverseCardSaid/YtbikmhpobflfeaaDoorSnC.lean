/- Proved here: the check of a column. Conditions: those of each theorem; no statement of the seat is proved in this text. -/
import Derived.Test.YtbikmhpobflfeaaDoorSnB
namespace Go.Proofs.YtbikmhpobflfeaaDoor
open Go.Ab
set_option maxHeartbeats 4000000
set_option maxRecDepth 100000
set_option linter.unusedSimpArgs false
set_option linter.unusedVariables false
set_option linter.unusedSectionVars false
theorem at131 : env.P.funcs[131]? = some Tryd.f131 := by kernel_rfl
theorem at132 : env.P.funcs[132]? = some Tryd.f132 := by kernel_rfl
theorem at142 : env.P.funcs[142]? = some Tryd.f142 := by kernel_rfl
theorem at119 : env.P.funcs[119]? = some Tryd.f119 := by kernel_rfl
theorem notname_call (s : List UInt8) (hs : s.length < 2 ^ 63) (σ : S) : callFn env (ev env) 132 [.str s] σ = some (.bool (!decide (IsName s)), σ) := by
  refine callFn_pure rfl rfl rfl at132 rfl (by simp [Tryd.f132]) (by simp [Tryd.f132]) (G_start ?_) σ
  by_cases h : IsName s <;>
  · simp -implicitDefEqProofs only [Tryd.f132,Wa,Wb,Wc,Wd,We,Wf,Wg,Wh,Wi,Wj,Wk,Wl,Wm,Wn,Zo,Zp,evalT,Nat.reduceLT,Nat.reduceEqDiff,if_true,if_false,reduceIte,Ys,ofVal,ofCell,argT,resT,setT,Y0,Int.reduceEq,Int.reduceLT,Int.reduceLE,Int.reduceNeg,mb,Nat.reduceBEq,tys,stb,name_call s hs,h]
    simp only [oneOr, sealDepth, sealV_bool, Bool.not_true, Bool.not_false]
noncomputable def firstW (ws : List (List UInt8)) : Nat → Nat → Int
  | 0, _ => -1
  | m + 1, i => if IsName (ws.getD i []) then firstW ws m (i + 1) else i
theorem firstW_neg (ws : List (List UInt8)) : ∀ m i, 0 ≤ firstW ws m i ↔ ∃ j, i ≤ j ∧ j < i + m ∧ ¬ IsName (ws.getD j [])
  | 0, i => by simp only [firstW]; constructor
               · intro h; omega
               · rintro ⟨j, h1, h2, _⟩; omega
  | m + 1, i => by
    simp only [firstW]
    by_cases h : IsName (ws.getD i [])
    · rw [if_pos h, firstW_neg ws m (i + 1)]
      constructor
      · rintro ⟨j, h1, h2, h3⟩; exact ⟨j, by omega, by omega, h3⟩
      · rintro ⟨j, h1, h2, h3⟩
        refine ⟨j, ?_, by omega, h3⟩
        rcases Nat.lt_or_ge i j with h4 | h4
        · omega
        · have : j = i := by omega
          subst this; exact absurd h h3
    · rw [if_neg h]
      exact ⟨fun _ => ⟨i, by omega, by omega, h⟩, fun _ => by omega⟩
theorem index_call (w : V) (ws : List (List UInt8)) (h : IsW w ws) (hl : ws.length ≤ 1000) (hs : ∀ i, i < ws.length → (ws.getD i []).length < 2 ^ 63) (σ : S) :
    callFn env (ev env) 142 [w, .func 132 [] []] σ = some (.int .i64 (firstW ws ws.length 0), σ) := by
  refine callFn_pure rfl rfl (by simp [V.closed, V.closed.closedL, closed_W h]) at142 rfl (by simp [Tryd.f142]) (by simp [Tryd.f142]) (G_start ?_) σ
  simp -implicitDefEqProofs only [Tryd.f142,Wa,Wb,Wc,Wd,We,Wf,Wg,Wh,Wi,Wj,Wk,Wl,Wm,Wn,Zo,Zp,evalT,Nat.reduceLT,Nat.reduceEqDiff,if_true,if_false,reduceIte,Ys,ofVal,ofCell,argT,resT,setT,Y0,Int.reduceEq,Int.reduceLT,Int.reduceLE,Int.reduceNeg,mb,Nat.reduceBEq,tys,stb,len_W h]
  refine loop_rule (fun m T D σ => D = [] ∧ σ = S.empty ∧ T 0 = w ∧ T 1 = .func 132 [] [] ∧ T 7 = .int .i64 ws.length ∧ ∃ i : Nat, T 8 = .int .i64 i ∧ i ≤ ws.length ∧ m = ws.length - i ∧ firstW ws ws.length 0 = firstW ws (ws.length - i) i) ?_ _ _ _ _ ⟨rfl, rfl, rfl, rfl, rfl, 0, rfl, by omega, rfl, rfl⟩
  rintro m T D σ ⟨rfl, rfl, t0, t1, t7, i, t8, hi, rfl, hf⟩
  refine G_start ?_
  by_cases hlt : i < ws.length
  · have c1 : (i : Int) < (ws.length : Int) := by omega
    have e1 : IntKind.i64.wrap ((i : Int) + 1) = ((i + 1 : Nat) : Int) := by rw [wrap_i64 (by omega) (by omega)]; omega
    have hx := idx_W h hlt
    obtain ⟨q, hq⟩ : ∃ q, ws.length - i = q + 1 := ⟨ws.length - i - 1, by omega⟩
    have hq2 : q = ws.length - (i + 1) := by omega
    have hstep : firstW ws (ws.length - i) i = if IsName (ws.getD i []) then firstW ws q (i + 1) else i := by rw [hq]; rfl
    rw [hstep] at hf
    by_cases hn : IsName (ws.getD i [])
    · rw [if_pos hn, hq2] at hf
      simp -implicitDefEqProofs only [Wa,Wb,Wc,Wd,We,Wf,Wg,Wh,Wi,Wj,Wk,Wl,Wm,Wn,Zo,Zp,evalT,Nat.reduceLT,Nat.reduceEqDiff,if_true,if_false,reduceIte,Ys,ofVal,ofCell,argT,resT,setT,Y0,Int.reduceEq,Int.reduceLT,Int.reduceLE,Int.reduceNeg,mb,Nat.reduceBEq,tys,stb,t0,t1,t7,t8,c1,e1,hx,load_hd,notname_call _ (hs i hlt),hn,Bool.not_true]
      exact ⟨ws.length - (i + 1), by omega, i + 1, rfl, by omega, rfl, hf⟩
    · rw [if_neg hn] at hf
      simp -implicitDefEqProofs only [Wa,Wb,Wc,Wd,We,Wf,Wg,Wh,Wi,Wj,Wk,Wl,Wm,Wn,Zo,Zp,evalT,Nat.reduceLT,Nat.reduceEqDiff,if_true,if_false,reduceIte,Ys,ofVal,ofCell,argT,resT,setT,Y0,Int.reduceEq,Int.reduceLT,Int.reduceLE,Int.reduceNeg,mb,Nat.reduceBEq,tys,stb,t0,t1,t7,t8,c1,e1,hx,load_hd,notname_call _ (hs i hlt),hn,Bool.not_false]
      simp only [oneOr, sealDepth, sealV_int, hf]
  · have hi2 : i = ws.length := by omega
    subst hi2
    have c1 : ¬ (ws.length : Int) < (ws.length : Int) := by omega
    have hf2 : firstW ws ws.length 0 = -1 := by rw [hf, Nat.sub_self]; rfl
    simp -implicitDefEqProofs only [Wa,Wb,Wc,Wd,We,Wf,Wg,Wh,Wi,Wj,Wk,Wl,Wm,Wn,Zo,Zp,evalT,Nat.reduceLT,Nat.reduceEqDiff,if_true,if_false,reduceIte,Ys,ofVal,ofCell,argT,resT,setT,Y0,Int.reduceEq,Int.reduceLT,Int.reduceLE,Int.reduceNeg,mb,Nat.reduceBEq,tys,stb,t0,t1,t7,t8,c1]
    simp only [oneOr, sealDepth, sealV_int, hf2]
open Classical in
theorem contains_call (w : V) (ws : List (List UInt8)) (h : IsW w ws) (hl : ws.length ≤ 1000) (hs : ∀ i, i < ws.length → (ws.getD i []).length < 2 ^ 63) (σ : S) :
    callFn env (ev env) 131 [w, .func 132 [] []] σ = some (.bool (decide (∃ i, i < ws.length ∧ ¬ IsName (ws.getD i []))), σ) := by
  refine callFn_pure rfl rfl (by simp [V.closed, V.closed.closedL, closed_W h]) at131 rfl (by simp [Tryd.f131]) (by simp [Tryd.f131]) (G_start ?_) σ
  have hk : (0 ≤ firstW ws ws.length 0) ↔ ∃ i, i < ws.length ∧ ¬ IsName (ws.getD i []) := by
    rw [firstW_neg]
    constructor
    · rintro ⟨j, _, h2, h3⟩; exact ⟨j, by omega, h3⟩
    · rintro ⟨j, h2, h3⟩; exact ⟨j, by omega, by omega, h3⟩
  by_cases hp : ∃ i, i < ws.length ∧ ¬ IsName (ws.getD i [])
  · have c0 : 0 ≤ firstW ws ws.length 0 := hk.2 hp
    simp -implicitDefEqProofs only [Tryd.f131,Wa,Wb,Wc,Wd,We,Wf,Wg,Wh,Wi,Wj,Wk,Wl,Wm,Wn,Zo,Zp,evalT,Nat.reduceLT,Nat.reduceEqDiff,if_true,if_false,reduceIte,Ys,ofVal,ofCell,argT,resT,setT,Y0,Int.reduceEq,Int.reduceLT,Int.reduceLE,Int.reduceNeg,mb,Nat.reduceBEq,tys,stb,index_call w ws h hl hs,c0]
    simp only [oneOr, sealDepth, sealV_bool, hp, decide_true]
  · have c0 : ¬ 0 ≤ firstW ws ws.length 0 := fun h => hp (hk.1 h)
    simp -implicitDefEqProofs only [Tryd.f131,Wa,Wb,Wc,Wd,We,Wf,Wg,Wh,Wi,Wj,Wk,Wl,Wm,Wn,Zo,Zp,evalT,Nat.reduceLT,Nat.reduceEqDiff,if_true,if_false,reduceIte,Ys,ofVal,ofCell,argT,resT,setT,Y0,Int.reduceEq,Int.reduceLT,Int.reduceLE,Int.reduceNeg,mb,Nat.reduceBEq,tys,stb,index_call w ws h hl hs,c0]
    simp only [oneOr, sealDepth, sealV_bool, hp, decide_false]
end Go.Proofs.YtbikmhpobflfeaaDoor
namespace Go.Proofs.YtbikmhpobflfeaaDoor
open Go.Ab
set_option maxHeartbeats 4000000
set_option maxRecDepth 100000
set_option linter.unusedSimpArgs false
set_option linter.unusedVariables false
set_option linter.unusedSectionVars false
theorem at133 : env.P.funcs[133]? = some Tryd.f133 := by kernel_rfl
def keyV (s : List UInt8) : V := .agg [.str s, .bool false]
theorem eq_key (a b : List UInt8) : eqT env 8 167 (keyV a) (keyV b) = some (a == b) := by
  have h : eqT env 8 167 (keyV a) (keyV b) = (some (a == b)).bind fun r => if r then some true else some false := by kernel_rfl
  rw [h]
  cases a == b <;> rfl
theorem check_key (a : List UInt8) : checkK env 8 167 (keyV a) = true := by kernel_rfl
theorem same_key (a : List UInt8) : sameV 8 (keyV a) (keyV a) = true := by simp [sameV, keyV]
def entV (p : List UInt8 × Nat) : V × V × Nat := (keyV p.1, .agg [], p.2)
def keys (ps : List (List UInt8 × Nat)) : List (List UInt8) := ps.map (·.1)
theorem find_no (s : List UInt8) : ∀ (ps : List (List UInt8 × Nat)) (i : Nat), s ∉ keys ps → findK env 167 (keyV s) (ps.map entV) i = some none
  | [], i, h => rfl
  | p :: ps, i, h => by
    have h1 : ¬ s = p.1 := fun e => h (by simp [keys, e])
    have h2 : s ∉ keys ps := fun e => h (by simp only [keys, List.map_cons, List.mem_cons]; exact .inr e)
    simp only [List.map_cons, findK, entV, eq_key, Option.bind_some, beq_eq_false_iff_ne.2 h1, Bool.false_eq_true, if_false]
    exact find_no s ps (i + 1) h2
theorem find_yes (s : List UInt8) : ∀ (ps : List (List UInt8 × Nat)) (i : Nat), s ∈ keys ps → ∃ j n, findK env 167 (keyV s) (ps.map entV) i = some (some (i + j)) ∧ ps[j]? = some (s, n)
  | [], i, h => by simp [keys] at h
  | p :: ps, i, h => by
    by_cases h1 : s = p.1
    · refine ⟨0, p.2, ?_, by simp [h1]⟩
      simp only [List.map_cons, findK, entV, eq_key, Option.bind_some, h1, beq_self_eq_true, if_true, Nat.add_zero]
    · have h2 : s ∈ keys ps := by
        simp only [keys, List.map_cons, List.mem_cons] at h
        exact h.resolve_left h1
      obtain ⟨j, n, h3, h4⟩ := find_yes s ps (i + 1) h2
      refine ⟨j + 1, n, ?_, by simpa using h4⟩
      simp only [List.map_cons, findK, entV, eq_key, Option.bind_some, beq_eq_false_iff_ne.2 h1, Bool.false_eq_true, if_false]
      rw [show i + (j + 1) = i + 1 + j by omega]
      exact h3
def mapUpd (E : Env) (t : TypeId) (mv kv xv : V) (σ : S) : Option (V × S) :=
    match E.P.underlying t, mv with
    | some (.map kt _), .map b =>
      match σ.heap[b]? with
      | some (.map es clock) =>
        if checkK E 8 kt kv then
          match findK E kt kv es 0 with
          | some none => some (.tup [], σ.set b (.map (es ++ [(kv, xv, clock)]) (clock + 1)))
          | some (some j) =>
            match es[j]? with
            | some e => if sameV 8 e.1 kv then some (.tup [], σ.set b (.map (es.set j (kv, xv, e.2.2)) clock)) else none
            | none => none
          | none => none
        else none
      | _ => none
    | _, _ => none
theorem opT_mapUpd {E : Env} {m : Bool} {T : Tm} {σ : S} (t : TypeId) (a b c : Operand) : opT E m T σ (.mapUpdate t a b c) = (evalT E T a).bind fun mv => (evalT E T b).bind fun kv => (evalT E T c).bind fun xv => mapUpd E t mv kv xv σ := rfl
theorem u164 : env.P.underlying 164 = some (.map 167 165) := by kernel_rfl
theorem mapUpd_ok (s : List UInt8) (ps : List (List UInt8 × Nat)) (clock : Nat) (hp : List AObj) (b : Nat) (ts : List Nat) (hh : hp[b]? = some (.map (ps.map entV) clock)) :
    ∃ ps' clock', mapUpd env 164 (.map b) (keyV s) (.agg []) ⟨hp, ts⟩ = some (.tup [], ⟨hp.set b (.map (ps'.map entV) clock'), ts⟩) ∧ keys ps' = if s ∈ keys ps then keys ps else keys ps ++ [s] := by
  unfold mapUpd
  simp only [u164, hh, check_key, if_true]
  by_cases h : s ∈ keys ps
  · obtain ⟨j, n, h1, h2⟩ := find_yes s ps 0 h
    rw [Nat.zero_add] at h1
    have h3 : (ps.map entV)[j]? = some (entV (s, n)) := by simp [h2]
    have h4 : (ps.map entV).set j (keyV s, .agg [], n) = ps.map entV := by
      apply List.ext_getElem?
      intro i
      by_cases e : i = j
      · subst e
        have : i < (ps.map entV).length := by
          rcases Nat.lt_or_ge i (ps.map entV).length with h | h
          · exact h
          · rw [List.getElem?_eq_none h] at h3; simp at h3
        rw [List.getElem?_set_self this, h3]; rfl
      · rw [List.getElem?_set_ne (fun h => e h.symm)]
    refine ⟨ps, clock, ?_, by rw [if_pos h]⟩
    simp only [h1, h3, entV, same_key, if_true, S.set]
    rw [h4]
  · refine ⟨ps ++ [(s, clock)], clock + 1, ?_, by rw [if_neg h]; simp [keys]⟩
    simp only [find_no s ps 0 h, S.set, List.map_append, List.map_cons, List.map_nil, entV]
theorem build_key (s : List UInt8) : buildO env 167 [(0, .str s)] = some (keyV s) := by kernel_rfl
theorem build_unit : buildO env 165 [] = some (.agg []) := by kernel_rfl
end Go.Proofs.YtbikmhpobflfeaaDoor
namespace Go.Proofs.YtbikmhpobflfeaaDoor
open Go.Ab
set_option maxHeartbeats 4000000
set_option maxRecDepth 100000
set_option linter.unusedSimpArgs false
set_option linter.unusedVariables false
set_option linter.unusedSectionVars false
theorem opT_makeMap {T : Tm} {σ : S} {m : Bool} : opT env m T σ (.makeMap 164 none) = some (.map σ.heap.length, σ.push (.map [] 0)) := by
  unfold opT
  simp only [apure, aread, astate, u164]
theorem upd0 (s : List UInt8) (ps : List (List UInt8 × Nat)) (clock : Nat) : ∃ ps' clock', mapUpd env 164 (.map 0) (keyV s) (.agg []) ⟨[.map (ps.map entV) clock], []⟩ = some (.tup [], ⟨[.map (ps'.map entV) clock'], []⟩) ∧ keys ps' = if s ∈ keys ps then keys ps else keys ps ++ [s] :=
  mapUpd_ok s ps clock [.map (ps.map entV) clock] 0 [] rfl
theorem lenM0 (ps : List (List UInt8 × Nat)) (clock : Nat) (ts : List Nat) : lenO ⟨[.map (ps.map entV) clock], ts⟩ (some (.map 167 165)) (.map 0) = some (.int .i64 (keys ps).length, ⟨[.map (ps.map entV) clock], ts⟩) := by
  rw [lenO_map (es := ps.map entV) (c := clock) _ _ _ _ rfl]
  simp [keys]
def Dup (ws : List (List UInt8)) (i : Nat) : Prop := ∃ k j, k < j ∧ j < i ∧ ws.getD k [] = ws.getD j []
open Classical in
theorem double_call (w : V) (ws : List (List UInt8)) (h : IsW w ws) (hl : ws.length ≤ 1000) (σ : S) : callFn env (ev env) 133 [w] σ = some (.bool (decide (Twice ws)), σ) := by
  refine callFn_pure rfl rfl (by simp [closed_W h]) at133 rfl (by simp [Tryd.f133]) (by simp [Tryd.f133]) (G_start ?_) σ
  simp -implicitDefEqProofs only [Tryd.f133,Wa,Wb,Wc,Wd,We,Wf,Wg,Wh,Wi,Wj,Wk,Wl,Wm,Wn,Zo,Zp,evalT,Nat.reduceLT,Nat.reduceEqDiff,if_true,if_false,reduceIte,Ys,ofVal,ofCell,argT,resT,setT,Y0,Int.reduceEq,Int.reduceLT,Int.reduceLE,Int.reduceNeg,mb,Nat.reduceBEq,tys,stb,empty_mk,len_W h,opT_makeMap]
  refine loop_rule (fun m T D σ => D = [] ∧ T 0 = w ∧ T 3 = .map 0 ∧ T 7 = w ∧ T 8 = .int .i64 ws.length ∧ ∃ (i clock : Nat) (ps : List (List UInt8 × Nat)), σ = ⟨[.map (ps.map entV) clock], []⟩ ∧ T 9 = .int .i64 i ∧ i ≤ ws.length ∧ m = ws.length - i ∧
    (∀ s, s ∈ keys ps ↔ ∃ j, j < i ∧ ws.getD j [] = s) ∧ (keys ps).length ≤ i ∧ ((keys ps).length < i ↔ Dup ws i)) ?_ _ _ _ _
    ⟨rfl, rfl, rfl, rfl, rfl, 0, 0, [], rfl, rfl, by omega, rfl, fun s => ⟨fun h => by simp [keys] at h, fun ⟨j, h, _⟩ => by omega⟩, by simp [keys], ⟨fun h => by omega, fun ⟨k, j, _, h, _⟩ => by omega⟩⟩
  rintro m T D σ ⟨rfl, t0, t3, t7, t8, i, clock, ps, rfl, t9, hi, rfl, hmem, hlen, hdup⟩
  refine G_start ?_
  by_cases hlt : i < ws.length
  · have c1 : (i : Int) < (ws.length : Int) := by omega
    have e1 : IntKind.i64.wrap ((i : Int) + 1) = ((i + 1 : Nat) : Int) := by rw [wrap_i64 (by omega) (by omega)]; omega
    have hx := idx_W h hlt
    obtain ⟨ps', clock', hU, hk⟩ := upd0 (ws.getD i []) ps clock
    simp -implicitDefEqProofs only [Wa,Wb,Wc,Wd,We,Wf,Wg,Wh,Wi,Wj,Wk,Wl,Wm,Wn,Zo,Zp,evalT,Nat.reduceLT,Nat.reduceEqDiff,if_true,if_false,reduceIte,Ys,ofVal,ofCell,argT,resT,setT,Y0,Int.reduceEq,Int.reduceLT,Int.reduceLE,Int.reduceNeg,mb,Nat.reduceBEq,tys,stb,t0,t3,t7,t8,t9,c1,e1,hx,load_hd,opT_mapUpd,build_key,build_unit,hU]
    refine ⟨ws.length - (i + 1), by omega, i + 1, clock', ps', rfl, rfl, by omega, rfl, fun s => ?_, ?_, ?_⟩
    · rw [hk]
      constructor
      · intro hs
        split at hs
        · obtain ⟨j, h1, h2⟩ := (hmem s).1 hs; exact ⟨j, by omega, h2⟩
        · rcases List.mem_append.1 hs with hs | hs
          · obtain ⟨j, h1, h2⟩ := (hmem s).1 hs; exact ⟨j, by omega, h2⟩
          · exact ⟨i, by omega, (List.mem_singleton.1 hs).symm⟩
      · rintro ⟨j, h1, h2⟩
        have hj : j < i ∨ j = i := by omega
        split
        · rename_i hin
          rcases hj with hj | rfl
          · exact (hmem s).2 ⟨j, hj, h2⟩
          · rw [← h2]; exact hin
        · rcases hj with hj | rfl
          · exact List.mem_append_left _ ((hmem s).2 ⟨j, hj, h2⟩)
          · rw [← h2]; simp
    · rw [hk]; split
      · omega
      · simp only [List.length_append, List.length_cons, List.length_nil]; omega
    · rw [hk]; split
      · rename_i hin
        obtain ⟨j, h1, h2⟩ := (hmem _).1 hin
        exact ⟨fun _ => ⟨j, i, h1, by omega, h2⟩, fun _ => by omega⟩
      · rename_i hin
        simp only [List.length_append, List.length_cons, List.length_nil]
        constructor
        · intro hh
          obtain ⟨k, j, h1, h2, h3⟩ := hdup.1 (by omega)
          exact ⟨k, j, h1, by omega, h3⟩
        · rintro ⟨k, j, h1, h2, h3⟩
          have hj : j < i ∨ j = i := by omega
          rcases hj with hj | rfl
          · have := hdup.2 ⟨k, j, h1, hj, h3⟩; omega
          · exact absurd ((hmem _).2 ⟨k, h1, h3⟩) hin
  · have hi2 : i = ws.length := by omega
    subst hi2
    have c1 : ¬ (ws.length : Int) < (ws.length : Int) := by omega
    have hT : ((keys ps).length : Int) < (ws.length : Int) ↔ Twice ws := by
      have : Dup ws ws.length ↔ Twice ws := Iff.rfl
      rw [← this, ← hdup]; omega
    by_cases hp : ((keys ps).length : Int) < (ws.length : Int)
    · have h2 := hT.1 hp
      simp -implicitDefEqProofs only [Wa,Wb,Wc,Wd,We,Wf,Wg,Wh,Wi,Wj,Wk,Wl,Wm,Wn,Zo,Zp,evalT,Nat.reduceLT,Nat.reduceEqDiff,if_true,if_false,reduceIte,Ys,ofVal,ofCell,argT,resT,setT,Y0,Int.reduceEq,Int.reduceLT,Int.reduceLE,Int.reduceNeg,mb,Nat.reduceBEq,tys,stb,t0,t3,t7,t8,t9,c1,u164,lenM0,len_W h,hp]
      simp only [oneOr, sealDepth, sealV_bool, h2, decide_true]
    · have h2 : ¬ Twice ws := fun q => hp (hT.2 q)
      simp -implicitDefEqProofs only [Wa,Wb,Wc,Wd,We,Wf,Wg,Wh,Wi,Wj,Wk,Wl,Wm,Wn,Zo,Zp,evalT,Nat.reduceLT,Nat.reduceEqDiff,if_true,if_false,reduceIte,Ys,ofVal,ofCell,argT,resT,setT,Y0,Int.reduceEq,Int.reduceLT,Int.reduceLE,Int.reduceNeg,mb,Nat.reduceBEq,tys,stb,t0,t3,t7,t8,t9,c1,u164,lenM0,len_W h,hp]
      simp only [oneOr, sealDepth, sealV_bool, h2, decide_false]
end Go.Proofs.YtbikmhpobflfeaaDoor
namespace Go.Proofs.YtbikmhpobflfeaaDoor
open Go.Ab
set_option maxHeartbeats 4000000
set_option maxRecDepth 100000
set_option linter.unusedSimpArgs false
set_option linter.unusedVariables false
set_option linter.unusedSectionVars false
open Classical in
theorem words_call (c : Col) (h : IsW c.w c.ws) (hs : Short c) (h0 : c.ws.length ≠ 0) (σ : S) : callFn env (ev env) 119 [.agg [.str c.name, .int .i64 c.lo, .int .i64 c.hi, c.w]] σ = some (.int .i64 (colE c), σ) := by
  refine callFn_pure rfl rfl (by simp [V.closed, V.closed.closedL, closed_W h]) at119 rfl (by simp [Tryd.f119]) (by simp [Tryd.f119]) (G_start ?_) σ
  obtain ⟨hs1, hs2, hs3⟩ := hs
  have hic := isCell_W h
  obtain ⟨nm, lo, hi, w, ws⟩ := c
  simp only at h hs1 hs2 hs3 hic h0 ⊢
  by_cases h1 : (64 : Int) < (ws.length : Int)
  · have he : colE ⟨nm, lo, hi, w, ws⟩ = 4 := by simp only [colE]; rw [if_neg h0, if_pos (by omega)]
    simp -implicitDefEqProofs only [Tryd.f119,Wa,Wb,Wc,Wd,We,Wf,Wg,Wh,Wi,Wj,Wk,Wl,Wm,Wn,Zo,Zp,evalT,Nat.reduceLT,Nat.reduceEqDiff,if_true,if_false,reduceIte,Ys,ofVal,ofCell,argT,resT,setT,Y0,Int.reduceEq,Int.reduceLT,Int.reduceLE,Int.reduceNeg,mb,Nat.reduceBEq,tys,stb,tys2,empty_mk,len_W h,h1]
    simp only [oneOr, sealDepth, sealV_int, he]
  by_cases hp : ∃ i, i < ws.length ∧ ¬ IsName (ws.getD i [])
  · have he : colE ⟨nm, lo, hi, w, ws⟩ = 19 := by simp only [colE]; rw [if_neg h0, if_neg (by omega), if_pos hp]
    simp -implicitDefEqProofs only [Tryd.f119,Wa,Wb,Wc,Wd,We,Wf,Wg,Wh,Wi,Wj,Wk,Wl,Wm,Wn,Zo,Zp,evalT,Nat.reduceLT,Nat.reduceEqDiff,if_true,if_false,reduceIte,Ys,ofVal,ofCell,argT,resT,setT,Y0,Int.reduceEq,Int.reduceLT,Int.reduceLE,Int.reduceNeg,mb,Nat.reduceBEq,tys,stb,tys2,empty_mk,len_W h,h1,contains_call w ws h hs2 hs3,hp]
    simp only [oneOr, sealDepth, sealV_int, he]
  by_cases h2 : Twice ws
  · have he : colE ⟨nm, lo, hi, w, ws⟩ = 8 := by simp only [colE]; rw [if_neg h0, if_neg (by omega), if_neg hp, if_pos h2]
    simp -implicitDefEqProofs only [Tryd.f119,Wa,Wb,Wc,Wd,We,Wf,Wg,Wh,Wi,Wj,Wk,Wl,Wm,Wn,Zo,Zp,evalT,Nat.reduceLT,Nat.reduceEqDiff,if_true,if_false,reduceIte,Ys,ofVal,ofCell,argT,resT,setT,Y0,Int.reduceEq,Int.reduceLT,Int.reduceLE,Int.reduceNeg,mb,Nat.reduceBEq,tys,stb,tys2,empty_mk,len_W h,h1,contains_call w ws h hs2 hs3,hp,double_call w ws h hs2,h2]
    simp only [oneOr, sealDepth, sealV_int, he]
  have e2 : IntKind.i64.wrap ((ws.length : Int) - 1) = (ws.length : Int) - 1 := wrap_i64 (by omega) (by omega)
  by_cases h3 : lo = 0
  · by_cases h4 : hi = (ws.length : Int) - 1
    · have he : colE ⟨nm, lo, hi, w, ws⟩ = 0 := by simp only [colE]; rw [if_neg h0, if_neg (by omega), if_neg hp, if_neg h2, if_neg (by rintro (h | h); exact h h3; exact h h4)]
      simp -implicitDefEqProofs only [Tryd.f119,Wa,Wb,Wc,Wd,We,Wf,Wg,Wh,Wi,Wj,Wk,Wl,Wm,Wn,Zo,Zp,evalT,Nat.reduceLT,Nat.reduceEqDiff,if_true,if_false,reduceIte,Ys,ofVal,ofCell,argT,resT,setT,Y0,Int.reduceEq,Int.reduceLT,Int.reduceLE,Int.reduceNeg,mb,Nat.reduceBEq,tys,stb,tys2,empty_mk,len_W h,h1,contains_call w ws h hs2 hs3,hp,double_call w ws h hs2,h2,h3,e2,h4]
      simp only [oneOr, sealDepth, sealV_int, ← h3, ← h4, he]
    · have he : colE ⟨nm, lo, hi, w, ws⟩ = 2 := by simp only [colE]; rw [if_neg h0, if_neg (by omega), if_neg hp, if_neg h2, if_pos (.inr h4)]
      simp -implicitDefEqProofs only [Tryd.f119,Wa,Wb,Wc,Wd,We,Wf,Wg,Wh,Wi,Wj,Wk,Wl,Wm,Wn,Zo,Zp,evalT,Nat.reduceLT,Nat.reduceEqDiff,if_true,if_false,reduceIte,Ys,ofVal,ofCell,argT,resT,setT,Y0,Int.reduceEq,Int.reduceLT,Int.reduceLE,Int.reduceNeg,mb,Nat.reduceBEq,tys,stb,tys2,empty_mk,len_W h,h1,contains_call w ws h hs2 hs3,hp,double_call w ws h hs2,h2,h3,e2,h4]
      simp only [oneOr, sealDepth, sealV_int, ← h3, he]
  · have he : colE ⟨nm, lo, hi, w, ws⟩ = 2 := by simp only [colE]; rw [if_neg h0, if_neg (by omega), if_neg hp, if_neg h2, if_pos (.inl h3)]
    simp -implicitDefEqProofs only [Tryd.f119,Wa,Wb,Wc,Wd,We,Wf,Wg,Wh,Wi,Wj,Wk,Wl,Wm,Wn,Zo,Zp,evalT,Nat.reduceLT,Nat.reduceEqDiff,if_true,if_false,reduceIte,Ys,ofVal,ofCell,argT,resT,setT,Y0,Int.reduceEq,Int.reduceLT,Int.reduceLE,Int.reduceNeg,mb,Nat.reduceBEq,tys,stb,tys2,empty_mk,len_W h,h1,contains_call w ws h hs2 hs3,hp,double_call w ws h hs2,h2,h3]
    simp only [oneOr, sealDepth, sealV_int, he]
end Go.Proofs.YtbikmhpobflfeaaDoor
namespace Go.Proofs.YtbikmhpobflfeaaDoor
open Go.Ab
set_option maxHeartbeats 4000000
set_option maxRecDepth 100000
set_option linter.unusedSimpArgs false
set_option linter.unusedVariables false
set_option linter.unusedSectionVars false
theorem at118 : env.P.funcs[118]? = some Tryd.f118 := by kernel_rfl
theorem named_call (c d : Col) (hd : IsW d.w d.ws) (L : List AObj) (ts : List Nat) (p : Nat) (hp : L[p]? = some (.cells [.str c.name, .int .i64 c.lo, .int .i64 c.hi, c.w] 44)) :
    callFn env (ev env) 118 [.agg [.str d.name, .int .i64 d.lo, .int .i64 d.hi, d.w], .ptr p 0] ⟨L, ts⟩ = some (.bool (decide (d.name = c.name)), ⟨L ++ [.cells [.str d.name, .int .i64 d.lo, .int .i64 d.hi, d.w] 44], ts⟩) := by
  refine callFn_eq rfl rfl at118 rfl (by simp [Tryd.f118]) (by simp [Tryd.f118]) ?_
  refine G_start ?_
  have hlt : p < L.length := by
    rcases Nat.lt_or_ge p L.length with h | h
    · exact h
    · rw [List.getElem?_eq_none h] at hp; simp at hp
  have hE : ∀ o, (L ++ [o])[p]? = some (.cells [.str c.name, .int .i64 c.lo, .int .i64 c.hi, c.w] 44) := fun o => by rw [List.getElem?_append_left hlt]; exact hp
  by_cases h : d.name = c.name <;>
  · simp -implicitDefEqProofs only [Tryd.f118,Wa,Wb,Wc,Wd,We,Wf,Wg,Wh,Wi,Wj,Wk,Wl,Wm,Wn,Zo,Zp,evalT,Nat.reduceLT,Nat.reduceEqDiff,if_true,if_false,reduceIte,Ys,ofVal,ofCell,argT,resT,setT,Y0,Int.reduceEq,Int.reduceLT,Int.reduceLE,Int.reduceNeg,mb,Nat.reduceBEq,tys,stb,tys2,YW,heap_end,hE,vBin_seql,h]
    simp [oneOr, h]
theorem at66 : env.P.funcs[66]? = some Tryd.f66 := by kernel_rfl
theorem at117 : env.P.funcs[117]? = some Tryd.f117 := by kernel_rfl
def firstN (ds : List Col) (nm : List UInt8) : Nat → Nat → Int
  | 0, _ => -1
  | m + 1, i => if (ds.getD i Col.none).name = nm then i else firstN ds nm m (i + 1)
theorem firstN_neg (ds : List Col) (nm : List UInt8) : ∀ m i, 0 ≤ firstN ds nm m i ↔ ∃ j, i ≤ j ∧ j < i + m ∧ (ds.getD j Col.none).name = nm
  | 0, i => by simp only [firstN]; constructor
               · intro h; omega
               · rintro ⟨j, h1, h2, _⟩; omega
  | m + 1, i => by
    simp only [firstN]
    by_cases h : (ds.getD i Col.none).name = nm
    · rw [if_pos h]
      exact ⟨fun _ => ⟨i, by omega, by omega, h⟩, fun _ => by omega⟩
    · rw [if_neg h, firstN_neg ds nm m (i + 1)]
      constructor
      · rintro ⟨j, h1, h2, h3⟩; exact ⟨j, by omega, by omega, h3⟩
      · rintro ⟨j, h1, h2, h3⟩
        refine ⟨j, ?_, by omega, h3⟩
        rcases Nat.lt_or_ge i j with h4 | h4
        · omega
        · have : j = i := by omega
          subst this; exact absurd h3 h
theorem indexC_call (c : Col) (dv : V) (ds : List Col) (hd : IsC dv ds) (ok : OkC ds) (hl : ds.length ≤ 1000) (L : List AObj) (ts : List Nat) (p : Nat) (hp : L[p]? = some (.cells [.str c.name, .int .i64 c.lo, .int .i64 c.hi, c.w] 44)) :
    ∃ X, callFn env (ev env) 66 [dv, .func 118 [] [.ptr p 0]] ⟨L, ts⟩ = some (.int .i64 (firstN ds c.name ds.length 0), ⟨L ++ X, ts⟩) := by
  have hlt0 : p < L.length := by
    rcases Nat.lt_or_ge p L.length with h | h
    · exact h
    · rw [List.getElem?_eq_none h] at hp; simp at hp
  suffices h : ∃ v σ', callFn env (ev env) 66 [dv, .func 118 [] [.ptr p 0]] ⟨L, ts⟩ = some (v, σ') ∧ (v = .int .i64 (firstN ds c.name ds.length 0) ∧ ∃ X, σ' = ⟨L ++ X, ts⟩) by
    obtain ⟨v, σ', h1, rfl, X, rfl⟩ := h
    exact ⟨X, h1⟩
  refine callFn_any rfl rfl at66 rfl (by simp [Tryd.f66]) (by simp [Tryd.f66]) (G_start ?_)
  simp -implicitDefEqProofs only [Tryd.f66,Wa,Wb,Wc,Wd,We,Wf,Wg,Wh,Wi,Wj,Wk,Wl,Wm,Wn,Zo,Zp,evalT,Nat.reduceLT,Nat.reduceEqDiff,if_true,if_false,reduceIte,Ys,ofVal,ofCell,argT,resT,setT,Y0,Int.reduceEq,Int.reduceLT,Int.reduceLE,Int.reduceNeg,mb,Nat.reduceBEq,tys,stb,tys2,len_C hd]
  refine loop_rule (fun m T D σ => D = [] ∧ T 0 = dv ∧ T 1 = .func 118 [] [.ptr p 0] ∧ T 7 = .int .i64 ds.length ∧ ∃ (i : Nat) (X : List AObj), σ = ⟨L ++ X, ts⟩ ∧ T 8 = .int .i64 i ∧ i ≤ ds.length ∧ m = ds.length - i ∧ firstN ds c.name ds.length 0 = firstN ds c.name (ds.length - i) i) ?_ _ _ _ _ ⟨rfl, rfl, rfl, rfl, 0, [], by simp, rfl, by omega, rfl, rfl⟩
  rintro m T D σ ⟨rfl, t0, t1, t7, i, X, rfl, t8, hi, rfl, hf⟩
  refine G_start ?_
  by_cases hlt : i < ds.length
  · have c1 : (i : Int) < (ds.length : Int) := by omega
    have e1 : IntKind.i64.wrap ((i : Int) + 1) = ((i + 1 : Nat) : Int) := by rw [wrap_i64 (by omega) (by omega)]; omega
    have hx := idx_C hd hlt
    have hN := named_call c (ds.getD i Col.none) (ok.at hlt) (L ++ X) ts p (by rw [List.getElem?_append_left hlt0]; exact hp)
    obtain ⟨q, hq⟩ : ∃ q, ds.length - i = q + 1 := ⟨ds.length - i - 1, by omega⟩
    have hq2 : q = ds.length - (i + 1) := by omega
    have hstep : firstN ds c.name (ds.length - i) i = if (ds.getD i Col.none).name = c.name then (i : Int) else firstN ds c.name q (i + 1) := by rw [hq]; rfl
    rw [hstep] at hf
    by_cases hn : (ds.getD i Col.none).name = c.name
    · rw [if_pos hn] at hf
      simp only [hn, decide_true] at hN
      simp -implicitDefEqProofs only [Wa,Wb,Wc,Wd,We,Wf,Wg,Wh,Wi,Wj,Wk,Wl,Wm,Wn,Zo,Zp,evalT,Nat.reduceLT,Nat.reduceEqDiff,if_true,if_false,reduceIte,Ys,ofVal,ofCell,argT,resT,setT,Y0,Int.reduceEq,Int.reduceLT,Int.reduceLE,Int.reduceNeg,mb,Nat.reduceBEq,tys,stb,tys2,t0,t1,t7,t8,c1,e1,hx,agg44,load4_rptr,hn,hN]
      exact ⟨by rw [hf]; rfl, _, by rw [List.append_assoc]⟩
    · rw [if_neg hn, hq2] at hf
      simp only [hn, decide_false] at hN
      simp -implicitDefEqProofs only [Wa,Wb,Wc,Wd,We,Wf,Wg,Wh,Wi,Wj,Wk,Wl,Wm,Wn,Zo,Zp,evalT,Nat.reduceLT,Nat.reduceEqDiff,if_true,if_false,reduceIte,Ys,ofVal,ofCell,argT,resT,setT,Y0,Int.reduceEq,Int.reduceLT,Int.reduceLE,Int.reduceNeg,mb,Nat.reduceBEq,tys,stb,tys2,t0,t1,t7,t8,c1,e1,hx,agg44,load4_rptr,hN]
      exact ⟨ds.length - (i + 1), by omega, i + 1, _, by rw [List.append_assoc], rfl, by omega, rfl, hf⟩
  · have hi2 : i = ds.length := by omega
    subst hi2
    have c1 : ¬ (ds.length : Int) < (ds.length : Int) := by omega
    have hf2 : firstN ds c.name ds.length 0 = -1 := by rw [hf, Nat.sub_self]; rfl
    simp -implicitDefEqProofs only [Wa,Wb,Wc,Wd,We,Wf,Wg,Wh,Wi,Wj,Wk,Wl,Wm,Wn,Zo,Zp,evalT,Nat.reduceLT,Nat.reduceEqDiff,if_true,if_false,reduceIte,Ys,ofVal,ofCell,argT,resT,setT,Y0,Int.reduceEq,Int.reduceLT,Int.reduceLE,Int.reduceNeg,mb,Nat.reduceBEq,tys,stb,t0,t1,t7,t8,c1]
    exact ⟨by rw [hf2]; rfl, X, rfl⟩
end Go.Proofs.YtbikmhpobflfeaaDoor
namespace Go.Proofs.YtbikmhpobflfeaaDoor
open Go.Ab
set_option maxHeartbeats 4000000
set_option maxRecDepth 100000
set_option linter.unusedSimpArgs false
set_option linter.unusedVariables false
set_option linter.unusedSectionVars false
open Classical in
theorem containsC_call (c : Col) (dv : V) (ds : List Col) (hd : IsC dv ds) (ok : OkC ds) (hl : ds.length ≤ 1000) (L : List AObj) (ts : List Nat) (p : Nat) (hp : L[p]? = some (.cells [.str c.name, .int .i64 c.lo, .int .i64 c.hi, c.w] 44)) :
    ∃ X, callFn env (ev env) 117 [dv, .func 118 [] [.ptr p 0]] ⟨L, ts⟩ = some (.bool (decide (∃ j, j < ds.length ∧ (ds.getD j Col.none).name = c.name)), ⟨L ++ X, ts⟩) := by
  obtain ⟨X, hX⟩ := indexC_call c dv ds hd ok hl L ts p hp
  refine ⟨X, ?_⟩
  have hk : (0 ≤ firstN ds c.name ds.length 0) ↔ ∃ j, j < ds.length ∧ (ds.getD j Col.none).name = c.name := by
    rw [firstN_neg]
    constructor
    · rintro ⟨j, _, h2, h3⟩; exact ⟨j, by omega, h3⟩
    · rintro ⟨j, h2, h3⟩; exact ⟨j, by omega, by omega, h3⟩
  refine callFn_eq rfl rfl at117 rfl (by simp [Tryd.f117]) (by simp [Tryd.f117]) ?_
  refine G_start ?_
  by_cases hq : ∃ j, j < ds.length ∧ (ds.getD j Col.none).name = c.name
  · have c0 : 0 ≤ firstN ds c.name ds.length 0 := hk.2 hq
    simp -implicitDefEqProofs only [Tryd.f117,Wa,Wb,Wc,Wd,We,Wf,Wg,Wh,Wi,Wj,Wk,Wl,Wm,Wn,Zo,Zp,evalT,Nat.reduceLT,Nat.reduceEqDiff,if_true,if_false,reduceIte,Ys,ofVal,ofCell,argT,resT,setT,Y0,Int.reduceEq,Int.reduceLT,Int.reduceLE,Int.reduceNeg,mb,Nat.reduceBEq,tys,stb,hX,c0]
    simp only [oneOr, hq, decide_true, and_self]
  · have c0 : ¬ 0 ≤ firstN ds c.name ds.length 0 := fun h => hq (hk.1 h)
    simp -implicitDefEqProofs only [Tryd.f117,Wa,Wb,Wc,Wd,We,Wf,Wg,Wh,Wi,Wj,Wk,Wl,Wm,Wn,Zo,Zp,evalT,Nat.reduceLT,Nat.reduceEqDiff,if_true,if_false,reduceIte,Ys,ofVal,ofCell,argT,resT,setT,Y0,Int.reduceEq,Int.reduceLT,Int.reduceLE,Int.reduceNeg,mb,Nat.reduceBEq,tys,stb,hX,c0]
    simp only [oneOr, hq, decide_false, and_self]
end Go.Proofs.YtbikmhpobflfeaaDoor
namespace Go.Proofs.YtbikmhpobflfeaaDoor
open Go.Ab
set_option maxHeartbeats 4000000
set_option maxRecDepth 100000
set_option linter.unusedSimpArgs false
set_option linter.unusedVariables false
set_option linter.unusedSectionVars false
theorem at95 : env.P.funcs[95]? = some Tryd.f95 := by kernel_rfl
theorem flatC_take : ∀ (cs : List Col) (i : Nat), (flatC cs).take (i * 4) = flatC (cs.take i)
  | cs, 0 => by simp [flatC]
  | [], i + 1 => by simp [flatC]
  | c :: cs, i + 1 => by
    rw [flatC_cons, show (i + 1) * 4 = i * 4 + 1 + 1 + 1 + 1 by omega]
    simp only [List.take_succ_cons, flatC_take cs i, flatC_cons]
theorem slice_C {v : V} {cs : List Col} (h : IsC v cs) {i : Nat} (hi : i < cs.length) : ∃ u, sliceO env 27 v none (some (.int .i64 (i : Int))) none = some u ∧ IsC u (cs.take i) := by
  rcases h with ⟨rfl, rfl⟩ | rfl
  · simp at hi
  · refine ⟨.row (flatC (cs.take i)) i .unk, ?_, .inr (by simp [List.length_take, Nat.min_eq_left (Nat.le_of_lt hi)])⟩
    have hb : vBound (some (.int .i64 (i : Int))) cs.length cs.length = some i := by
      simp only [vBound]; simp; omega
    simp only [sliceO, tys2, Option.bind_some, vSlice, hb]
    simp [vBound, show ¬ i = cs.length by omega, flatC_take]
theorem take_getD (cs : List Col) {i j : Nat} (h : j < i) : (cs.take i).getD j Col.none = cs.getD j Col.none := by
  simp [List.getD, List.getElem?_take, h]
open Classical in
theorem column_call (cv : V) (cs : List Col) (hc : IsC cv cs) (ok : OkC cs) (hl : cs.length ≤ 1000) (i : Nat) (hlt : i < cs.length) (hsc : Short (cs.getD i Col.none)) (σ : S) :
    callFn env (ev env) 95 [cv, .int .i64 i] σ = some (.int .i64 (colX cs i), σ) := by
  refine callFn_pure rfl rfl (by simp [V.closed, V.closed.closedL, closed_C hc ok]) at95 rfl (by simp [Tryd.f95]) (by simp [Tryd.f95]) (G_start ?_) σ
  have hwc := ok.at hlt
  have hic := isCell_W hwc
  by_cases hnm : IsName (cs.getD i Col.none).name
  case neg =>
    have hX : colX cs i = 19 := by simp only [colX]; rw [if_pos hnm]
    simp -implicitDefEqProofs only [Tryd.f95,Wa,Wb,Wc,Wd,We,Wf,Wg,Wh,Wi,Wj,Wk,Wl,Wm,Wn,Zo,Zp,evalT,Nat.reduceLT,Nat.reduceEqDiff,if_true,if_false,reduceIte,Ys,ofVal,ofCell,argT,resT,setT,Y0,Int.reduceEq,Int.reduceLT,Int.reduceLE,Int.reduceNeg,mb,Nat.reduceBEq,tys,stb,tys2,idx_C hc hlt,agg44,load4_rptr,z44,empty_mk,List.length_nil,storeList,List.take_zero,List.drop_zero,List.drop_succ_cons,List.drop_nil,List.all_cons,List.all_nil,List.set_cons_zero,isCell_str,isCell_int,hic,YW,Nat.reduceAdd,Nat.reduceLeDiff,name_call _ hsc.1,hnm]
    simp only [oneOr, sealDepth, sealV_int, hX]
  obtain ⟨u, hu, hcu⟩ := slice_C hc hlt
  have oku : OkC (cs.take i) := fun c h => ok c (List.mem_of_mem_take h)
  obtain ⟨X, hX⟩ := containsC_call (cs.getD i Col.none) u (cs.take i) hcu oku (by simp; omega) [.cells [.str (cs.getD i Col.none).name, .int .i64 (cs.getD i Col.none).lo, .int .i64 (cs.getD i Col.none).hi, (cs.getD i Col.none).w] 44] [] 0 rfl
  have hk : (∃ j, j < (cs.take i).length ∧ ((cs.take i).getD j Col.none).name = (cs.getD i Col.none).name) ↔ ∃ k, k < i ∧ (cs.getD k Col.none).name = (cs.getD i Col.none).name := by
    have hli : (cs.take i).length = i := by simp; omega
    rw [hli]
    constructor
    · rintro ⟨j, h1, h2⟩; exact ⟨j, h1, by rwa [take_getD cs h1] at h2⟩
    · rintro ⟨j, h1, h2⟩; exact ⟨j, h1, by rwa [take_getD cs h1]⟩
  simp only [hk, List.cons_append, List.nil_append] at hX
  by_cases hd : ∃ k, k < i ∧ (cs.getD k Col.none).name = (cs.getD i Col.none).name
  · have hE : colX cs i = 8 := by simp only [colX]; rw [if_neg (not_not_intro hnm), if_pos hd]
    simp only [hd, decide_true] at hX
    simp -implicitDefEqProofs only [Tryd.f95,Wa,Wb,Wc,Wd,We,Wf,Wg,Wh,Wi,Wj,Wk,Wl,Wm,Wn,Zo,Zp,evalT,Nat.reduceLT,Nat.reduceEqDiff,if_true,if_false,reduceIte,Ys,ofVal,ofCell,argT,resT,setT,Y0,Int.reduceEq,Int.reduceLT,Int.reduceLE,Int.reduceNeg,mb,Nat.reduceBEq,tys,stb,tys2,idx_C hc hlt,agg44,load4_rptr,z44,empty_mk,List.length_nil,storeList,List.take_zero,List.drop_zero,List.drop_succ_cons,List.drop_nil,List.all_cons,List.all_nil,List.set_cons_zero,isCell_str,isCell_int,hic,YW,Nat.reduceAdd,Nat.reduceLeDiff,name_call _ hsc.1,hnm,opT_slice,optO_none,optO_some,hu,hX]
    simp only [oneOr, sealDepth, sealV_int, hE]
  have hE : colX cs i = colE (cs.getD i Col.none) := by simp only [colX]; rw [if_neg (not_not_intro hnm), if_neg hd]
  simp only [hd, decide_false] at hX
  have hL : loadCellsV (.cells [.str (cs.getD i Col.none).name, .int .i64 (cs.getD i Col.none).lo, .int .i64 (cs.getD i Col.none).hi, (cs.getD i Col.none).w] 44 :: X) 4 (.ptr 0 0) = some [.str (cs.getD i Col.none).name, .int .i64 (cs.getD i Col.none).lo, .int .i64 (cs.getD i Col.none).hi, (cs.getD i Col.none).w] := load4_ptr rfl
  by_cases h0 : (0 : Int) < ((cs.getD i Col.none).ws.length : Int)
  · have hne : (cs.getD i Col.none).ws.length ≠ 0 := by omega
    simp -implicitDefEqProofs only [Tryd.f95,Wa,Wb,Wc,Wd,We,Wf,Wg,Wh,Wi,Wj,Wk,Wl,Wm,Wn,Zo,Zp,evalT,Nat.reduceLT,Nat.reduceEqDiff,if_true,if_false,reduceIte,Ys,ofVal,ofCell,argT,resT,setT,Y0,Int.reduceEq,Int.reduceLT,Int.reduceLE,Int.reduceNeg,mb,Nat.reduceBEq,tys,stb,tys2,idx_C hc hlt,agg44,load4_rptr,z44,empty_mk,List.length_nil,storeList,List.take_zero,List.drop_zero,List.drop_succ_cons,List.drop_nil,List.all_cons,List.all_nil,List.set_cons_zero,isCell_str,isCell_int,hic,YW,Nat.reduceAdd,Nat.reduceLeDiff,name_call _ hsc.1,hnm,opT_slice,optO_none,optO_some,hu,hX,len_W hwc,h0,hL,words_call _ hwc hsc hne]
    simp only [oneOr, sealDepth, sealV_int, hE]
  have hz : (cs.getD i Col.none).ws.length = 0 := by omega
  by_cases h1 : (cs.getD i Col.none).lo < -1000000
  · have he : colE (cs.getD i Col.none) = 2 := by simp only [colE, hz, if_true]; rw [if_pos (.inl h1)]
    simp -implicitDefEqProofs only [Tryd.f95,Wa,Wb,Wc,Wd,We,Wf,Wg,Wh,Wi,Wj,Wk,Wl,Wm,Wn,Zo,Zp,evalT,Nat.reduceLT,Nat.reduceEqDiff,if_true,if_false,reduceIte,Ys,ofVal,ofCell,argT,resT,setT,Y0,Int.reduceEq,Int.reduceLT,Int.reduceLE,Int.reduceNeg,mb,Nat.reduceBEq,tys,stb,tys2,idx_C hc hlt,agg44,load4_rptr,z44,empty_mk,List.length_nil,storeList,List.take_zero,List.drop_zero,List.drop_succ_cons,List.drop_nil,List.all_cons,List.all_nil,List.set_cons_zero,isCell_str,isCell_int,hic,YW,Nat.reduceAdd,Nat.reduceLeDiff,name_call _ hsc.1,hnm,opT_slice,optO_none,optO_some,hu,hX,len_W hwc,h0,h1]
    simp only [oneOr, sealDepth, sealV_int, hE, he]
  by_cases h2 : 1000000 < (cs.getD i Col.none).hi
  · have he : colE (cs.getD i Col.none) = 2 := by simp only [colE, hz, if_true]; rw [if_pos (.inr (.inl h2))]
    simp -implicitDefEqProofs only [Tryd.f95,Wa,Wb,Wc,Wd,We,Wf,Wg,Wh,Wi,Wj,Wk,Wl,Wm,Wn,Zo,Zp,evalT,Nat.reduceLT,Nat.reduceEqDiff,if_true,if_false,reduceIte,Ys,ofVal,ofCell,argT,resT,setT,Y0,Int.reduceEq,Int.reduceLT,Int.reduceLE,Int.reduceNeg,mb,Nat.reduceBEq,tys,stb,tys2,idx_C hc hlt,agg44,load4_rptr,z44,empty_mk,List.length_nil,storeList,List.take_zero,List.drop_zero,List.drop_succ_cons,List.drop_nil,List.all_cons,List.all_nil,List.set_cons_zero,isCell_str,isCell_int,hic,YW,Nat.reduceAdd,Nat.reduceLeDiff,name_call _ hsc.1,hnm,opT_slice,optO_none,optO_some,hu,hX,len_W hwc,h0,h1,h2]
    simp only [oneOr, sealDepth, sealV_int, hE, he]
  by_cases h3 : (cs.getD i Col.none).hi < (cs.getD i Col.none).lo
  · have he : colE (cs.getD i Col.none) = 2 := by simp only [colE, hz, if_true]; rw [if_pos (.inr (.inr h3))]
    simp -implicitDefEqProofs only [Tryd.f95,Wa,Wb,Wc,Wd,We,Wf,Wg,Wh,Wi,Wj,Wk,Wl,Wm,Wn,Zo,Zp,evalT,Nat.reduceLT,Nat.reduceEqDiff,if_true,if_false,reduceIte,Ys,ofVal,ofCell,argT,resT,setT,Y0,Int.reduceEq,Int.reduceLT,Int.reduceLE,Int.reduceNeg,mb,Nat.reduceBEq,tys,stb,tys2,idx_C hc hlt,agg44,load4_rptr,z44,empty_mk,List.length_nil,storeList,List.take_zero,List.drop_zero,List.drop_succ_cons,List.drop_nil,List.all_cons,List.all_nil,List.set_cons_zero,isCell_str,isCell_int,hic,YW,Nat.reduceAdd,Nat.reduceLeDiff,name_call _ hsc.1,hnm,opT_slice,optO_none,optO_some,hu,hX,len_W hwc,h0,h1,h2,h3]
    simp only [oneOr, sealDepth, sealV_int, hE, he]
  · have he : colE (cs.getD i Col.none) = 0 := by simp only [colE, hz, if_true]; rw [if_neg (by omega)]
    simp -implicitDefEqProofs only [Tryd.f95,Wa,Wb,Wc,Wd,We,Wf,Wg,Wh,Wi,Wj,Wk,Wl,Wm,Wn,Zo,Zp,evalT,Nat.reduceLT,Nat.reduceEqDiff,if_true,if_false,reduceIte,Ys,ofVal,ofCell,argT,resT,setT,Y0,Int.reduceEq,Int.reduceLT,Int.reduceLE,Int.reduceNeg,mb,Nat.reduceBEq,tys,stb,tys2,idx_C hc hlt,agg44,load4_rptr,z44,empty_mk,List.length_nil,storeList,List.take_zero,List.drop_zero,List.drop_succ_cons,List.drop_nil,List.all_cons,List.all_nil,List.set_cons_zero,isCell_str,isCell_int,hic,YW,Nat.reduceAdd,Nat.reduceLeDiff,name_call _ hsc.1,hnm,opT_slice,optO_none,optO_some,hu,hX,len_W hwc,h0,h1,h2,h3]
    simp only [oneOr, sealDepth, sealV_int, hE, he]
end Go.Proofs.YtbikmhpobflfeaaDoor
