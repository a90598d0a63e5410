/- Proved here: the law. Conditions: those of each theorem; no statement of the seat is proved in this text. -/
import Derived.Test.YtncohjljeoknkaaDoorJnB
namespace Go.Proofs.YtncohjljeoknkaaDoor.D
open Go.Ab
set_option linter.unusedVariables false
set_option linter.unusedSectionVars false
set_option linter.unusedSimpArgs false
theorem numF_four (n : Nat) (h : n < 2 ^ 32) : numF (fourB n) = n := by
  simp only [numF, fourB, List.foldl_cons, List.foldl_nil, UInt8.toNat_ofNat']
  omega
theorem numF_two (n : Nat) (h : n < 2 ^ 16) : numF (twoB n) = n := by
  simp only [numF, twoB, List.foldl_cons, List.foldl_nil, UInt8.toNat_ofNat']
  omega
theorem fields_enc : ∀ (fs : List (List UInt8)) (tail : List UInt8), (∀ f ∈ fs, f.length < 2 ^ 16) → fieldsR fs.length (fs.flatMap fldB ++ tail) = some (fs, tail)
  | [], tail, _ => rfl
  | f :: fs, tail, h => by
    have hf := h f (by simp)
    have ih := fields_enc fs tail fun g hg => h g (by simp [hg])
    have e : (f :: fs).flatMap fldB ++ tail = twoB f.length ++ (f ++ (fs.flatMap fldB ++ tail)) := by simp [fldB]
    have e1 : (twoB f.length ++ (f ++ (fs.flatMap fldB ++ tail))).take 2 = twoB f.length := List.take_left' rfl
    have e2 : (twoB f.length ++ (f ++ (fs.flatMap fldB ++ tail))).drop 2 = f ++ (fs.flatMap fldB ++ tail) := List.drop_left' rfl
    rw [e, List.length_cons, fieldsR, e1, e2, numF_two _ hf, if_neg (by simp [twoB]), if_neg (by simp), List.take_left' rfl, List.drop_left' rfl, ih]
    rfl
theorem pay_enc {r : Rec} (h : chkR r = 0) : payR (payB r) = some r := by
  obtain ⟨h1, h2, h3, h4, h5⟩ := chk0 h
  have hs : ∀ f ∈ r.fs, f.length < 2 ^ 16 := fun f hf => by
    simp only [longF, List.any_eq_false, decide_eq_true_eq] at h4
    have := h4 f hf
    omega
  have hfe := fields_enc r.fs [] hs
  rw [List.append_nil] at hfe
  have hk : (UInt8.ofNat r.k.toNat).toNat = r.k.toNat := by rw [UInt8.toNat_ofNat']; omega
  have hl : (UInt8.ofNat r.fs.length).toNat = r.fs.length := by rw [UInt8.toNat_ofNat']; omega
  have hlen := payB_len r
  have hp : 2 ≤ payN r.fs := by unfold payN; omega
  unfold payR
  rw [if_neg (by omega)]
  have e1 : (payB r).getD 1 0 = UInt8.ofNat r.fs.length := rfl
  have e0 : (payB r).getD 0 0 = UInt8.ofNat r.k.toNat := rfl
  have e2 : (payB r).drop 2 = r.fs.flatMap fldB := rfl
  rw [e1, e0, e2, hl, hk, hfe]
  have : ((r.k.toNat : Nat) : Int) = r.k := by omega
  rw [this]
theorem one_enc {r : Rec} (h : chkR r = 0) (rest : List UInt8) : oneR (bytR r ++ rest) = some (r, (bytR r).length) := by
  obtain ⟨h1, h2, h3, h4, h5⟩ := chk0 h
  obtain ⟨n1, n2⟩ := sumF_nat (payB r)
  have e : bytR r ++ rest = fourB (payN r.fs) ++ (payB r ++ (fourB (sumF (payB r)).toNat ++ rest)) := by simp [bytR]
  have e1 : (fourB (payN r.fs) ++ (payB r ++ (fourB (sumF (payB r)).toNat ++ rest))).take 4 = fourB (payN r.fs) := List.take_left' rfl
  have e2 : (fourB (payN r.fs) ++ (payB r ++ (fourB (sumF (payB r)).toNat ++ rest))).drop 4 = payB r ++ (fourB (sumF (payB r)).toNat ++ rest) := List.drop_left' rfl
  have e3 : (payB r ++ (fourB (sumF (payB r)).toNat ++ rest)).take (payN r.fs) = payB r := List.take_left' (payB_len r)
  have e4 : (payB r ++ (fourB (sumF (payB r)).toNat ++ rest)).drop (payN r.fs) = fourB (sumF (payB r)).toNat ++ rest := List.drop_left' (payB_len r)
  have e5 : (fourB (sumF (payB r)).toNat ++ rest).take 4 = fourB (sumF (payB r)).toNat := List.take_left' rfl
  have l1 := payB_len r
  unfold oneR
  rw [e, e1, e2, numF_four _ (by omega), e3, e4, e5, numF_four _ n2, pay_enc h, n1]
  have l4 : (fourB (payN r.fs)).length = 4 := rfl
  have l5 : (fourB (sumF (payB r)).toNat).length = 4 := rfl
  rw [if_neg (by simp only [List.length_append]; omega), if_neg (by simp only [List.length_append]; omega), if_neg (by simp only [List.length_append]; omega)]
  simp only [h, and_self, if_true, bytR_len]
theorem one_cut {r : Rec} (h : chkR r = 0) {c : Nat} (hc : c < (bytR r).length) : oneR ((bytR r).take c) = none := by
  obtain ⟨h1, h2, h3, h4, h5⟩ := chk0 h
  have hbl := bytR_len r
  have hl : ((bytR r).take c).length = c := by rw [List.length_take]; omega
  unfold oneR
  by_cases c4 : c < 4
  · rw [if_pos (by omega)]
  · rw [if_neg (by omega)]
    have e1 : ((bytR r).take c).take 4 = fourB (payN r.fs) := by
      rw [List.take_take, Nat.min_eq_left (by omega)]
      exact List.take_left' rfl
    rw [e1, numF_four _ (by omega)]
    by_cases c5 : c - 4 < payN r.fs
    · rw [if_pos (by rw [List.length_drop, hl]; exact c5)]
    · rw [if_neg (by rw [List.length_drop, hl]; exact c5), if_pos (by rw [List.length_drop, List.length_drop, hl]; omega)]
theorem read_enc : ∀ (rs : List Rec) (part : List UInt8), (∀ r ∈ rs, chkR r = 0) → oneR part = none → ∀ f, (rs.flatMap bytR ++ part).length ≤ f → readN f (rs.flatMap bytR ++ part) = (rs, (rs.flatMap bytR).length)
  | [], part, _, hp, f, _ => by
    cases f with
    | zero => rfl
    | succ f => simp only [List.flatMap_nil, List.nil_append, readN, hp]; rfl
  | r :: rs, part, h, hp, f, hf => by
    have hr := h r (by simp)
    have e : (r :: rs).flatMap bytR ++ part = bytR r ++ (rs.flatMap bytR ++ part) := by simp
    rw [e] at hf ⊢
    have hl := bytR_len r
    rw [List.length_append] at hf
    obtain ⟨f, rfl⟩ : ∃ f', f = f' + 1 := ⟨f - 1, by omega⟩
    have ih := read_enc rs part (fun q hq => h q (by simp [hq])) hp f (by omega)
    simp only [readN, one_enc hr, List.drop_left' rfl, ih]
    simp
theorem readR_enc {rs : List Rec} {part : List UInt8} (h : ∀ r ∈ rs, chkR r = 0) (hp : oneR part = none) : readR (rs.flatMap bytR ++ part) = (rs, (rs.flatMap bytR).length) := read_enc rs part h hp _ (Nat.le_refl _)
end Go.Proofs.YtncohjljeoknkaaDoor.D
namespace Go.Proofs.YtncohjljeoknkaaDoor.D
open Go.Ab
set_option maxHeartbeats 8000000
set_option maxRecDepth 100000
set_option linter.unusedSimpArgs false
set_option linter.unusedVariables false
theorem at9 : env.P.funcs[9]? = some Tryd.f9 := by kernel_rfl
theorem jknown_call (σ : S) : callFn env (ev env) 8 [] σ = some (.bool true, σ) := rfl
def tokOf : V → Option Nat
  | .row _ _ (.tok k _ _) => some k
  | _ => none
theorem RowT.appendF {E : Env} {L : List AObj} {ts : List Nat} {t ty ty2 : TypeId} {w n m nb : Nat} {v y : V} {cs new : List V} (h : RowT ts w v n cs) (he : elemS E ty = some t) (hs : sz E t = some w) (hz : zeroN E t = some w) (hb : bys E t = some nb) (hu : ∃ e2, E.P.underlying ty2 = some (.slice e2))
    (hlim : (n + m) * nb ≤ lim ∧ n + m ≤ lim) (hy : vLen y = some m) (hc : vCells L w m y = some new) (hnl : new.length = m * w) (hcell : new.all V.isCell = true) :
    ∃ v' ts', appO E false ⟨L, ts⟩ ty ty2 v y = some (v', ⟨L, ts'⟩) ∧ RowT ts' w v' (n + m) (cs ++ new) ∧ ts.length ≤ ts'.length ∧ (∀ k, tokOf v ≠ some k → k < ts.length → ts'[k]? = ts[k]?) ∧ (∀ k, tokOf v' = some k → tokOf v = some k ∨ ts.length ≤ k) := by
  obtain ⟨e2, hu⟩ := hu
  have hlen : (cs ++ new).length = (n + m) * w := by rw [List.length_append, h.1, hnl, Nat.add_mul]
  obtain ⟨hl, hcase⟩ := id h
  unfold appO
  simp only [he, hs, hb, hu, hz, hy, hc, Option.bind_some, if_true]
  by_cases h0 : m = 0
  · subst h0
    have hn : new = [] := List.eq_nil_of_length_eq_zero (by simpa using hnl)
    subst hn
    refine ⟨v, ts, ?_, by simpa using h, Nat.le_refl _, fun _ _ _ => rfl, fun _ h => .inl h⟩
    rcases hcase with ⟨rfl, rfl⟩ | ⟨cap, rfl, _⟩ <;> simp [aappend]
  · have new_tok : ∀ cells, cells.length = (n + m) * w → RowT (ts ++ [0]) w (.row cells (n + m) (.tok ts.length 0 w)) (n + m) cells ∧ ts.length ≤ (ts ++ [0]).length ∧ (∀ k, tokOf v ≠ some k → k < ts.length → (ts ++ [0])[k]? = ts[k]?) ∧ (∀ k, tokOf (.row cells (n + m) (.tok ts.length 0 w)) = some k → tokOf v = some k ∨ ts.length ≤ k) := fun cells hc =>
      ⟨⟨hc, .inr ⟨_, rfl, .inr ⟨ts.length, 0, rfl, by simp⟩⟩⟩, by simp, fun k _ hk => by rw [List.getElem?_append_left hk], fun k h => .inr (by simp only [tokOf, Option.some.injEq] at h; omega)⟩
    rcases hcase with ⟨rfl, rfl⟩ | ⟨cap, rfl, hcap⟩
    · have hx : cs = [] := List.eq_nil_of_length_eq_zero (by simpa using hl)
      subst hx
      obtain ⟨a1, a2, a3, a4⟩ := new_tok new (by simpa using hlen)
      simp only [Nat.zero_add] at hlim a1 a4
      refine ⟨.row new m (.tok ts.length 0 w), ts ++ [0], ?_, by simpa using a1, a2, a3, a4⟩
      simp [aappend, h0, hlim]
    · rcases hcap with rfl | ⟨k, e, rfl, hk⟩
      · obtain ⟨a1, a2, a3, a4⟩ := new_tok (cs ++ new) hlen
        refine ⟨.row (cs ++ new) (n + m) (.tok ts.length 0 w), ts ++ [0], ?_, a1, a2, a3, a4⟩
        simp only [aappend, h0, hlim, hl, hcell, and_self, if_true, if_false, Bool.false_eq_true]
      · refine ⟨.row (cs ++ new) (n + m) (.tok k (e + 1) w), ts.set k (e + 1), ?_, ⟨hlen, .inr ⟨_, rfl, .inr ⟨k, e + 1, rfl, by rw [List.getElem?_set_self (List.getElem?_eq_some_iff.1 hk).1]⟩⟩⟩, by simp, fun k' hk' _ => ?_, fun k' h => .inl h⟩
        · simp only [aappend, h0, hlim, hl, hcell, hk, and_self, if_true, if_false]
        · rw [List.getElem?_set_ne (fun e => hk' (by simp [tokOf, e]))]
theorem RowT.other {ts ts' : List Nat} {w n : Nat} {u : V} {cs : List V} (r : RowT ts w u n cs) (h : ∀ k, tokOf u = some k → k < ts.length → ts'[k]? = ts[k]?) : RowT ts' w u n cs := by
  obtain ⟨hl, h1 | ⟨cap, rfl, h2 | ⟨k, e, rfl, h3⟩⟩⟩ := r
  · exact ⟨hl, .inl h1⟩
  · exact ⟨hl, .inr ⟨cap, rfl, .inl h2⟩⟩
  · exact ⟨hl, .inr ⟨_, rfl, .inr ⟨k, e, rfl, by rw [h k rfl (List.getElem?_eq_some_iff.1 h3).1]; exact h3⟩⟩⟩
theorem RowT.tlt {ts : List Nat} {w n : Nat} {u : V} {cs : List V} (r : RowT ts w u n cs) {k : Nat} (h : tokOf u = some k) : k < ts.length := by
  obtain ⟨hl, ⟨rfl, _⟩ | ⟨cap, rfl, rfl | ⟨k', e, rfl, h3⟩⟩⟩ := r
  · cases h
  · cases h
  · simp only [tokOf, Option.some.injEq] at h
    subst h
    exact (List.getElem?_eq_some_iff.1 h3).1
structure Two (ts : List Nat) (a : V) (s : List UInt8) (b : V) (rs : List Rec) : Prop where
  ra : RowT ts 1 a s.length (byteCells s)
  rb : ∃ cs, RowT ts 2 b rs.length cs ∧ RecC rs cs
  ne : ∀ k, tokOf a = some k → tokOf b ≠ some k
theorem Two.pushA {L : List AObj} {ts : List Nat} {a b y : V} {s t : List UInt8} {rs : List Rec} (h : Two ts a s b rs) (hy : Rd L y t) (hl : s.length + t.length ≤ 2 ^ 38) :
    ∃ a' ts', appO env false ⟨L, ts⟩ 26 26 a y = some (a', ⟨L, ts'⟩) ∧ Two ts' a' (s ++ t) b rs := by
  have hlim : (s.length + t.length) * 1 ≤ lim ∧ s.length + t.length ≤ lim := by unfold lim; omega
  obtain ⟨a', ts', h1, h2, h3, h4, h5⟩ := RowT.appendF (E := env) (L := L) h.ra e26 s5 z5 b5 ⟨5, u26⟩ hlim hy.vlen hy.vcells (by rw [byteCells_len]; omega) (byteCells_cell t)
  rw [← byteCells_app] at h2
  obtain ⟨cs, hb1, hb2⟩ := h.rb
  refine ⟨a', ts', h1, by rw [List.length_append]; exact h2, ⟨cs, RowT.other hb1 fun k hk hlt => h4 k (fun e => h.ne k e hk) hlt, hb2⟩, fun k hk hkb => ?_⟩
  rcases h5 k hk with e | e
  · exact h.ne k e hkb
  · have := RowT.tlt hb1 hkb; omega
theorem Two.pushB {L : List AObj} {ts : List Nat} {a b : V} {s : List UInt8} {rs : List Rec} (h : Two ts a s b rs) {r : Rec} {fv : V} (hf : Fld fv r.fs) (hl : rs.length ≤ 2 ^ 30) :
    ∃ b' ts', appO env false ⟨L, ts⟩ 58 58 b (.row [.int .i64 r.k, fv] 1 .full) = some (b', ⟨L, ts'⟩) ∧ Two ts' a s b' (rs ++ [r]) := by
  obtain ⟨cs, hb1, hb2⟩ := h.rb
  have hlim : (rs.length + 1) * 32 ≤ lim ∧ rs.length + 1 ≤ lim := by unfold lim; omega
  obtain ⟨b', ts', h1, h2, h3, h4, h5⟩ := RowT.appendF (E := env) (L := L) (y := .row [.int .i64 r.k, fv] 1 .full) (m := 1) (new := [.int .i64 r.k, fv]) (nb := 32) hb1 e58 s55 (by kernel_rfl) (by kernel_rfl) ⟨55, u58⟩ hlim rfl rfl rfl (by simp only [List.all_cons, List.all_nil, hf.isCell]; rfl)
  refine ⟨b', ts', h1, RowT.other h.ra fun k hk hlt => h4 k (fun e => h.ne k hk e) hlt, ⟨_, by rw [List.length_append]; exact h2, hb2.snoc hf⟩, fun k hk hkb => ?_⟩
  rcases h5 k hkb with e | e
  · exact h.ne k hk e
  · have := RowT.tlt h.ra hk; omega
def IsL (v : V) (l : List Rec) : Prop := ∀ L, RdR L v l
theorem mb9 (r : Nat) : env.mutb 9 r = false := rfl
theorem cutN (c : Int) (n : Nat) (h : 0 < n) (hn : n ≤ 2 ^ 38) : ∃ m : Nat, m < n ∧ (IntKind.i64.wrap (c.tmod n + n)).tmod n = (m : Int) := by
  have h1 : -(n : Int) < c.tmod n := by
    have := Int.lt_tmod_of_pos c (b := (n : Int)) (by omega)
    exact this
  have h2 : c.tmod n < (n : Int) := Int.tmod_lt_of_pos c (by omega)
  rw [B.wrap64 (by omega)]
  have h3 : (c.tmod n + n).tmod n = (c.tmod n + n) % n := by rw [Int.tmod_eq_emod_of_nonneg (by omega)]
  have h4 := Int.emod_nonneg (c.tmod n + n) (b := (n : Int)) (by omega)
  have h5 := Int.emod_lt_of_pos (c.tmod n + n) (b := (n : Int)) (by omega)
  exact ⟨((c.tmod n + n) % n).toNat, by omega, by rw [h3]; omega⟩
noncomputable def body9 : Code := (blkC 1 (bodyOf Tryd.f9)).getD .skip
theorem turn9 {v : V} {c : Int} {l : List Rec} (hv : IsL v l) (hl20 : l.length ≤ 20) {Q : Post} {ks : List Kt} {T : Tm} {L : List AObj} {ts : List Nat} {a b : V} {s : List UInt8} {kept : List Rec} {i : Nat} (hi : i < l.length) (hlong : longR l[i] = false) (cd : Code) (hcd : cd = body9)
    (t0 : T 0 = v) (t1 : T 1 = .int .i64 c) (t5 : T 5 = .bool true) (t6 : T 6 = a) (t7 : T 7 = b) (t8 : T 8 = .int .i64 s.length) (t9 : T 9 = .int .i64 i) (h2 : Two ts a s b kept) (hs : s.length ≤ i * 200000) (hk : kept.length ≤ i) (hok : ∀ r ∈ kept, chkR r = 0) (hse : s = kept.flatMap bytR)
    (hQ : ∀ T' L' ts' a' b' s' (kept' : List Rec) part, T' 0 = v → T' 1 = .int .i64 c → T' 5 = .bool true → T' 6 = a' → T' 7 = b' → T' 8 = .int .i64 (kept'.flatMap bytR).length → T' 9 = .int .i64 i → Two ts' a' s' b' kept' → s'.length ≤ (i + 1) * 200000 → kept'.length ≤ i + 1 → (∀ r ∈ kept', chkR r = 0) → s' = kept'.flatMap bytR ++ part → oneR part = none → (i + 1 < l.length → part = []) → G env 9 none 91 Q ks .skip T' [] ⟨L', ts'⟩) :
    G env 9 none 91 Q (.blk 1 :: ks) cd T [] ⟨L, ts⟩ := by
  subst hcd
  simp only [body9, bodyOf, Tryd.f9, Option.getD_some, blkC, Option.or, Nat.reduceEqDiff, if_false, if_true, reduceIte]
  have hv1 := hv
  have hfs : l[i].fs.length ≤ 70 := by
    unfold longR at hlong
    rw [Bool.or_eq_false_iff, decide_eq_false_iff_not] at hlong
    omega
  obtain ⟨p, p0, p1, fv, x1, _, _, _, _, x2, hf⟩ := (hv1 L).idx hi
  have lv := (hv1 L).len 55
  have hL := long_call (L := L) (ts := ts) hf
  rw [hlong] at hL
  have hk1 := Keep.app L [.cells [.int .i64 l[i].k, fv] 55]
  obtain ⟨q, q0, q1, gv, y1, _, _, _, _, y2, hg⟩ := (hv1 (L ++ [.cells [.int .i64 l[i].k, fv] 55])).idx hi
  rw [x1] at y1
  simp only [Option.some.injEq] at y1
  subst y1
  obtain ⟨u, L2, hB, hK2, hU⟩ := bytes_rec (L := L ++ [.cells [.int .i64 l[i].k, fv] 55]) (ts := ts) hg (by omega)
  by_cases h0 : chkR l[i] = 0
  · rw [if_pos h0] at hU
    rw [h0] at hB
    have hlen := hU.1.rd.lenT 5
    have hbl := bytR_len l[i]
    obtain ⟨k1, k2, k3, k4, k5⟩ := chk0 h0
    have hp2 : 0 < payN l[i].fs := by unfold payN; omega
    have n0 : ¬ (((bytR l[i]).length : Int) = 0) := by omega
    have w1 : IntKind.i64.wrap ((l.length : Int) - 1) = ((l.length - 1 : Nat) : Int) := by rw [B.wrap64 (by omega)]; omega
    by_cases hlast : i = l.length - 1
    · have d1 : ((i : Int) = ((l.length - 1 : Nat) : Int)) = True := eq_true (by omega)
      obtain ⟨m, hm, hcm⟩ := cutN c (bytR l[i]).length (by omega) (by omega)
      obtain ⟨u', hsl, hru, _⟩ := hU.1.rd.cut (a := 0) (b := m) (lo := none) (hi := some (.int .i64 m)) (by omega) (by omega) (.inr ⟨rfl, rfl⟩) (.inl rfl)
      rw [List.drop_zero] at hru
      obtain ⟨a', ts', hA, h2'⟩ := h2.pushA hru (by rw [List.length_take]; omega)
      simp -implicitDefEqProofs only [Wa,Wb,Wc,Wd,We,Wf,Wg,Wh,Wi,Wj,Wk,Wl,Wm,Wn,Zo,Zp,evalT,Nat.reduceLT,Nat.reduceEqDiff,if_true,if_false,reduceIte,Ys,ofVal,ofCell,argT,resT,setT,Y0,Int.reduceEq,Int.reduceLT,Int.reduceLE,Int.reduceNeg,mb,Nat.reduceBEq,tys,stb,Va,storeList,Nat.reduceAdd,Nat.reduceLeDiff,tyj,vBin_xor,vBin_or,vBin_shl,vBin_shr,t0,t1,t5,t6,t7,t8,t9,x1,x2,agg55,hL,y2,hB,hlen,n0,lv,w1,d1,hcm,opT_slice,optO_none,optO_some,hsl,mb9,hA]
      refine hQ _ L2 ts' a' b (s ++ (bytR l[i]).take m) kept ((bytR l[i]).take m) ?_ ?_ ?_ ?_ ?_ ?_ ?_ h2' (by rw [List.length_append, List.length_take]; omega) (by omega) hok (by rw [hse]) (one_cut h0 hm) (by omega)
      · exact t0
      · exact t1
      · exact t5
      · rfl
      · exact t7
      · rw [← hse]; exact t8
      · exact t9
    · have d1 : ¬ (i : Int) = ((l.length - 1 : Nat) : Int) := by omega
      obtain ⟨zz, z0, z1, ev3, zz1, _, _, _, _, zz2, he3⟩ := (hv1 L2).idx hi
      rw [x1] at zz1
      simp only [Option.some.injEq] at zz1
      subst zz1
      obtain ⟨b', ts', hA1, h2'⟩ := h2.pushB (L := L2) he3 (by omega)
      obtain ⟨a', ts2, hA2, h2''⟩ := h2'.pushA hU.1.rd (by omega)
      have w2 : IntKind.i64.wrap ((s.length : Int) + ((bytR l[i]).length : Int)) = ((s.length + (bytR l[i]).length : Nat) : Int) := by rw [B.wrap64 (by omega)]; omega
      have hr58 := row58 (.int .i64 l[i].k) ev3 rfl he3.cells
      simp -implicitDefEqProofs only [Wa,Wb,Wc,Wd,We,Wf,Wg,Wh,Wi,Wj,Wk,Wl,Wm,Wn,Zo,Zp,evalT,Nat.reduceLT,Nat.reduceEqDiff,if_true,if_false,reduceIte,Ys,ofVal,ofCell,argT,resT,setT,Y0,Int.reduceEq,Int.reduceLT,Int.reduceLE,Int.reduceNeg,mb,Nat.reduceBEq,tys,stb,Va,storeList,Nat.reduceAdd,Nat.reduceLeDiff,tyj,vBin_xor,vBin_or,vBin_shl,vBin_shr,t0,t1,t5,t6,t7,t8,t9,x1,x2,agg55,hL,y2,hB,hlen,n0,lv,w1,d1,zz2,opT_rowB,hr58,mb9,hA1,hA2,w2]
      have e : (kept ++ [l[i]]).flatMap bytR = s ++ bytR l[i] := by simp [hse]
      refine hQ _ L2 ts2 a' b' (s ++ bytR l[i]) (kept ++ [l[i]]) [] ?_ ?_ ?_ ?_ ?_ ?_ ?_ h2'' (by rw [List.length_append]; omega) (by rw [List.length_append, List.length_singleton]; omega) (fun r hr => ?_) (by rw [e, List.append_nil]) rfl (fun _ => rfl)
      · exact t0
      · exact t1
      · exact t5
      · rfl
      · rfl
      · rw [e, List.length_append]; rfl
      · exact t9
      · rcases List.mem_append.1 hr with h | h
        · exact hok r h
        · rw [List.mem_singleton.1 h]; exact h0
  · rw [if_neg h0] at hU
    simp -implicitDefEqProofs only [Wa,Wb,Wc,Wd,We,Wf,Wg,Wh,Wi,Wj,Wk,Wl,Wm,Wn,Zo,Zp,evalT,Nat.reduceLT,Nat.reduceEqDiff,if_true,if_false,reduceIte,Ys,ofVal,ofCell,argT,resT,setT,Y0,Int.reduceEq,Int.reduceLT,Int.reduceLE,Int.reduceNeg,mb,Nat.reduceBEq,tys,stb,Va,storeList,Nat.reduceAdd,Nat.reduceLeDiff,tyj,vBin_xor,vBin_or,vBin_shl,vBin_shr,t0,t1,t5,t6,t7,t8,t9,x1,x2,agg55,hL,y2,hB,h0]
    refine hQ _ L2 ts a b s kept [] ?_ ?_ ?_ ?_ ?_ ?_ ?_ h2 (Nat.le_trans hs (Nat.mul_le_mul_right _ (Nat.le_succ i))) (Nat.le_succ_of_le hk) hok (by rw [hse, List.append_nil]) rfl (fun _ => rfl)
    · exact t0
    · exact t1
    · exact t5
    · exact t6
    · exact t7
    · rw [← hse]; exact t8
    · exact t9
theorem torn_found {v : V} {c : Int} {l : List Rec} (hv : IsL v l) : Go.Ab.Found env 9 [v, .int .i64 c] := by
  refine found_of_wp at9 rfl (by simp [Tryd.f9]) (by simp [Tryd.f9]) (G_start ?_)
  have lv := (hv []).len 55
  by_cases h20 : 20 < l.length
  · have c1 : (20 : Int) < (l.length : Int) := by omega
    simp -implicitDefEqProofs only [Tryd.f9,Wa,Wb,Wc,Wd,We,Wf,Wg,Wh,Wi,Wj,Wk,Wl,Wm,Wn,Zo,Zp,evalT,Nat.reduceLT,Nat.reduceEqDiff,if_true,if_false,reduceIte,Ys,ofVal,ofCell,argT,resT,setT,Y0,Int.reduceEq,Int.reduceLT,Int.reduceLE,Int.reduceNeg,mb,Nat.reduceBEq,tys,stb,Va,storeList,Nat.reduceAdd,Nat.reduceLeDiff,tyj,vBin_xor,vBin_or,vBin_shl,vBin_shr,jknown_call,lv,c1]
    simp only [oneOr]
  · have c1 : ¬ (20 : Int) < (l.length : Int) := by omega
    simp -implicitDefEqProofs only [Tryd.f9,Wa,Wb,Wc,Wd,We,Wf,Wg,Wh,Wi,Wj,Wk,Wl,Wm,Wn,Zo,Zp,evalT,Nat.reduceLT,Nat.reduceEqDiff,if_true,if_false,reduceIte,Ys,ofVal,ofCell,argT,resT,setT,Y0,Int.reduceEq,Int.reduceLT,Int.reduceLE,Int.reduceNeg,mb,Nat.reduceBEq,tys,stb,Va,storeList,Nat.reduceAdd,Nat.reduceLeDiff,tyj,vBin_xor,vBin_or,vBin_shl,vBin_shr,jknown_call,lv,c1,S.empty]
    refine loop_rule (fun m T D σ => D = [] ∧ T 0 = v ∧ T 1 = .int .i64 c ∧ T 5 = .bool true ∧ ∃ (i : Nat) (L : List AObj) (ts : List Nat) (a b : V) (s : List UInt8) (kept : List Rec) (part : List UInt8), i ≤ l.length ∧ m = l.length - i ∧ T 6 = a ∧ T 7 = b ∧ T 8 = .int .i64 (kept.flatMap bytR).length ∧ T 9 = .int .i64 i ∧ σ = ⟨L, ts⟩ ∧ Two ts a s b kept ∧ s.length ≤ i * 200000 ∧ kept.length ≤ i ∧ (∀ r ∈ kept, chkR r = 0) ∧ s = kept.flatMap bytR ++ part ∧ oneR part = none ∧ (i < l.length → part = [])) ?_ l.length _ _ _
      ⟨rfl, rfl, rfl, rfl, 0, [], [], .nilsl, .nilsl, [], [], [], by omega, rfl, rfl, rfl, rfl, rfl, rfl, ⟨RowT.nil _ _, ⟨[], RowT.nil _ _, rfl⟩, fun k h => by cases h⟩, Nat.zero_le _, Nat.zero_le _, fun r hr => by simp at hr, rfl, rfl, fun _ => rfl⟩
    rintro m T D σ ⟨rfl, t0, t1, t5, i, L, ts, a, b, s, kept, part, hi, rfl, t6, t7, t8, t9, rfl, h2, hs, hk, hok, hse, hpt, hpn⟩
    refine G_start ?_
    have lv := (hv L).len 55
    by_cases hlt : i < l.length
    · have c1 : (i : Int) < (l.length : Int) := by omega
      have w1 : IntKind.wrap .i64 ((i : Int) + 1) = ((i + 1 : Nat) : Int) := by rw [B.wrap64 (by omega)]; omega
      rw [hpn hlt, List.append_nil] at hse
      cases hlong : longR l[i] with
      | false =>
        rw [← hse] at t8
        simp -implicitDefEqProofs only [Za,Zc,Zd,Ze,Zf,Zg,Zh,Zi,Zj,Zk,Zl,Zm,Zn,Zo,Zp,Zq,Zr,Zs,Zt,Zu,Zv,Zw,Zx,Zy,Zz,ZA,ZB,ZC,ZD,ZE,ZF,ZG,ZH,ZI,ZJ,ZK,ZL,ZM,ZN,ZO,ZP,ZQ,ZR,ZS,ZT,ZU,ZV,ZW,ZX,ZY,ZZ,Z0,Z1,Z2,Z3,Z4,Z5,Z6,evalT,Z7,Nat.reduceLT,Nat.reduceEqDiff,if_true,if_false,reduceIte,true_and,Z8,Z9,map_ite',Ya,bind_ite',Yb,Yc,Yd,Ye,Yf,Yg,Yh,Yi,Yj,Yk,Yl,Ym,Yn,Yo,Yp,Yq,Yr,Ys,Yt,Yu,Yv,Yw,ofVal,ofCell,argT,ZL1,resT,Yx,Yy,Nat.mul_one,Yz,YA,YB,YC,YD,YE,YF,YG,YH,YI,YJ,setT,YK,YL,YM,YN,YO,List.append_eq,YP,YQ,YR,YS,YT,YU,YV,YW,YX,Nat.add_zero,YY,YZ,Y0,Y1,Y2,Y3,Int.toNat_natCast,Bool.false_eq_true,Int.reduceEq,Int.reduceLT,Int.reduceLE,Int.reduceNeg,not_false_eq_true,and_self,Y4,Y5,Int.natCast_one,Int.cast_ofNat_Int,not_true_eq_false,decide_true,decide_false,true_implies,false_implies,Int.toNat_zero,List.length_cons,List.length_nil,Nat.zero_add,mb,Nat.reduceBEq,Bool.false_and,Bool.and_false,Y6,tys,stb,Y7,Y8,Y9,Qa,Qb,Qc,ZB1,Qd,Qe,Va,storeList,Nat.reduceAdd,Nat.reduceLeDiff,tyj,vBin_xor,vBin_or,vBin_shl,vBin_shr,t0,t9,lv,c1]
        rw [Zb]
        refine turn9 (c := c) hv (by omega) hlt hlong _ rfl t0 t1 t5 t6 t7 t8 t9 h2 hs hk hok hse ?_
        intro T' L' ts' a' b' s' kept' part' k0 k1 k5 k6 k7 k8 k9 h2' hs' hk' hok' hse' hpt' hpn'
        simp -implicitDefEqProofs only [Wa,Wb,Wc,Wd,We,Wf,Wg,Wh,Wi,Wj,Wk,Wl,Wm,Wn,Zo,Zp,evalT,Nat.reduceLT,Nat.reduceEqDiff,if_true,if_false,reduceIte,Ys,ofVal,ofCell,argT,resT,setT,Y0,Int.reduceEq,Int.reduceLT,Int.reduceLE,Int.reduceNeg,mb,Nat.reduceBEq,tys,stb,Va,storeList,Nat.reduceAdd,Nat.reduceLeDiff,tyj,vBin_xor,vBin_or,vBin_shl,vBin_shr,k9,w1]
        exact ⟨l.length - (i + 1), by omega, k0, k1, k5, i + 1, L', ts', a', b', s', kept', part', by omega, rfl, k6, k7, k8, rfl, rfl, h2', hs', hk', hok', hse', hpt', hpn'⟩
      | true =>
        obtain ⟨p, p0, p1, fv, x1, _, _, _, _, x2, hf⟩ := (hv L).idx hlt
        have hL := long_call (L := L) (ts := ts) hf
        rw [hlong] at hL
        simp -implicitDefEqProofs only [Wa,Wb,Wc,Wd,We,Wf,Wg,Wh,Wi,Wj,Wk,Wl,Wm,Wn,Zo,Zp,evalT,Nat.reduceLT,Nat.reduceEqDiff,if_true,if_false,reduceIte,Ys,ofVal,ofCell,argT,resT,setT,Y0,Int.reduceEq,Int.reduceLT,Int.reduceLE,Int.reduceNeg,mb,Nat.reduceBEq,tys,stb,Va,storeList,Nat.reduceAdd,Nat.reduceLeDiff,tyj,vBin_xor,vBin_or,vBin_shl,vBin_shr,t0,t5,t9,lv,c1,x1,x2,agg55,hL]
        simp only [oneOr]
    · have c1 : ¬ (i : Int) < (l.length : Int) := by omega
      have hy := (Two.ra h2).bytes L
      have hr := readR_enc hok hpt
      rw [← hse] at hr
      obtain ⟨lv2, L2, ts2, hR, hK2, hT2, hrow⟩ := read_call (ts := ts) hy (by omega)
      rw [hr] at hR hrow
      simp only at hR hrow
      obtain ⟨cs, hb1, hb2⟩ := h2.rb
      have hf : ∀ r ∈ kept, r.fs.length ≤ 2 ^ 38 := fun r hr => by have := (chk0 (hok r hr)).2.2.1; omega
      have hS := same_call (L := L2) (ts := ts2) (hrow.rd L2) (v := b) ⟨cs, (hT2.row hb1).rd L2, hb2⟩ (by omega) hf
      simp -implicitDefEqProofs only [Wa,Wb,Wc,Wd,We,Wf,Wg,Wh,Wi,Wj,Wk,Wl,Wm,Wn,Zo,Zp,evalT,Nat.reduceLT,Nat.reduceEqDiff,if_true,if_false,reduceIte,Ys,ofVal,ofCell,argT,resT,setT,Y0,Int.reduceEq,Int.reduceLT,Int.reduceLE,Int.reduceNeg,mb,Nat.reduceBEq,tys,stb,Va,storeList,Nat.reduceAdd,Nat.reduceLeDiff,tyj,vBin_xor,vBin_or,vBin_shl,vBin_shr,t0,t5,t6,t7,t8,t9,lv,c1,hR,hS]
      simp only [oneOr]
theorem fts55 : fieldTs env.P 55 = some [3, 53] := by kernel_rfl
theorem flatS1 : ∀ s : List (List UInt8), (s.map fun x => [V.str x]).flatten = s.map V.str
  | [] => rfl
  | x :: s => by simp only [List.map_cons, List.flatten_cons, flatS1 s]; rfl
structure ARec where
  r : Rec
  fv : V
  ok : (fv = .nilsl ∧ r.fs = []) ∨ fv = .row (r.fs.map .str) r.fs.length .unk
  b : IntKind.i64.min ≤ r.k ∧ r.k ≤ IntKind.i64.max ∧ r.fs.length ≤ maxLen ∧ ∀ f ∈ r.fs, f.length ≤ maxLen
def ARec.cs (a : ARec) : List V := [.int .i64 a.r.k, a.fv]
theorem ARec.fld (a : ARec) : Fld a.fv a.r.fs := a.ok.imp id fun h => ⟨_, h⟩
theorem tyd_R {x : List V} {k : Nat} (h : Tyd env.P (k + 3) 55 x) : ∃ a : ARec, x = a.cs := by
  obtain ⟨a, r, rfl, ha, c, r3, rfl, hc, rfl⟩ := tyd_struct h fts55
  obtain ⟨n, rfl, hn1, hn2⟩ := tyd_int ha u3
  rcases tyd_slice hc u53 with h | ⟨vss, h, hl, _, ht⟩
  · subst h
    exact ⟨⟨⟨n, []⟩, .nilsl, .inl ⟨rfl, rfl⟩, hn1, hn2, by simp, by simp⟩, rfl⟩
  · obtain ⟨ss, rfl⟩ := tyd_map (f := fun s : {s : List UInt8 // s.length ≤ maxLen} => [V.str s.1]) (fun x hx => by
      obtain ⟨s, rfl, hs⟩ := tyd_str hx u9
      exact ⟨⟨s, hs⟩, rfl⟩) ht
    subst h
    have e : (ss.map fun s => [V.str s.1]).flatten = (ss.map (·.1)).map V.str := by rw [← flatS1, List.map_map]; rfl
    exact ⟨⟨⟨n, ss.map (·.1)⟩, _, .inr rfl, hn1, hn2, by simpa using hl, fun f hf => by obtain ⟨x, _, rfl⟩ := List.mem_map.1 hf; exact x.2⟩, by simp only [ARec.cs, e, List.length_map]; rfl⟩
theorem recC_A : ∀ l : List ARec, RecC (l.map (·.r)) (l.flatMap ARec.cs)
  | [] => rfl
  | a :: l => ⟨a.fv, l.flatMap ARec.cs, rfl, a.fld, recC_A l⟩
theorem tyd_RS {v : V} {k : Nat} (h : Tyd env.P (k + 4) 58 [v]) : ∃ l : List ARec, (∀ L, RdR L v (l.map (·.r))) ∧ ((v = .nilsl ∧ l = []) ∨ v = .row (l.flatMap ARec.cs) l.length .unk) := by
  rcases tyd_slice h u58 with h | ⟨vss, h, hl, _, ht⟩
  · simp only [List.cons.injEq, and_true] at h
    subst h
    exact ⟨[], fun L => ⟨[], RdS.nil L 2, rfl⟩, .inl ⟨rfl, rfl⟩⟩
  · simp only [List.cons.injEq, and_true] at h
    obtain ⟨cs, rfl⟩ := tyd_map (f := ARec.cs) (fun x hx => tyd_R hx) ht
    have hcl : (cs.flatMap ARec.cs).length = cs.length * 2 := by rw [(recC_A cs).cell.2, List.length_map]
    subst h
    refine ⟨cs, fun L => ⟨cs.flatMap ARec.cs, ?_, recC_A cs⟩, .inr (by rw [List.length_map]; rfl)⟩
    have := RdS.row L 2 (cs.flatMap ARec.cs) cs.length .unk hcl
    rw [List.length_map, List.length_map]
    exact this
theorem torn_foundt {u w : V} (h : Tyd Tryd.prog 5 58 [u]) (h2 : Tyd Tryd.prog 5 3 [w]) : Go.Ab.Found env 9 [u, w] := by
  obtain ⟨l, h1, _⟩ := tyd_RS (k := 1) h
  obtain ⟨n, e, _⟩ := tyd_int h2 u3
  simp only [List.cons.injEq, and_true] at e
  subst e
  exact torn_found h1
end Go.Proofs.YtncohjljeoknkaaDoor.D
