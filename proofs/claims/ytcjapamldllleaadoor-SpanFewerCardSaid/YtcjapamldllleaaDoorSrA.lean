/- Proved here: spans, plain, and the package's operations of spans. Conditions: those of each theorem; no statement of the seat is proved in this text. -/
import Derived.Test.YtcjapamldllleaaDoorSqD
namespace Go.Proofs.YtcjapamldllleaaDoor
open Go.Ab
set_option maxHeartbeats 4000000
set_option maxRecDepth 100000
set_option linter.unusedSimpArgs false
set_option linter.unusedVariables false
abbrev Iv := Int × Int
def notI (p : Iv) : Iv := (wr (1 - p.2), wr (1 - p.1))
def hullI (p q : Iv) : Iv := (minI p.1 q.1, maxI p.2 q.2)
def eqI (p q : Iv) : Iv := (bitI (decide (p = q) && decide (p.1 = p.2)), bitI (decide (p.1 ≤ q.2) && decide (q.1 ≤ p.2)))
def lessI (p q : Iv) : Iv := (wr (1 - bitI (decide (p.2 ≥ q.1))), bitI (decide (p.1 < q.2)))
def dup (x : Int) : Iv := (x, x)
def mulI (p q : Iv) : Iv := hullI (hullI (hullI (dup (timesI p.1 q.1)) (dup (timesI p.1 q.2))) (dup (timesI p.2 q.1))) (dup (timesI p.2 q.2))
def opI (op : Int) (p q r : Iv) : Iv :=
  if op = 4 then (limI (wr (p.1 + q.1)), limI (wr (p.2 + q.2)))
  else if op = 5 then (limI (wr (p.1 - q.2)), limI (wr (p.2 - q.1)))
  else if op = 6 then mulI p q
  else if op = 7 then (wr (0 - p.2), wr (0 - p.1))
  else if op = 8 then (if p = (1, 1) then q else if p = (0, 0) then r else hullI q r)
  else if op = 9 then eqI p q
  else if op = 10 then notI (eqI p q)
  else if op = 11 then lessI p q
  else if op = 12 then notI (lessI q p)
  else if op = 13 then lessI q p
  else if op = 14 then notI (lessI p q)
  else if op = 15 then (minI p.1 q.1, minI p.2 q.2)
  else if op = 16 then (maxI p.1 q.1, maxI p.2 q.2)
  else notI p
structure Rs where
  lo : Int
  hi : Int
  yes : Bool
  no : Bool
def Rs.none : Rs := ⟨0, 0, false, false⟩
def numR (a b : Int) : Rs := ⟨a, b, false, false⟩
def turnR (s : Rs) : Rs := ⟨0, 0, s.no, s.yes⟩
def eqR (s t : Rs) : Rs := ⟨0, 0, decide (maxI s.lo t.lo ≤ minI s.hi t.hi), decide (¬ s.lo = s.hi) || decide (¬ t.lo = t.hi) || decide (¬ s.lo = t.lo)⟩
def lessR (s t : Rs) : Rs := ⟨0, 0, decide (s.lo < t.hi), decide (s.hi ≥ t.lo)⟩
def choiceR (s t u : Rs) : Rs := if s.no = false then t else if s.yes = false then u else numR (minI t.lo u.lo) (maxI t.hi u.hi)
def min4 (a b c d : Int) : Int := minI (minI (minI a b) c) d
def max4 (a b c d : Int) : Int := maxI (maxI (maxI a b) c) d
def mulR (s t : Rs) : Rs := numR (min4 (timesI s.lo t.lo) (timesI s.lo t.hi) (timesI s.hi t.lo) (timesI s.hi t.hi)) (max4 (timesI s.lo t.lo) (timesI s.lo t.hi) (timesI s.hi t.lo) (timesI s.hi t.hi))
def opR (op : Int) (s t u : Rs) : Rs :=
  if op = 4 then numR (limI (wr (s.lo + t.lo))) (limI (wr (s.hi + t.hi)))
  else if op = 5 then numR (limI (wr (s.lo - t.hi))) (limI (wr (s.hi - t.lo)))
  else if op = 6 then mulR s t
  else if op = 7 then numR (wr (0 - s.hi)) (wr (0 - s.lo))
  else if op = 8 then choiceR s t u
  else if op = 9 then eqR s t
  else if op = 10 then turnR (eqR s t)
  else if op = 11 then lessR s t
  else if op = 12 then turnR (lessR t s)
  else if op = 13 then lessR t s
  else if op = 14 then turnR (lessR s t)
  else if op = 15 then ⟨0, 0, s.yes && t.yes, s.no || t.no⟩
  else if op = 16 then ⟨0, 0, s.yes || t.yes, s.no && t.no⟩
  else turnR s
def BI (x : Int) : Prop := -1000000000000000 ≤ x ∧ x ≤ 1000000000000000
theorem wr_id {x : Int} (h1 : -9223372036854775808 ≤ x) (h2 : x ≤ 9223372036854775807) : wr x = x := wrap_i64 (by omega) (by omega)
theorem limI_B (x : Int) : BI (limI x) := by
  unfold limI BI maxI minI
  split <;> split <;> omega
theorem minI_le {x y : Int} (h : x ≤ y) (z : Int) : minI x z ≤ minI y z := by unfold minI; split <;> split <;> omega
theorem maxI_le {x y : Int} (h : x ≤ y) (z : Int) : maxI z x ≤ maxI z y := by unfold maxI; split <;> split <;> omega
theorem limI_mono {x y : Int} (h : x ≤ y) : limI x ≤ limI y := maxI_le (minI_le h _) _
theorem abs_mul {a b q na nb : Int} (hna : na = a ∨ na = -a) (hnb : nb = b ∨ nb = -b) (h0 : 0 ≤ na) (h1 : 0 < nb) (hq : q * nb ≤ 1000000000000000) (h : na ≤ q) : -1000000000000000 ≤ a * b ∧ a * b ≤ 1000000000000000 := by
  have h2 : na * nb ≤ 1000000000000000 := Int.le_trans (Int.mul_le_mul_of_nonneg_right h (by omega)) hq
  have h3 : 0 ≤ na * nb := Int.mul_nonneg h0 (by omega)
  rcases hna with rfl | rfl <;> rcases hnb with rfl | rfl
  · omega
  · rw [Int.mul_neg] at h2 h3; omega
  · rw [Int.neg_mul] at h2 h3; omega
  · rw [Int.neg_mul_neg] at h2 h3; omega
theorem timesI_B {a b : Int} (ha : BI a) (hb : BI b) : BI (timesI a b) := by
  obtain ⟨a1, a2⟩ := ha
  obtain ⟨b1, b2⟩ := hb
  unfold timesI
  by_cases h0 : a = 0 ∨ b = 0
  · rw [if_pos h0]; simp [BI]
  rw [if_neg h0]
  have e1 : wr (0 - a) = -a := by rw [wr_id (by omega) (by omega)]; omega
  have e2 : wr (0 - b) = -b := by rw [wr_id (by omega) (by omega)]; omega
  rw [e1, e2]
  have ha0 : maxI a (-a) = a ∨ maxI a (-a) = -a := by unfold maxI; split; exact .inr rfl; exact .inl rfl
  have hb0 : maxI b (-b) = b ∨ maxI b (-b) = -b := by unfold maxI; split; exact .inr rfl; exact .inl rfl
  have ha3 : 0 ≤ maxI a (-a) := by unfold maxI; split <;> omega
  have hb3 : 0 < maxI b (-b) := by unfold maxI; split <;> omega
  generalize maxI a (-a) = na at *
  generalize maxI b (-b) = nb at *
  have hq : Int.tdiv 1000000000000000 nb * nb ≤ 1000000000000000 := by
    rw [Int.tdiv_eq_ediv_of_nonneg (by omega)]
    exact Int.ediv_mul_le _ (by omega)
  have hq0 : 0 ≤ Int.tdiv 1000000000000000 nb := Int.tdiv_nonneg (by omega) (by omega)
  have hq1 : Int.tdiv 1000000000000000 nb ≤ 1000000000000000 := by
    have : Int.tdiv 1000000000000000 nb * 1 ≤ Int.tdiv 1000000000000000 nb * nb := Int.mul_le_mul_of_nonneg_left (by omega) hq0
    omega
  rw [wr_id (x := Int.tdiv 1000000000000000 nb) (by omega) (by omega)]
  by_cases h1 : na ≤ Int.tdiv 1000000000000000 nb
  · rw [if_pos h1]
    have := abs_mul ha0 hb0 ha3 hb3 hq h1
    rw [wr_id (by omega) (by omega)]
    exact this
  · rw [if_neg h1]
    split <;> simp [BI]
def Rel (k : Int) (p : Iv) (s : Rs) : Prop :=
  p.1 ≤ p.2 ∧ if k = 1 then Bit p.1 ∧ Bit p.2 ∧ s.yes = decide (p.2 = 1) ∧ s.no = decide (p.1 = 0) else BI p.1 ∧ BI p.2 ∧ s.lo = p.1 ∧ s.hi = p.2
theorem Rel.num {p : Iv} {s : Rs} (h : Rel 0 p s) : p.1 ≤ p.2 ∧ BI p.1 ∧ BI p.2 ∧ s.lo = p.1 ∧ s.hi = p.2 := ⟨h.1, by simpa [Rel] using h.2⟩
theorem Rel.bit {p : Iv} {s : Rs} (h : Rel 1 p s) : p.1 ≤ p.2 ∧ Bit p.1 ∧ Bit p.2 ∧ s.yes = decide (p.2 = 1) ∧ s.no = decide (p.1 = 0) := ⟨h.1, by simpa [Rel] using h.2⟩
theorem Rel.mknum {p : Iv} {s : Rs} (h0 : p.1 ≤ p.2) (h1 : BI p.1) (h2 : BI p.2) (h3 : s.lo = p.1) (h4 : s.hi = p.2) : Rel 0 p s := ⟨h0, by simp [h1, h2, h3, h4]⟩
theorem Rel.mkbit {p : Iv} {s : Rs} (h0 : p.1 ≤ p.2) (h1 : Bit p.1) (h2 : Bit p.2) (h3 : s.yes = decide (p.2 = 1)) (h4 : s.no = decide (p.1 = 0)) : Rel 1 p s := ⟨h0, by simp [h1, h2, h3, h4]⟩
theorem bit_1 (b : Bool) : (bitI b = 1) = (b = true) := by cases b <;> simp [bitI]
theorem bit_0 (b : Bool) : (bitI b = 0) = (b = false) := by cases b <;> simp [bitI]
theorem bitI_le {a b : Bool} (h : a = true → b = true) : bitI a ≤ bitI b := by
  cases a <;> cases b <;> simp [bitI] at *
theorem turn_rel {p : Iv} {s : Rs} (h : Rel 1 p s) : Rel 1 (notI p) (turnR s) := by
  obtain ⟨h0, h1, h2, h3, h4⟩ := h.bit
  obtain ⟨a, b⟩ := p
  simp only at h0 h1 h2 h3 h4
  rcases h1 with rfl | rfl <;> rcases h2 with rfl | rfl
  · exact .mkbit (by decide) (.inr rfl) (.inr rfl) (by simp [turnR, h4, notI]; decide) (by simp [turnR, h3, notI]; decide)
  · exact .mkbit (by decide) (.inl rfl) (.inr rfl) (by simp [turnR, h4, notI]; decide) (by simp [turnR, h3, notI]; decide)
  · omega
  · exact .mkbit (by decide) (.inl rfl) (.inl rfl) (by simp [turnR, h4, notI]; decide) (by simp [turnR, h3, notI]; decide)
theorem eq_rel {p q : Iv} {s t : Rs} (h : Rel 0 p s) (g : Rel 0 q t) : Rel 1 (eqI p q) (eqR s t) := by
  obtain ⟨h0, h1, h2, h3, h4⟩ := h.num
  obtain ⟨g0, g1, g2, g3, g4⟩ := g.num
  obtain ⟨a, b⟩ := p
  obtain ⟨c, d⟩ := q
  obtain ⟨sl, sh, sy, sn⟩ := s
  obtain ⟨tl, th, ty, tn⟩ := t
  simp only at h0 h1 h2 h3 h4 g0 g1 g2 g3 g4
  subst h3 h4 g3 g4
  refine .mkbit (bitI_le fun e => ?_) (bitI_bit _) (bitI_bit _) ?_ ?_
  · simp only [Bool.and_eq_true, decide_eq_true_eq, Prod.mk.injEq] at e ⊢
    omega
  · rw [Bool.eq_iff_iff]
    simp only [eqI, eqR, bit_1, Bool.and_eq_true, decide_eq_true_eq]
    unfold maxI minI
    split <;> split <;> omega
  · rw [Bool.eq_iff_iff]
    simp only [eqI, eqR, bit_0, Bool.or_eq_true, Bool.and_eq_false_iff, decide_eq_true_eq, decide_eq_false_iff_not, Prod.mk.injEq]
    omega
theorem less_rel {p q : Iv} {s t : Rs} (h : Rel 0 p s) (g : Rel 0 q t) : Rel 1 (lessI p q) (lessR s t) := by
  obtain ⟨h0, h1, h2, h3, h4⟩ := h.num
  obtain ⟨g0, g1, g2, g3, g4⟩ := g.num
  obtain ⟨a, b⟩ := p
  obtain ⟨c, d⟩ := q
  obtain ⟨sl, sh, sy, sn⟩ := s
  obtain ⟨tl, th, ty, tn⟩ := t
  simp only at h0 h1 h2 h3 h4 g0 g1 g2 g3 g4
  subst h3 h4 g3 g4
  have e : wr (1 - bitI (decide (sh ≥ tl))) = bitI (decide (¬ sh ≥ tl)) := by
    by_cases hbc : sh ≥ tl
    · simp only [hbc, decide_true, not_true_eq_false, decide_false]; decide
    · simp only [hbc, decide_false, not_false_eq_true, decide_true]; decide
  have e2 : lessI (sl, sh) (tl, th) = (bitI (decide (¬ sh ≥ tl)), bitI (decide (sl < th))) := by unfold lessI; simp only [e]
  rw [e2]
  refine .mkbit (bitI_le fun e => ?_) (bitI_bit _) (bitI_bit _) ?_ ?_
  · simp only [decide_eq_true_eq] at e ⊢
    omega
  · rw [Bool.eq_iff_iff]
    simp only [lessR, bit_1, decide_eq_true_eq]
  · rw [Bool.eq_iff_iff]
    simp only [lessR, bit_0, decide_eq_true_eq, decide_eq_false_iff_not]
    omega
theorem min_B {x y : Int} (h : BI x) (g : BI y) : BI (minI x y) := by unfold minI; split; exact g; exact h
theorem max_B {x y : Int} (h : BI x) (g : BI y) : BI (maxI x y) := by unfold maxI; split; exact g; exact h
theorem mul_rel {p q : Iv} {s t : Rs} (h : Rel 0 p s) (g : Rel 0 q t) : Rel 0 (mulI p q) (mulR s t) := by
  obtain ⟨h0, h1, h2, h3, h4⟩ := h.num
  obtain ⟨g0, g1, g2, g3, g4⟩ := g.num
  have k1 := timesI_B h1 g1
  have k2 := timesI_B h1 g2
  have k3 := timesI_B h2 g1
  have k4 := timesI_B h2 g2
  refine .mknum ?_ (min_B (min_B (min_B k1 k2) k3) k4) (max_B (max_B (max_B k1 k2) k3) k4) ?_ ?_
  · simp only [mulI, hullI, dup]
    unfold minI maxI
    repeat' split
    all_goals omega
  · simp only [mulR, numR, h3, h4, g3, g4]; rfl
  · simp only [mulR, numR, h3, h4, g3, g4]; rfl
theorem op_rel {op : Int} (h1 : 4 ≤ op) (h2 : op ≤ 17) {p q r : Iv} {s t u : Rs} (hp : Rel ((takesN op).1.getD 0 0) p s) (hq : 2 ≤ arI op → Rel ((takesN op).1.getD 1 0) q t) (hr : op = 8 → Rel 0 r u) : Rel (takesN op).2 (opI op p q r) (opR op s t u) := by
  have ho : op = 4 ∨ op = 5 ∨ op = 6 ∨ op = 7 ∨ op = 8 ∨ op = 9 ∨ op = 10 ∨ op = 11 ∨ op = 12 ∨ op = 13 ∨ op = 14 ∨ op = 15 ∨ op = 16 ∨ op = 17 := by omega
  rcases ho with rfl | rfl | rfl | rfl | rfl | rfl | rfl | rfl | rfl | rfl | rfl | rfl | rfl | rfl
  · obtain ⟨h0, h1, h2, h3, h4⟩ := Rel.num hp
    obtain ⟨g0, g1, g2, g3, g4⟩ := Rel.num (hq (by decide))
    unfold BI at h1 h2 g1 g2
    refine .mknum (limI_mono ?_) (limI_B _) (limI_B _) ?_ ?_
    · rw [wr_id (by omega) (by omega), wr_id (by omega) (by omega)]; omega
    · change limI (wr (s.lo + t.lo)) = _; rw [h3, g3]; rfl
    · change limI (wr (s.hi + t.hi)) = _; rw [h4, g4]; rfl
  · obtain ⟨h0, h1, h2, h3, h4⟩ := Rel.num hp
    obtain ⟨g0, g1, g2, g3, g4⟩ := Rel.num (hq (by decide))
    unfold BI at h1 h2 g1 g2
    refine .mknum (limI_mono ?_) (limI_B _) (limI_B _) ?_ ?_
    · rw [wr_id (by omega) (by omega), wr_id (by omega) (by omega)]; omega
    · change limI (wr (s.lo - t.hi)) = _; rw [h3, g4]; rfl
    · change limI (wr (s.hi - t.lo)) = _; rw [h4, g3]; rfl
  · exact mul_rel hp (hq (by decide))
  · obtain ⟨h0, h1, h2, h3, h4⟩ := Rel.num hp
    unfold BI at h1 h2
    have e1 : wr (0 - p.1) = - p.1 := by rw [wr_id (by omega) (by omega)]; omega
    have e2 : wr (0 - p.2) = - p.2 := by rw [wr_id (by omega) (by omega)]; omega
    refine .mknum ?_ ?_ ?_ ?_ ?_
    · change wr (0 - p.2) ≤ wr (0 - p.1); omega
    · change BI (wr (0 - p.2)); unfold BI; omega
    · change BI (wr (0 - p.1)); unfold BI; omega
    · change wr (0 - s.hi) = _; rw [h4]; rfl
    · change wr (0 - s.lo) = _; rw [h3]; rfl
  · obtain ⟨h0, h1, h2, h3, h4⟩ := Rel.bit hp
    have hq := hq (by decide)
    have hr := hr rfl
    obtain ⟨a, b⟩ := p
    simp only at h0 h1 h2 h3 h4
    change Rel 0 (if (a, b) = (1, 1) then q else if (a, b) = (0, 0) then r else hullI q r) (choiceR s t u)
    unfold choiceR
    rcases h1 with rfl | rfl <;> rcases h2 with rfl | rfl
    · simp [h3, h4]; exact hr
    · simp [h3, h4]
      obtain ⟨a0, a1, a2, a3, a4⟩ := Rel.num hq
      obtain ⟨b0, b1, b2, b3, b4⟩ := Rel.num hr
      refine .mknum ?_ (min_B a1 b1) (max_B a2 b2) ?_ ?_
      · simp only [hullI]; unfold minI maxI; split <;> split <;> omega
      · simp only [numR, a3, b3]; rfl
      · simp only [numR, a4, b4]; rfl
    · omega
    · simp [h3, h4]; exact hq
  · exact eq_rel hp (hq (by decide))
  · exact turn_rel (eq_rel hp (hq (by decide)))
  · exact less_rel hp (hq (by decide))
  · exact turn_rel (less_rel (hq (by decide)) hp)
  · exact less_rel (hq (by decide)) hp
  · exact turn_rel (less_rel hp (hq (by decide)))
  · obtain ⟨h0, h1, h2, h3, h4⟩ := Rel.bit hp
    obtain ⟨g0, g1, g2, g3, g4⟩ := Rel.bit (hq (by decide))
    obtain ⟨a, b⟩ := p
    obtain ⟨c, d⟩ := q
    simp only at h0 h1 h2 h3 h4 g0 g1 g2 g3 g4
    change Rel 1 (minI a c, minI b d) ⟨0, 0, s.yes && t.yes, s.no || t.no⟩
    rw [h3, h4, g3, g4]
    rcases h1 with rfl | rfl <;> rcases h2 with rfl | rfl <;> rcases g1 with rfl | rfl <;> rcases g2 with rfl | rfl <;> first | omega | exact .mkbit (by decide) (by simp [Bit, minI]) (by simp [Bit, minI]) (by decide) (by decide)
  · obtain ⟨h0, h1, h2, h3, h4⟩ := Rel.bit hp
    obtain ⟨g0, g1, g2, g3, g4⟩ := Rel.bit (hq (by decide))
    obtain ⟨a, b⟩ := p
    obtain ⟨c, d⟩ := q
    simp only at h0 h1 h2 h3 h4 g0 g1 g2 g3 g4
    change Rel 1 (maxI a c, maxI b d) ⟨0, 0, s.yes || t.yes, s.no && t.no⟩
    rw [h3, h4, g3, g4]
    rcases h1 with rfl | rfl <;> rcases h2 with rfl | rfl <;> rcases g1 with rfl | rfl <;> rcases g2 with rfl | rfl <;> first | omega | exact .mkbit (by decide) (by simp [Bit, maxI]) (by simp [Bit, maxI]) (by decide) (by decide)
  · exact turn_rel hp
end Go.Proofs.YtcjapamldllleaaDoor
namespace Go.Proofs.YtcjapamldllleaaDoor
open Go.Ab
set_option maxHeartbeats 4000000
set_option maxHeartbeats 4000000
set_option maxRecDepth 100000
set_option linter.unusedSimpArgs false
set_option linter.unusedVariables false
def ivV (p : Iv) : V := .agg [.int .i64 p.1, .int .i64 p.2]
theorem u67 : env.P.underlying 67 = some (.array 2 3) := by kernel_rfl
theorem tyi : env.P.underlying 67 = some (.array 2 3) ∧ sz env 67 = some 2 ∧ zeroV env 67 = some (.agg [.int .i64 0, .int .i64 0]) ∧ (∀ h p, aload env h 67 p = (loadCellsV h 2 p).map .agg) := by
  have g67 : aggT env 67 = some true := by kernel_rfl
  have s67 : sz env 67 = some 2 := by kernel_rfl
  exact ⟨u67, s67, by kernel_rfl, fun h p => by unfold aload; rw [g67, s67]; rfl⟩
theorem ix0 (b : Nat) : idxO (some (.array 2 3)) (sz env) (some (.ptr b 0)) (some (.int .i64 0)) = some (.ptr b 0) := by simp [idxO, sz3, vIndexArr]
theorem ix1 (b : Nat) : idxO (some (.array 2 3)) (sz env) (some (.ptr b 0)) (some (.int .i64 1)) = some (.ptr b 1) := by simp [idxO, sz3, vIndexArr]
theorem build67 (a b : Int) : buildO env 67 [(0, .int .i64 a), (1, .int .i64 b)] = some (.agg [.int .i64 a, .int .i64 b]) := by kernel_rfl
theorem eq67 (c : Bool) (a b x y : Int) : binO env 67 c .eql (some (.agg [.int .i64 a, .int .i64 b])) (some (.agg [.int .i64 x, .int .i64 y])) = some (.bool (decide ((a, b) = (x, y)))) := by
  have h : binO env 67 c .eql (some (.agg [.int .i64 a, .int .i64 b])) (some (.agg [.int .i64 x, .int .i64 y])) = some (.bool (decide (a = x) && decide (b = y))) := by
    have g : env.P.eqGuardType env.P.depth 67 = false := by kernel_rfl
    have ga : aggT env 3 = some false := g3
    have e : eqT env 8 67 (.agg [.int .i64 a, .int .i64 b]) (.agg [.int .i64 x, .int .i64 y]) = some (decide (a = x) && decide (b = y)) := by
      have h3 : ∀ m n : Int, eqT env 7 3 (.int .i64 m) (.int .i64 n) = some (m == n) := fun m n => by simp [eqT, u3]
      unfold eqT
      rw [u67]
      simp [sz3, ga, List.range, List.range.loop, eqElems, vPart, h3]
      by_cases h1 : a = x <;> by_cases h2 : b = y <;> simp [h1, h2]
    simp only [binO, Option.bind_some, vBinE, vBinA, g, e]
    rfl
  rw [h]
  congr 2
  rw [Bool.eq_iff_iff]
  simp
theorem V1i {α : Type} {o : Option α} {v : α} {k : α → Prop} (h : o = some v) (g : k v) : V1 o k := ⟨v, h, g⟩
theorem sc_build' (E : Env) (t : TypeId) (ps : Array (Nat × Operand)) : scOp E (.build t ps) = false := rfl
theorem rd_build' (t : TypeId) (ps : Array (Nat × Operand)) : readsOp (.build t ps) = false := rfl
theorem at132 : env.P.funcs[132]? = some Tryd.f132 := by kernel_rfl
theorem at133 : env.P.funcs[133]? = some Tryd.f133 := by kernel_rfl
theorem at134 : env.P.funcs[134]? = some Tryd.f134 := by kernel_rfl
theorem at135 : env.P.funcs[135]? = some Tryd.f135 := by kernel_rfl
theorem at136 : env.P.funcs[136]? = some Tryd.f136 := by kernel_rfl
theorem at137 : env.P.funcs[137]? = some Tryd.f137 := by kernel_rfl
theorem at138 : env.P.funcs[138]? = some Tryd.f138 := by kernel_rfl
theorem not_call (p : Iv) (σ : S) : callFn env (ev env) 132 [ivV p] σ = some (ivV (notI p), σ) := by
  refine callFn_pure rfl rfl rfl at132 rfl (by simp [Tryd.f132]) (by simp [Tryd.f132]) (G_start ?_) σ
  simp -implicitDefEqProofs only [Tryd.f132,Wa,Wb,Wc,Wd,We,Wf,Wg,Wh,Wi,Wj,Wk,Wl,Wm,Wn,Zo,Zp,evalT,Nat.reduceLT,Nat.reduceEqDiff,if_true,if_false,reduceIte,Ys,ofVal,ofCell,argT,resT,setT,Y0,Int.reduceEq,Int.reduceLT,Int.reduceLE,Int.reduceNeg,mb,Nat.reduceBEq,tys,stb,Va,storeList,Nat.reduceAdd,Nat.reduceLeDiff,tysn,tyi,empty_mk,ivV,ix0,ix1,build67]
  exact ⟨rfl, V1i rfl rfl⟩
theorem hull_call (p q : Iv) (σ : S) : callFn env (ev env) 136 [ivV p, ivV q] σ = some (ivV (hullI p q), σ) := by
  refine callFn_pure rfl rfl rfl at136 rfl (by simp [Tryd.f136]) (by simp [Tryd.f136]) (G_start ?_) σ
  simp -implicitDefEqProofs only [Tryd.f136,Wa,Wb,Wc,Wd,We,Wf,Wg,Wh,Wi,Wj,Wk,Wl,Wm,Wn,Zo,Zp,evalT,Nat.reduceLT,Nat.reduceEqDiff,if_true,if_false,reduceIte,Ys,ofVal,ofCell,argT,resT,setT,Y0,Int.reduceEq,Int.reduceLT,Int.reduceLE,Int.reduceNeg,mb,Nat.reduceBEq,tys,stb,Va,storeList,Nat.reduceAdd,Nat.reduceLeDiff,tysn,tyi,empty_mk,ivV,ix0,ix1,build67]
  exact ⟨rfl, V1i rfl rfl⟩
theorem numberI_call (cv : V) (hc : cv.closed = true) (n : Int) (σ : S) : callFn env (ev env) 135 [cv, .int .i64 n] σ = some (ivV (n, n), σ) := by
  refine callFn_pure rfl rfl (by simp [V.closed, V.closed.closedL, hc]) at135 rfl (by simp [Tryd.f135]) (by simp [Tryd.f135]) (G_start ?_) σ
  simp -implicitDefEqProofs only [Tryd.f135,Wa,Wb,Wc,Wd,We,Wf,Wg,Wh,Wi,Wj,Wk,Wl,Wm,Wn,Zo,Zp,evalT,Nat.reduceLT,Nat.reduceEqDiff,if_true,if_false,reduceIte,Ys,ofVal,ofCell,argT,resT,setT,Y0,Int.reduceEq,Int.reduceLT,Int.reduceLE,Int.reduceNeg,mb,Nat.reduceBEq,tys,stb,Va,storeList,Nat.reduceAdd,Nat.reduceLeDiff,tysn,tyi,empty_mk,ivV,ix0,ix1,build67]
  exact ⟨rfl, V1i rfl rfl⟩
theorem u71 : env.P.underlying 71 = some (.slice 46) := by kernel_rfl
theorem columnI_call (cv : V) (cs : List Col) (hc : IsC cv cs) (ok : OkC cs) (i : Nat) (hi : i < cs.length) (σ : S) : callFn env (ev env) 134 [cv, .int .i64 i] σ = some (ivV ((cs.getD i Col.none).lo, (cs.getD i Col.none).hi), σ) := by
  refine callFn_pure rfl rfl (by simp [V.closed, V.closed.closedL, closed_C hc ok]) at134 rfl (by simp [Tryd.f134]) (by simp [Tryd.f134]) (G_start ?_) σ
  have hx := idx_C hc hi
  simp -implicitDefEqProofs only [Tryd.f134,Wa,Wb,Wc,Wd,We,Wf,Wg,Wh,Wi,Wj,Wk,Wl,Wm,Wn,Zo,Zp,evalT,Nat.reduceLT,Nat.reduceEqDiff,if_true,if_false,reduceIte,Ys,ofVal,ofCell,argT,resT,setT,Y0,Int.reduceEq,Int.reduceLT,Int.reduceLE,Int.reduceNeg,mb,Nat.reduceBEq,tys,stb,Va,storeList,Nat.reduceAdd,Nat.reduceLeDiff,tysn,tys2,u71,tyi,empty_mk,ivV,ix0,ix1,build67,hx,load_hd]
  exact ⟨by kernel_rfl, rfl, V1i rfl rfl⟩
theorem lessI_call (p q : Iv) (σ : S) : callFn env (ev env) 138 [ivV p, ivV q] σ = some (ivV (lessI p q), σ) := by
  refine callFn_pure rfl rfl rfl at138 rfl (by simp [Tryd.f138]) (by simp [Tryd.f138]) (G_start ?_) σ
  obtain ⟨a, b⟩ := p
  obtain ⟨x, y⟩ := q
  have hB := bit_call
  simp -implicitDefEqProofs only [Tryd.f138,Wa,Wb,Wc,Wd,We,Wf,Wg,Wh,Wi,Wj,Wk,Wl,Wm,Wn,Zo,Zp,evalT,Nat.reduceLT,Nat.reduceEqDiff,if_true,if_false,reduceIte,Ys,ofVal,ofCell,argT,resT,setT,Y0,Int.reduceEq,Int.reduceLT,Int.reduceLE,Int.reduceNeg,mb,Nat.reduceBEq,tys,stb,Va,storeList,Nat.reduceAdd,Nat.reduceLeDiff,tysn,tyi,empty_mk,ivV,ix0,ix1,build67]
  refine G_stab rfl (fun s => s.heap[0]? = some (.cells [.int .i64 a, .int .i64 b] 67) ∧ s.heap[1]? = some (.cells [.int .i64 x, .int .i64 y] 67)) ⟨rfl, rfl⟩ (by kernel_rfl) ?_
  simp -implicitDefEqProofs only [Wa,Wb,Wc,Wd,We,Wf,Wg,Wh,Wi,Wj,Wk,Wl,Wm,Wn,Zo,Zp,evalT,Nat.reduceLT,Nat.reduceEqDiff,if_true,if_false,reduceIte,Ys,ofVal,ofCell,argT,resT,setT,Y0,Int.reduceEq,Int.reduceLT,Int.reduceLE,Int.reduceNeg,mb,Nat.reduceBEq,tys,stb,Va,storeList,Nat.reduceAdd,Nat.reduceLeDiff,tysn,tyi,empty_mk,ivV,ix0,ix1,build67,hB,sc_load,sc_move,sc_indexAddr,sc_fieldAddr,rd_fieldAddr,sc_build',rd_build',sc_binOp,rd_binOp,sc_pick,rd_pick,sc_assign,rd_assign,sc_store,rd_store,rd_load,rd_move,rd_indexAddr,rd_call,aread_load]
  refine ⟨fun s h => ?_, fun s h => ?_, fun _ => trivial, fun s h => ?_, fun s h => ?_, fun _ => trivial, rfl, V1i rfl rfl⟩
  all_goals first | (rw [h.1]; done) | (rw [h.2]; done) | (rw [h.1]; rfl) | (rw [h.2]; rfl)
end Go.Proofs.YtcjapamldllleaaDoor
namespace Go.Proofs.YtcjapamldllleaaDoor
open Go.Ab
set_option maxHeartbeats 4000000
set_option maxHeartbeats 4000000
set_option maxRecDepth 100000
set_option linter.unusedSimpArgs false
set_option linter.unusedVariables false
theorem equalI_call (p q : Iv) (σ : S) : callFn env (ev env) 137 [ivV p, ivV q] σ = some (ivV (eqI p q), σ) := by
  refine callFn_pure rfl rfl rfl at137 rfl (by simp [Tryd.f137]) (by simp [Tryd.f137]) (G_start ?_) σ
  obtain ⟨a, b⟩ := p
  obtain ⟨x, y⟩ := q
  have hB := bit_call
  simp -implicitDefEqProofs only [Tryd.f137,Wa,Wb,Wc,Wd,We,Wf,Wg,Wh,Wi,Wj,Wk,Wl,Wm,Wn,Zo,Zp,evalT,Nat.reduceLT,Nat.reduceEqDiff,if_true,if_false,reduceIte,Ys,ofVal,ofCell,argT,resT,setT,Y0,Int.reduceEq,Int.reduceLT,Int.reduceLE,Int.reduceNeg,mb,Nat.reduceBEq,tys,stb,Va,storeList,Nat.reduceAdd,Nat.reduceLeDiff,tysn,tyi,empty_mk,ivV,ix0,ix1,build67]
  refine G_stabg rfl (fun s => s.heap[0]? = some (.cells [.int .i64 a, .int .i64 b] 67) ∧ s.heap[1]? = some (.cells [.int .i64 x, .int .i64 y] 67)) ⟨rfl, rfl⟩ (by kernel_rfl) ?_
  have l0 : loadCellsV [AObj.cells [V.int .i64 a, V.int .i64 b] 67, AObj.cells [V.int .i64 x, V.int .i64 y] 67, AObj.cells [V.int .i64 0, V.int .i64 0] 67] 2 (.ptr 0 0) = some [.int .i64 a, .int .i64 b] := rfl
  have l1 : loadCellsV [AObj.cells [V.int .i64 a, V.int .i64 b] 67, AObj.cells [V.int .i64 x, V.int .i64 y] 67, AObj.cells [V.int .i64 0, V.int .i64 0] 67] 2 (.ptr 1 0) = some [.int .i64 x, .int .i64 y] := rfl
  by_cases h1 : (a, b) = (x, y)
  · by_cases h2 : a = b
    · by_cases h3 : a ≤ y
      · by_cases h4 : x ≤ b
        · have d1 := eq_true h1
          have d2 := eq_true h2
          have d3 := eq_true h3
          have d4 := eq_true h4
          have he : eqI (a, b) (x, y) = (bitI true, bitI true) := by unfold eqI; rw [decide_eq_true h1, decide_eq_true h2, decide_eq_true h3, decide_eq_true h4] <;> rfl
          rw [he]
          simp -implicitDefEqProofs only [Wa,Wb,Wc,Wd,We,Wf,Wg,Wh,Wi,Wj,Wk,Wl,Wm,Wn,Zo,Zp,evalT,Nat.reduceLT,Nat.reduceEqDiff,if_true,if_false,reduceIte,Ys,ofVal,ofCell,argT,resT,setT,Y0,Int.reduceEq,Int.reduceLT,Int.reduceLE,Int.reduceNeg,mb,Nat.reduceBEq,tys,stb,Va,storeList,Nat.reduceAdd,Nat.reduceLeDiff,tysn,tyi,empty_mk,ivV,ix0,ix1,build67,eq67,hB,l0,l1,d1,d2,d3,d4,GQ_nil,GQ_op,GQ_guard,GQS_some,GQS_none,GQS_ite,GQS_nite,wpB_tup,wpB_tt,wpB_tf,wpB_ft,wpB_ff,sc_load,sc_move,sc_indexAddr,sc_fieldAddr,rd_fieldAddr,sc_build',rd_build',sc_binOp,rd_binOp,sc_pick,rd_pick,sc_assign,rd_assign,sc_store,rd_store,rd_load,rd_move,rd_indexAddr,rd_call,aread_load]
          repeat' refine And.intro ?_ ?_
          all_goals first | exact fun _ => trivial | exact fun s h => by rw [load2_ptr h.1]; rfl | exact fun s h => by rw [load2_ptr h.2]; rfl | exact fun s h => by rw [h.1]; rfl | exact fun s h => by rw [h.2]; rfl | rfl | exact V1i rfl rfl
        · have d1 := eq_true h1
          have d2 := eq_true h2
          have d3 := eq_true h3
          have d4 := eq_false h4
          have he : eqI (a, b) (x, y) = (bitI true, bitI false) := by unfold eqI; rw [decide_eq_true h1, decide_eq_true h2, decide_eq_true h3, decide_eq_false h4] <;> rfl
          rw [he]
          simp -implicitDefEqProofs only [Wa,Wb,Wc,Wd,We,Wf,Wg,Wh,Wi,Wj,Wk,Wl,Wm,Wn,Zo,Zp,evalT,Nat.reduceLT,Nat.reduceEqDiff,if_true,if_false,reduceIte,Ys,ofVal,ofCell,argT,resT,setT,Y0,Int.reduceEq,Int.reduceLT,Int.reduceLE,Int.reduceNeg,mb,Nat.reduceBEq,tys,stb,Va,storeList,Nat.reduceAdd,Nat.reduceLeDiff,tysn,tyi,empty_mk,ivV,ix0,ix1,build67,eq67,hB,l0,l1,d1,d2,d3,d4,GQ_nil,GQ_op,GQ_guard,GQS_some,GQS_none,GQS_ite,GQS_nite,wpB_tup,wpB_tt,wpB_tf,wpB_ft,wpB_ff,sc_load,sc_move,sc_indexAddr,sc_fieldAddr,rd_fieldAddr,sc_build',rd_build',sc_binOp,rd_binOp,sc_pick,rd_pick,sc_assign,rd_assign,sc_store,rd_store,rd_load,rd_move,rd_indexAddr,rd_call,aread_load]
          repeat' refine And.intro ?_ ?_
          all_goals first | exact fun _ => trivial | exact fun s h => by rw [load2_ptr h.1]; rfl | exact fun s h => by rw [load2_ptr h.2]; rfl | exact fun s h => by rw [h.1]; rfl | exact fun s h => by rw [h.2]; rfl | rfl | exact V1i rfl rfl
      · have d1 := eq_true h1
        have d2 := eq_true h2
        have d3 := eq_false h3
        have he : eqI (a, b) (x, y) = (bitI true, bitI false) := by unfold eqI; rw [decide_eq_true h1, decide_eq_true h2, decide_eq_false h3, Bool.false_and] <;> rfl
        rw [he]
        simp -implicitDefEqProofs only [Wa,Wb,Wc,Wd,We,Wf,Wg,Wh,Wi,Wj,Wk,Wl,Wm,Wn,Zo,Zp,evalT,Nat.reduceLT,Nat.reduceEqDiff,if_true,if_false,reduceIte,Ys,ofVal,ofCell,argT,resT,setT,Y0,Int.reduceEq,Int.reduceLT,Int.reduceLE,Int.reduceNeg,mb,Nat.reduceBEq,tys,stb,Va,storeList,Nat.reduceAdd,Nat.reduceLeDiff,tysn,tyi,empty_mk,ivV,ix0,ix1,build67,eq67,hB,l0,l1,d1,d2,d3,GQ_nil,GQ_op,GQ_guard,GQS_some,GQS_none,GQS_ite,GQS_nite,wpB_tup,wpB_tt,wpB_tf,wpB_ft,wpB_ff,sc_load,sc_move,sc_indexAddr,sc_fieldAddr,rd_fieldAddr,sc_build',rd_build',sc_binOp,rd_binOp,sc_pick,rd_pick,sc_assign,rd_assign,sc_store,rd_store,rd_load,rd_move,rd_indexAddr,rd_call,aread_load]
        repeat' refine And.intro ?_ ?_
        all_goals first | exact fun _ => trivial | exact fun s h => by rw [load2_ptr h.1]; rfl | exact fun s h => by rw [load2_ptr h.2]; rfl | exact fun s h => by rw [h.1]; rfl | exact fun s h => by rw [h.2]; rfl | rfl | exact V1i rfl rfl
    · by_cases h3 : a ≤ y
      · by_cases h4 : x ≤ b
        · have d1 := eq_true h1
          have d2 := eq_false h2
          have d3 := eq_true h3
          have d4 := eq_true h4
          have he : eqI (a, b) (x, y) = (bitI false, bitI true) := by unfold eqI; rw [decide_eq_true h1, decide_eq_false h2, decide_eq_true h3, decide_eq_true h4] <;> rfl
          rw [he]
          simp -implicitDefEqProofs only [Wa,Wb,Wc,Wd,We,Wf,Wg,Wh,Wi,Wj,Wk,Wl,Wm,Wn,Zo,Zp,evalT,Nat.reduceLT,Nat.reduceEqDiff,if_true,if_false,reduceIte,Ys,ofVal,ofCell,argT,resT,setT,Y0,Int.reduceEq,Int.reduceLT,Int.reduceLE,Int.reduceNeg,mb,Nat.reduceBEq,tys,stb,Va,storeList,Nat.reduceAdd,Nat.reduceLeDiff,tysn,tyi,empty_mk,ivV,ix0,ix1,build67,eq67,hB,l0,l1,d1,d2,d3,d4,GQ_nil,GQ_op,GQ_guard,GQS_some,GQS_none,GQS_ite,GQS_nite,wpB_tup,wpB_tt,wpB_tf,wpB_ft,wpB_ff,sc_load,sc_move,sc_indexAddr,sc_fieldAddr,rd_fieldAddr,sc_build',rd_build',sc_binOp,rd_binOp,sc_pick,rd_pick,sc_assign,rd_assign,sc_store,rd_store,rd_load,rd_move,rd_indexAddr,rd_call,aread_load]
          repeat' refine And.intro ?_ ?_
          all_goals first | exact fun _ => trivial | exact fun s h => by rw [load2_ptr h.1]; rfl | exact fun s h => by rw [load2_ptr h.2]; rfl | exact fun s h => by rw [h.1]; rfl | exact fun s h => by rw [h.2]; rfl | rfl | exact V1i rfl rfl
        · have d1 := eq_true h1
          have d2 := eq_false h2
          have d3 := eq_true h3
          have d4 := eq_false h4
          have he : eqI (a, b) (x, y) = (bitI false, bitI false) := by unfold eqI; rw [decide_eq_true h1, decide_eq_false h2, decide_eq_true h3, decide_eq_false h4] <;> rfl
          rw [he]
          simp -implicitDefEqProofs only [Wa,Wb,Wc,Wd,We,Wf,Wg,Wh,Wi,Wj,Wk,Wl,Wm,Wn,Zo,Zp,evalT,Nat.reduceLT,Nat.reduceEqDiff,if_true,if_false,reduceIte,Ys,ofVal,ofCell,argT,resT,setT,Y0,Int.reduceEq,Int.reduceLT,Int.reduceLE,Int.reduceNeg,mb,Nat.reduceBEq,tys,stb,Va,storeList,Nat.reduceAdd,Nat.reduceLeDiff,tysn,tyi,empty_mk,ivV,ix0,ix1,build67,eq67,hB,l0,l1,d1,d2,d3,d4,GQ_nil,GQ_op,GQ_guard,GQS_some,GQS_none,GQS_ite,GQS_nite,wpB_tup,wpB_tt,wpB_tf,wpB_ft,wpB_ff,sc_load,sc_move,sc_indexAddr,sc_fieldAddr,rd_fieldAddr,sc_build',rd_build',sc_binOp,rd_binOp,sc_pick,rd_pick,sc_assign,rd_assign,sc_store,rd_store,rd_load,rd_move,rd_indexAddr,rd_call,aread_load]
          repeat' refine And.intro ?_ ?_
          all_goals first | exact fun _ => trivial | exact fun s h => by rw [load2_ptr h.1]; rfl | exact fun s h => by rw [load2_ptr h.2]; rfl | exact fun s h => by rw [h.1]; rfl | exact fun s h => by rw [h.2]; rfl | rfl | exact V1i rfl rfl
      · have d1 := eq_true h1
        have d2 := eq_false h2
        have d3 := eq_false h3
        have he : eqI (a, b) (x, y) = (bitI false, bitI false) := by unfold eqI; rw [decide_eq_true h1, decide_eq_false h2, decide_eq_false h3, Bool.false_and] <;> rfl
        rw [he]
        simp -implicitDefEqProofs only [Wa,Wb,Wc,Wd,We,Wf,Wg,Wh,Wi,Wj,Wk,Wl,Wm,Wn,Zo,Zp,evalT,Nat.reduceLT,Nat.reduceEqDiff,if_true,if_false,reduceIte,Ys,ofVal,ofCell,argT,resT,setT,Y0,Int.reduceEq,Int.reduceLT,Int.reduceLE,Int.reduceNeg,mb,Nat.reduceBEq,tys,stb,Va,storeList,Nat.reduceAdd,Nat.reduceLeDiff,tysn,tyi,empty_mk,ivV,ix0,ix1,build67,eq67,hB,l0,l1,d1,d2,d3,GQ_nil,GQ_op,GQ_guard,GQS_some,GQS_none,GQS_ite,GQS_nite,wpB_tup,wpB_tt,wpB_tf,wpB_ft,wpB_ff,sc_load,sc_move,sc_indexAddr,sc_fieldAddr,rd_fieldAddr,sc_build',rd_build',sc_binOp,rd_binOp,sc_pick,rd_pick,sc_assign,rd_assign,sc_store,rd_store,rd_load,rd_move,rd_indexAddr,rd_call,aread_load]
        repeat' refine And.intro ?_ ?_
        all_goals first | exact fun _ => trivial | exact fun s h => by rw [load2_ptr h.1]; rfl | exact fun s h => by rw [load2_ptr h.2]; rfl | exact fun s h => by rw [h.1]; rfl | exact fun s h => by rw [h.2]; rfl | rfl | exact V1i rfl rfl
  · by_cases h3 : a ≤ y
    · by_cases h4 : x ≤ b
      · have d1 := eq_false h1
        have d3 := eq_true h3
        have d4 := eq_true h4
        have he : eqI (a, b) (x, y) = (bitI false, bitI true) := by unfold eqI; rw [decide_eq_false h1, Bool.false_and, decide_eq_true h3, decide_eq_true h4] <;> rfl
        rw [he]
        simp -implicitDefEqProofs only [Wa,Wb,Wc,Wd,We,Wf,Wg,Wh,Wi,Wj,Wk,Wl,Wm,Wn,Zo,Zp,evalT,Nat.reduceLT,Nat.reduceEqDiff,if_true,if_false,reduceIte,Ys,ofVal,ofCell,argT,resT,setT,Y0,Int.reduceEq,Int.reduceLT,Int.reduceLE,Int.reduceNeg,mb,Nat.reduceBEq,tys,stb,Va,storeList,Nat.reduceAdd,Nat.reduceLeDiff,tysn,tyi,empty_mk,ivV,ix0,ix1,build67,eq67,hB,l0,l1,d1,d3,d4,GQ_nil,GQ_op,GQ_guard,GQS_some,GQS_none,GQS_ite,GQS_nite,wpB_tup,wpB_tt,wpB_tf,wpB_ft,wpB_ff,sc_load,sc_move,sc_indexAddr,sc_fieldAddr,rd_fieldAddr,sc_build',rd_build',sc_binOp,rd_binOp,sc_pick,rd_pick,sc_assign,rd_assign,sc_store,rd_store,rd_load,rd_move,rd_indexAddr,rd_call,aread_load]
        repeat' refine And.intro ?_ ?_
        all_goals first | exact fun _ => trivial | exact fun s h => by rw [load2_ptr h.1]; rfl | exact fun s h => by rw [load2_ptr h.2]; rfl | exact fun s h => by rw [h.1]; rfl | exact fun s h => by rw [h.2]; rfl | rfl | exact V1i rfl rfl
      · have d1 := eq_false h1
        have d3 := eq_true h3
        have d4 := eq_false h4
        have he : eqI (a, b) (x, y) = (bitI false, bitI false) := by unfold eqI; rw [decide_eq_false h1, Bool.false_and, decide_eq_true h3, decide_eq_false h4] <;> rfl
        rw [he]
        simp -implicitDefEqProofs only [Wa,Wb,Wc,Wd,We,Wf,Wg,Wh,Wi,Wj,Wk,Wl,Wm,Wn,Zo,Zp,evalT,Nat.reduceLT,Nat.reduceEqDiff,if_true,if_false,reduceIte,Ys,ofVal,ofCell,argT,resT,setT,Y0,Int.reduceEq,Int.reduceLT,Int.reduceLE,Int.reduceNeg,mb,Nat.reduceBEq,tys,stb,Va,storeList,Nat.reduceAdd,Nat.reduceLeDiff,tysn,tyi,empty_mk,ivV,ix0,ix1,build67,eq67,hB,l0,l1,d1,d3,d4,GQ_nil,GQ_op,GQ_guard,GQS_some,GQS_none,GQS_ite,GQS_nite,wpB_tup,wpB_tt,wpB_tf,wpB_ft,wpB_ff,sc_load,sc_move,sc_indexAddr,sc_fieldAddr,rd_fieldAddr,sc_build',rd_build',sc_binOp,rd_binOp,sc_pick,rd_pick,sc_assign,rd_assign,sc_store,rd_store,rd_load,rd_move,rd_indexAddr,rd_call,aread_load]
        repeat' refine And.intro ?_ ?_
        all_goals first | exact fun _ => trivial | exact fun s h => by rw [load2_ptr h.1]; rfl | exact fun s h => by rw [load2_ptr h.2]; rfl | exact fun s h => by rw [h.1]; rfl | exact fun s h => by rw [h.2]; rfl | rfl | exact V1i rfl rfl
    · have d1 := eq_false h1
      have d3 := eq_false h3
      have he : eqI (a, b) (x, y) = (bitI false, bitI false) := by unfold eqI; rw [decide_eq_false h1, Bool.false_and, decide_eq_false h3, Bool.false_and] <;> rfl
      rw [he]
      simp -implicitDefEqProofs only [Wa,Wb,Wc,Wd,We,Wf,Wg,Wh,Wi,Wj,Wk,Wl,Wm,Wn,Zo,Zp,evalT,Nat.reduceLT,Nat.reduceEqDiff,if_true,if_false,reduceIte,Ys,ofVal,ofCell,argT,resT,setT,Y0,Int.reduceEq,Int.reduceLT,Int.reduceLE,Int.reduceNeg,mb,Nat.reduceBEq,tys,stb,Va,storeList,Nat.reduceAdd,Nat.reduceLeDiff,tysn,tyi,empty_mk,ivV,ix0,ix1,build67,eq67,hB,l0,l1,d1,d3,GQ_nil,GQ_op,GQ_guard,GQS_some,GQS_none,GQS_ite,GQS_nite,wpB_tup,wpB_tt,wpB_tf,wpB_ft,wpB_ff,sc_load,sc_move,sc_indexAddr,sc_fieldAddr,rd_fieldAddr,sc_build',rd_build',sc_binOp,rd_binOp,sc_pick,rd_pick,sc_assign,rd_assign,sc_store,rd_store,rd_load,rd_move,rd_indexAddr,rd_call,aread_load]
      repeat' refine And.intro ?_ ?_
      all_goals first | exact fun _ => trivial | exact fun s h => by rw [load2_ptr h.1]; rfl | exact fun s h => by rw [load2_ptr h.2]; rfl | exact fun s h => by rw [h.1]; rfl | exact fun s h => by rw [h.2]; rfl | rfl | exact V1i rfl rfl
end Go.Proofs.YtcjapamldllleaaDoor
namespace Go.Proofs.YtcjapamldllleaaDoor
open Go.Ab
set_option maxHeartbeats 4000000
set_option maxHeartbeats 4000000
set_option maxRecDepth 100000
set_option linter.unusedSimpArgs false
set_option linter.unusedVariables false
theorem u92 : env.P.underlying 92 = some (.slice 67) := by kernel_rfl
theorem tyj : env.P.underlying 92 = some (.slice 67) := u92
def ivs (l : List Iv) : List V := (l.map fun p => [V.int .i64 p.1, V.int .i64 p.2]).flatten
theorem ivs_cons (p : Iv) (l : List Iv) : ivs (p :: l) = .int .i64 p.1 :: .int .i64 p.2 :: ivs l := rfl
theorem closed_ivs : ∀ l : List Iv, V.closed.closedL (ivs l) = true
  | [] => rfl
  | c :: cs => by rw [ivs_cons]; simp only [V.closed.closedL, V.closed, closed_ivs cs, Bool.and_self]
theorem load2_rptr (h : List AObj) (a b : V) (r : List V) : loadCellsV h 2 (.rptr (a :: b :: r)) = some [a, b] := by simp [loadCellsV]
def rowI (l : List Iv) : V := .row (ivs l) l.length .unk
theorem bu67 : buildO env 67 [] = some (.agg [.int .i64 0, .int .i64 0]) := by kernel_rfl
section
variable (cv : V) (hc : cv.closed = true) (σ : S)
include hc
theorem applyI7_call (p : Iv) : callFn env (ev env) 133 [cv, .int .i64 7, rowI [p]] σ = some (ivV (opI 7 p (0, 0) (0, 0)), σ) := by
  refine callFn_pure rfl rfl (by simp [rowI, V.closed, V.closed.closedL, hc, closed_ivs]) at133 rfl (by simp [Tryd.f133]) (by simp [Tryd.f133]) (G_start ?_) σ
  obtain ⟨a, b⟩ := p
  have i0 : vIndexAddr 2 (rowI [(a, b)]) (.int .i64 0) = some (.rptr [.int .i64 a, .int .i64 b]) := rfl
  simp -implicitDefEqProofs only [Tryd.f133,Wa,Wb,Wc,Wd,We,Wf,Wg,Wh,Wi,Wj,Wk,Wl,Wm,Wn,Zo,Zp,evalT,Nat.reduceLT,Nat.reduceEqDiff,if_true,if_false,reduceIte,Ys,ofVal,ofCell,argT,resT,setT,Y0,Int.reduceEq,Int.reduceLT,Int.reduceLE,Int.reduceNeg,mb,Nat.reduceBEq,tys,stb,Va,storeList,Nat.reduceAdd,Nat.reduceLeDiff,tysn,tyi,tyj,ix0,ix1,build67,load2_rptr,bu67,heap_end,set_end,YW,isCell_int,empty_mk,-Ys,i0]
  exact V1i rfl rfl
theorem applyI17_call (p : Iv) : callFn env (ev env) 133 [cv, .int .i64 17, rowI [p]] σ = some (ivV (opI 17 p (0, 0) (0, 0)), σ) := by
  refine callFn_pure rfl rfl (by simp [rowI, V.closed, V.closed.closedL, hc, closed_ivs]) at133 rfl (by simp [Tryd.f133]) (by simp [Tryd.f133]) (G_start ?_) σ
  obtain ⟨a, b⟩ := p
  have hN : ∀ σ, callFn env (ev env) 132 [.agg [.int .i64 a, .int .i64 b]] σ = some (.agg [.int .i64 (notI (a, b)).1, .int .i64 (notI (a, b)).2], σ) := not_call (a, b)
  have l1 : loadCellsV [AObj.cells [V.int .i64 0, V.int .i64 0] 67, AObj.cells [V.int .i64 a, V.int .i64 b] 67] 2 (.ptr 1 0) = some [.int .i64 a, .int .i64 b] := rfl
  have i0 : vIndexAddr 2 (rowI [(a, b)]) (.int .i64 0) = some (.rptr [.int .i64 a, .int .i64 b]) := rfl
  simp -implicitDefEqProofs only [Tryd.f133,Wa,Wb,Wc,Wd,We,Wf,Wg,Wh,Wi,Wj,Wk,Wl,Wm,Wn,Zo,Zp,evalT,Nat.reduceLT,Nat.reduceEqDiff,if_true,if_false,reduceIte,Ys,ofVal,ofCell,argT,resT,setT,Y0,Int.reduceEq,Int.reduceLT,Int.reduceLE,Int.reduceNeg,mb,Nat.reduceBEq,tys,stb,Va,storeList,Nat.reduceAdd,Nat.reduceLeDiff,tysn,tyi,tyj,ix0,ix1,build67,load2_rptr,bu67,heap_end,set_end,YW,isCell_int,empty_mk,-Ys,i0,hN,l1]
  exact V1i rfl rfl
theorem applyI4_call (p q : Iv) : callFn env (ev env) 133 [cv, .int .i64 4, rowI [p, q]] σ = some (ivV (opI 4 p q (0, 0)), σ) := by
  refine callFn_pure rfl rfl (by simp [rowI, V.closed, V.closed.closedL, hc, closed_ivs]) at133 rfl (by simp [Tryd.f133]) (by simp [Tryd.f133]) (G_start ?_) σ
  obtain ⟨a, b⟩ := p
  obtain ⟨x, y⟩ := q
  have i0 : vIndexAddr 2 (rowI [(a, b), (x, y)]) (.int .i64 0) = some (.rptr [.int .i64 a, .int .i64 b, .int .i64 x, .int .i64 y]) := rfl
  have i1 : vIndexAddr 2 (rowI [(a, b), (x, y)]) (.int .i64 1) = some (.rptr [.int .i64 x, .int .i64 y]) := rfl
  have hL := limit_call
  simp -implicitDefEqProofs only [Tryd.f133,Wa,Wb,Wc,Wd,We,Wf,Wg,Wh,Wi,Wj,Wk,Wl,Wm,Wn,Zo,Zp,evalT,Nat.reduceLT,Nat.reduceEqDiff,if_true,if_false,reduceIte,Ys,ofVal,ofCell,argT,resT,setT,Y0,Int.reduceEq,Int.reduceLT,Int.reduceLE,Int.reduceNeg,mb,Nat.reduceBEq,tys,stb,Va,storeList,Nat.reduceAdd,Nat.reduceLeDiff,tysn,tyi,tyj,ix0,ix1,build67,load2_rptr,bu67,heap_end,set_end,YW,isCell_int,empty_mk,-Ys,i0,i1,hL]
  refine G_stab rfl (fun s => s.heap[1]? = some (.cells [.int .i64 a, .int .i64 b] 67) ∧ s.heap[2]? = some (.cells [.int .i64 x, .int .i64 y] 67)) ⟨rfl, rfl⟩ (by kernel_rfl) ?_
  simp -implicitDefEqProofs only [Wa,Wb,Wc,Wd,We,Wf,Wg,Wh,Wi,Wj,Wk,Wl,Wm,Wn,Zo,Zp,evalT,Nat.reduceLT,Nat.reduceEqDiff,if_true,if_false,reduceIte,Ys,ofVal,ofCell,argT,resT,setT,Y0,Int.reduceEq,Int.reduceLT,Int.reduceLE,Int.reduceNeg,mb,Nat.reduceBEq,tys,stb,Va,storeList,Nat.reduceAdd,Nat.reduceLeDiff,tysn,tyi,tyj,ix0,ix1,build67,load2_rptr,bu67,heap_end,set_end,YW,isCell_int,empty_mk,-Ys,hL,sc_load,sc_move,sc_indexAddr,sc_fieldAddr,rd_fieldAddr,sc_build',rd_build',sc_binOp,rd_binOp,sc_pick,rd_pick,sc_assign,rd_assign,sc_store,rd_store,rd_load,rd_move,rd_indexAddr,rd_call,aread_load]
  repeat' refine And.intro ?_ ?_
  all_goals first | exact fun _ => trivial | exact fun s h => by rw [h.1]; rfl | exact fun s h => by rw [h.2]; rfl | rfl | exact V1i rfl rfl | exact fun _ => rfl
theorem applyI5_call (p q : Iv) : callFn env (ev env) 133 [cv, .int .i64 5, rowI [p, q]] σ = some (ivV (opI 5 p q (0, 0)), σ) := by
  refine callFn_pure rfl rfl (by simp [rowI, V.closed, V.closed.closedL, hc, closed_ivs]) at133 rfl (by simp [Tryd.f133]) (by simp [Tryd.f133]) (G_start ?_) σ
  obtain ⟨a, b⟩ := p
  obtain ⟨x, y⟩ := q
  have i0 : vIndexAddr 2 (rowI [(a, b), (x, y)]) (.int .i64 0) = some (.rptr [.int .i64 a, .int .i64 b, .int .i64 x, .int .i64 y]) := rfl
  have i1 : vIndexAddr 2 (rowI [(a, b), (x, y)]) (.int .i64 1) = some (.rptr [.int .i64 x, .int .i64 y]) := rfl
  have hL := limit_call
  simp -implicitDefEqProofs only [Tryd.f133,Wa,Wb,Wc,Wd,We,Wf,Wg,Wh,Wi,Wj,Wk,Wl,Wm,Wn,Zo,Zp,evalT,Nat.reduceLT,Nat.reduceEqDiff,if_true,if_false,reduceIte,Ys,ofVal,ofCell,argT,resT,setT,Y0,Int.reduceEq,Int.reduceLT,Int.reduceLE,Int.reduceNeg,mb,Nat.reduceBEq,tys,stb,Va,storeList,Nat.reduceAdd,Nat.reduceLeDiff,tysn,tyi,tyj,ix0,ix1,build67,load2_rptr,bu67,heap_end,set_end,YW,isCell_int,empty_mk,-Ys,i0,i1,hL]
  refine G_stab rfl (fun s => s.heap[1]? = some (.cells [.int .i64 a, .int .i64 b] 67) ∧ s.heap[2]? = some (.cells [.int .i64 x, .int .i64 y] 67)) ⟨rfl, rfl⟩ (by kernel_rfl) ?_
  simp -implicitDefEqProofs only [Wa,Wb,Wc,Wd,We,Wf,Wg,Wh,Wi,Wj,Wk,Wl,Wm,Wn,Zo,Zp,evalT,Nat.reduceLT,Nat.reduceEqDiff,if_true,if_false,reduceIte,Ys,ofVal,ofCell,argT,resT,setT,Y0,Int.reduceEq,Int.reduceLT,Int.reduceLE,Int.reduceNeg,mb,Nat.reduceBEq,tys,stb,Va,storeList,Nat.reduceAdd,Nat.reduceLeDiff,tysn,tyi,tyj,ix0,ix1,build67,load2_rptr,bu67,heap_end,set_end,YW,isCell_int,empty_mk,-Ys,hL,sc_load,sc_move,sc_indexAddr,sc_fieldAddr,rd_fieldAddr,sc_build',rd_build',sc_binOp,rd_binOp,sc_pick,rd_pick,sc_assign,rd_assign,sc_store,rd_store,rd_load,rd_move,rd_indexAddr,rd_call,aread_load]
  repeat' refine And.intro ?_ ?_
  all_goals first | exact fun _ => trivial | exact fun s h => by rw [h.1]; rfl | exact fun s h => by rw [h.2]; rfl | rfl | exact V1i rfl rfl | exact fun _ => rfl
theorem applyI9_call (p q : Iv) : callFn env (ev env) 133 [cv, .int .i64 9, rowI [p, q]] σ = some (ivV (opI 9 p q (0, 0)), σ) := by
  refine callFn_pure rfl rfl (by simp [rowI, V.closed, V.closed.closedL, hc, closed_ivs]) at133 rfl (by simp [Tryd.f133]) (by simp [Tryd.f133]) (G_start ?_) σ
  obtain ⟨a, b⟩ := p
  obtain ⟨x, y⟩ := q
  have i0 : vIndexAddr 2 (rowI [(a, b), (x, y)]) (.int .i64 0) = some (.rptr [.int .i64 a, .int .i64 b, .int .i64 x, .int .i64 y]) := rfl
  have i1 : vIndexAddr 2 (rowI [(a, b), (x, y)]) (.int .i64 1) = some (.rptr [.int .i64 x, .int .i64 y]) := rfl
  have hE := equalI_call (a, b) (x, y)
  simp only [ivV] at hE
  have l1 : loadCellsV [AObj.cells [V.int .i64 0, V.int .i64 0] 67, AObj.cells [V.int .i64 a, V.int .i64 b] 67, AObj.cells [V.int .i64 x, V.int .i64 y] 67] 2 (.ptr 1 0) = some [.int .i64 a, .int .i64 b] := rfl
  have l2 : loadCellsV [AObj.cells [V.int .i64 0, V.int .i64 0] 67, AObj.cells [V.int .i64 a, V.int .i64 b] 67, AObj.cells [V.int .i64 x, V.int .i64 y] 67] 2 (.ptr 2 0) = some [.int .i64 x, .int .i64 y] := rfl
  simp -implicitDefEqProofs only [Tryd.f133,Wa,Wb,Wc,Wd,We,Wf,Wg,Wh,Wi,Wj,Wk,Wl,Wm,Wn,Zo,Zp,evalT,Nat.reduceLT,Nat.reduceEqDiff,if_true,if_false,reduceIte,Ys,ofVal,ofCell,argT,resT,setT,Y0,Int.reduceEq,Int.reduceLT,Int.reduceLE,Int.reduceNeg,mb,Nat.reduceBEq,tys,stb,Va,storeList,Nat.reduceAdd,Nat.reduceLeDiff,tysn,tyi,tyj,ix0,ix1,build67,load2_rptr,bu67,heap_end,set_end,YW,isCell_int,empty_mk,-Ys,i0,i1,l1,l2,hE]
  exact V1i rfl rfl
theorem applyI10_call (p q : Iv) : callFn env (ev env) 133 [cv, .int .i64 10, rowI [p, q]] σ = some (ivV (opI 10 p q (0, 0)), σ) := by
  refine callFn_pure rfl rfl (by simp [rowI, V.closed, V.closed.closedL, hc, closed_ivs]) at133 rfl (by simp [Tryd.f133]) (by simp [Tryd.f133]) (G_start ?_) σ
  obtain ⟨a, b⟩ := p
  obtain ⟨x, y⟩ := q
  have i0 : vIndexAddr 2 (rowI [(a, b), (x, y)]) (.int .i64 0) = some (.rptr [.int .i64 a, .int .i64 b, .int .i64 x, .int .i64 y]) := rfl
  have i1 : vIndexAddr 2 (rowI [(a, b), (x, y)]) (.int .i64 1) = some (.rptr [.int .i64 x, .int .i64 y]) := rfl
  have hE := equalI_call (a, b) (x, y)
  have hN := not_call (eqI (a, b) (x, y))
  simp only [ivV] at hE hN
  have l1 : loadCellsV [AObj.cells [V.int .i64 0, V.int .i64 0] 67, AObj.cells [V.int .i64 a, V.int .i64 b] 67, AObj.cells [V.int .i64 x, V.int .i64 y] 67] 2 (.ptr 1 0) = some [.int .i64 a, .int .i64 b] := rfl
  have l2 : loadCellsV [AObj.cells [V.int .i64 0, V.int .i64 0] 67, AObj.cells [V.int .i64 a, V.int .i64 b] 67, AObj.cells [V.int .i64 x, V.int .i64 y] 67] 2 (.ptr 2 0) = some [.int .i64 x, .int .i64 y] := rfl
  simp -implicitDefEqProofs only [Tryd.f133,Wa,Wb,Wc,Wd,We,Wf,Wg,Wh,Wi,Wj,Wk,Wl,Wm,Wn,Zo,Zp,evalT,Nat.reduceLT,Nat.reduceEqDiff,if_true,if_false,reduceIte,Ys,ofVal,ofCell,argT,resT,setT,Y0,Int.reduceEq,Int.reduceLT,Int.reduceLE,Int.reduceNeg,mb,Nat.reduceBEq,tys,stb,Va,storeList,Nat.reduceAdd,Nat.reduceLeDiff,tysn,tyi,tyj,ix0,ix1,build67,load2_rptr,bu67,heap_end,set_end,YW,isCell_int,empty_mk,-Ys,i0,i1,l1,l2,hE,hN]
  exact V1i rfl rfl
theorem applyI11_call (p q : Iv) : callFn env (ev env) 133 [cv, .int .i64 11, rowI [p, q]] σ = some (ivV (opI 11 p q (0, 0)), σ) := by
  refine callFn_pure rfl rfl (by simp [rowI, V.closed, V.closed.closedL, hc, closed_ivs]) at133 rfl (by simp [Tryd.f133]) (by simp [Tryd.f133]) (G_start ?_) σ
  obtain ⟨a, b⟩ := p
  obtain ⟨x, y⟩ := q
  have i0 : vIndexAddr 2 (rowI [(a, b), (x, y)]) (.int .i64 0) = some (.rptr [.int .i64 a, .int .i64 b, .int .i64 x, .int .i64 y]) := rfl
  have i1 : vIndexAddr 2 (rowI [(a, b), (x, y)]) (.int .i64 1) = some (.rptr [.int .i64 x, .int .i64 y]) := rfl
  have hE := lessI_call (a, b) (x, y)
  simp only [ivV] at hE
  have l1 : loadCellsV [AObj.cells [V.int .i64 0, V.int .i64 0] 67, AObj.cells [V.int .i64 a, V.int .i64 b] 67, AObj.cells [V.int .i64 x, V.int .i64 y] 67] 2 (.ptr 1 0) = some [.int .i64 a, .int .i64 b] := rfl
  have l2 : loadCellsV [AObj.cells [V.int .i64 0, V.int .i64 0] 67, AObj.cells [V.int .i64 a, V.int .i64 b] 67, AObj.cells [V.int .i64 x, V.int .i64 y] 67] 2 (.ptr 2 0) = some [.int .i64 x, .int .i64 y] := rfl
  simp -implicitDefEqProofs only [Tryd.f133,Wa,Wb,Wc,Wd,We,Wf,Wg,Wh,Wi,Wj,Wk,Wl,Wm,Wn,Zo,Zp,evalT,Nat.reduceLT,Nat.reduceEqDiff,if_true,if_false,reduceIte,Ys,ofVal,ofCell,argT,resT,setT,Y0,Int.reduceEq,Int.reduceLT,Int.reduceLE,Int.reduceNeg,mb,Nat.reduceBEq,tys,stb,Va,storeList,Nat.reduceAdd,Nat.reduceLeDiff,tysn,tyi,tyj,ix0,ix1,build67,load2_rptr,bu67,heap_end,set_end,YW,isCell_int,empty_mk,-Ys,i0,i1,l1,l2,hE]
  exact V1i rfl rfl
theorem applyI12_call (p q : Iv) : callFn env (ev env) 133 [cv, .int .i64 12, rowI [p, q]] σ = some (ivV (opI 12 p q (0, 0)), σ) := by
  refine callFn_pure rfl rfl (by simp [rowI, V.closed, V.closed.closedL, hc, closed_ivs]) at133 rfl (by simp [Tryd.f133]) (by simp [Tryd.f133]) (G_start ?_) σ
  obtain ⟨a, b⟩ := p
  obtain ⟨x, y⟩ := q
  have i0 : vIndexAddr 2 (rowI [(a, b), (x, y)]) (.int .i64 0) = some (.rptr [.int .i64 a, .int .i64 b, .int .i64 x, .int .i64 y]) := rfl
  have i1 : vIndexAddr 2 (rowI [(a, b), (x, y)]) (.int .i64 1) = some (.rptr [.int .i64 x, .int .i64 y]) := rfl
  have hE := lessI_call (x, y) (a, b)
  have hN := not_call (lessI (x, y) (a, b))
  simp only [ivV] at hE hN
  have l1 : loadCellsV [AObj.cells [V.int .i64 0, V.int .i64 0] 67, AObj.cells [V.int .i64 a, V.int .i64 b] 67, AObj.cells [V.int .i64 x, V.int .i64 y] 67] 2 (.ptr 1 0) = some [.int .i64 a, .int .i64 b] := rfl
  have l2 : loadCellsV [AObj.cells [V.int .i64 0, V.int .i64 0] 67, AObj.cells [V.int .i64 a, V.int .i64 b] 67, AObj.cells [V.int .i64 x, V.int .i64 y] 67] 2 (.ptr 2 0) = some [.int .i64 x, .int .i64 y] := rfl
  simp -implicitDefEqProofs only [Tryd.f133,Wa,Wb,Wc,Wd,We,Wf,Wg,Wh,Wi,Wj,Wk,Wl,Wm,Wn,Zo,Zp,evalT,Nat.reduceLT,Nat.reduceEqDiff,if_true,if_false,reduceIte,Ys,ofVal,ofCell,argT,resT,setT,Y0,Int.reduceEq,Int.reduceLT,Int.reduceLE,Int.reduceNeg,mb,Nat.reduceBEq,tys,stb,Va,storeList,Nat.reduceAdd,Nat.reduceLeDiff,tysn,tyi,tyj,ix0,ix1,build67,load2_rptr,bu67,heap_end,set_end,YW,isCell_int,empty_mk,-Ys,i0,i1,l1,l2,hE,hN]
  exact V1i rfl rfl
theorem applyI13_call (p q : Iv) : callFn env (ev env) 133 [cv, .int .i64 13, rowI [p, q]] σ = some (ivV (opI 13 p q (0, 0)), σ) := by
  refine callFn_pure rfl rfl (by simp [rowI, V.closed, V.closed.closedL, hc, closed_ivs]) at133 rfl (by simp [Tryd.f133]) (by simp [Tryd.f133]) (G_start ?_) σ
  obtain ⟨a, b⟩ := p
  obtain ⟨x, y⟩ := q
  have i0 : vIndexAddr 2 (rowI [(a, b), (x, y)]) (.int .i64 0) = some (.rptr [.int .i64 a, .int .i64 b, .int .i64 x, .int .i64 y]) := rfl
  have i1 : vIndexAddr 2 (rowI [(a, b), (x, y)]) (.int .i64 1) = some (.rptr [.int .i64 x, .int .i64 y]) := rfl
  have hE := lessI_call (x, y) (a, b)
  simp only [ivV] at hE
  have l1 : loadCellsV [AObj.cells [V.int .i64 0, V.int .i64 0] 67, AObj.cells [V.int .i64 a, V.int .i64 b] 67, AObj.cells [V.int .i64 x, V.int .i64 y] 67] 2 (.ptr 1 0) = some [.int .i64 a, .int .i64 b] := rfl
  have l2 : loadCellsV [AObj.cells [V.int .i64 0, V.int .i64 0] 67, AObj.cells [V.int .i64 a, V.int .i64 b] 67, AObj.cells [V.int .i64 x, V.int .i64 y] 67] 2 (.ptr 2 0) = some [.int .i64 x, .int .i64 y] := rfl
  simp -implicitDefEqProofs only [Tryd.f133,Wa,Wb,Wc,Wd,We,Wf,Wg,Wh,Wi,Wj,Wk,Wl,Wm,Wn,Zo,Zp,evalT,Nat.reduceLT,Nat.reduceEqDiff,if_true,if_false,reduceIte,Ys,ofVal,ofCell,argT,resT,setT,Y0,Int.reduceEq,Int.reduceLT,Int.reduceLE,Int.reduceNeg,mb,Nat.reduceBEq,tys,stb,Va,storeList,Nat.reduceAdd,Nat.reduceLeDiff,tysn,tyi,tyj,ix0,ix1,build67,load2_rptr,bu67,heap_end,set_end,YW,isCell_int,empty_mk,-Ys,i0,i1,l1,l2,hE]
  exact V1i rfl rfl
theorem applyI14_call (p q : Iv) : callFn env (ev env) 133 [cv, .int .i64 14, rowI [p, q]] σ = some (ivV (opI 14 p q (0, 0)), σ) := by
  refine callFn_pure rfl rfl (by simp [rowI, V.closed, V.closed.closedL, hc, closed_ivs]) at133 rfl (by simp [Tryd.f133]) (by simp [Tryd.f133]) (G_start ?_) σ
  obtain ⟨a, b⟩ := p
  obtain ⟨x, y⟩ := q
  have i0 : vIndexAddr 2 (rowI [(a, b), (x, y)]) (.int .i64 0) = some (.rptr [.int .i64 a, .int .i64 b, .int .i64 x, .int .i64 y]) := rfl
  have i1 : vIndexAddr 2 (rowI [(a, b), (x, y)]) (.int .i64 1) = some (.rptr [.int .i64 x, .int .i64 y]) := rfl
  have hE := lessI_call (a, b) (x, y)
  have hN := not_call (lessI (a, b) (x, y))
  simp only [ivV] at hE hN
  have l1 : loadCellsV [AObj.cells [V.int .i64 0, V.int .i64 0] 67, AObj.cells [V.int .i64 a, V.int .i64 b] 67, AObj.cells [V.int .i64 x, V.int .i64 y] 67] 2 (.ptr 1 0) = some [.int .i64 a, .int .i64 b] := rfl
  have l2 : loadCellsV [AObj.cells [V.int .i64 0, V.int .i64 0] 67, AObj.cells [V.int .i64 a, V.int .i64 b] 67, AObj.cells [V.int .i64 x, V.int .i64 y] 67] 2 (.ptr 2 0) = some [.int .i64 x, .int .i64 y] := rfl
  simp -implicitDefEqProofs only [Tryd.f133,Wa,Wb,Wc,Wd,We,Wf,Wg,Wh,Wi,Wj,Wk,Wl,Wm,Wn,Zo,Zp,evalT,Nat.reduceLT,Nat.reduceEqDiff,if_true,if_false,reduceIte,Ys,ofVal,ofCell,argT,resT,setT,Y0,Int.reduceEq,Int.reduceLT,Int.reduceLE,Int.reduceNeg,mb,Nat.reduceBEq,tys,stb,Va,storeList,Nat.reduceAdd,Nat.reduceLeDiff,tysn,tyi,tyj,ix0,ix1,build67,load2_rptr,bu67,heap_end,set_end,YW,isCell_int,empty_mk,-Ys,i0,i1,l1,l2,hE,hN]
  exact V1i rfl rfl
theorem applyI15_call (p q : Iv) : callFn env (ev env) 133 [cv, .int .i64 15, rowI [p, q]] σ = some (ivV (opI 15 p q (0, 0)), σ) := by
  refine callFn_pure rfl rfl (by simp [rowI, V.closed, V.closed.closedL, hc, closed_ivs]) at133 rfl (by simp [Tryd.f133]) (by simp [Tryd.f133]) (G_start ?_) σ
  obtain ⟨a, b⟩ := p
  obtain ⟨x, y⟩ := q
  have i0 : vIndexAddr 2 (rowI [(a, b), (x, y)]) (.int .i64 0) = some (.rptr [.int .i64 a, .int .i64 b, .int .i64 x, .int .i64 y]) := rfl
  have i1 : vIndexAddr 2 (rowI [(a, b), (x, y)]) (.int .i64 1) = some (.rptr [.int .i64 x, .int .i64 y]) := rfl
  simp -implicitDefEqProofs only [Tryd.f133,Wa,Wb,Wc,Wd,We,Wf,Wg,Wh,Wi,Wj,Wk,Wl,Wm,Wn,Zo,Zp,evalT,Nat.reduceLT,Nat.reduceEqDiff,if_true,if_false,reduceIte,Ys,ofVal,ofCell,argT,resT,setT,Y0,Int.reduceEq,Int.reduceLT,Int.reduceLE,Int.reduceNeg,mb,Nat.reduceBEq,tys,stb,Va,storeList,Nat.reduceAdd,Nat.reduceLeDiff,tysn,tyi,tyj,ix0,ix1,build67,load2_rptr,bu67,heap_end,set_end,YW,isCell_int,empty_mk,-Ys,i0,i1]
  exact V1i rfl rfl
theorem applyI16_call (p q : Iv) : callFn env (ev env) 133 [cv, .int .i64 16, rowI [p, q]] σ = some (ivV (opI 16 p q (0, 0)), σ) := by
  refine callFn_pure rfl rfl (by simp [rowI, V.closed, V.closed.closedL, hc, closed_ivs]) at133 rfl (by simp [Tryd.f133]) (by simp [Tryd.f133]) (G_start ?_) σ
  obtain ⟨a, b⟩ := p
  obtain ⟨x, y⟩ := q
  have i0 : vIndexAddr 2 (rowI [(a, b), (x, y)]) (.int .i64 0) = some (.rptr [.int .i64 a, .int .i64 b, .int .i64 x, .int .i64 y]) := rfl
  have i1 : vIndexAddr 2 (rowI [(a, b), (x, y)]) (.int .i64 1) = some (.rptr [.int .i64 x, .int .i64 y]) := rfl
  simp -implicitDefEqProofs only [Tryd.f133,Wa,Wb,Wc,Wd,We,Wf,Wg,Wh,Wi,Wj,Wk,Wl,Wm,Wn,Zo,Zp,evalT,Nat.reduceLT,Nat.reduceEqDiff,if_true,if_false,reduceIte,Ys,ofVal,ofCell,argT,resT,setT,Y0,Int.reduceEq,Int.reduceLT,Int.reduceLE,Int.reduceNeg,mb,Nat.reduceBEq,tys,stb,Va,storeList,Nat.reduceAdd,Nat.reduceLeDiff,tysn,tyi,tyj,ix0,ix1,build67,load2_rptr,bu67,heap_end,set_end,YW,isCell_int,empty_mk,-Ys,i0,i1]
  exact V1i rfl rfl
end
end Go.Proofs.YtcjapamldllleaaDoor
namespace Go.Proofs.YtcjapamldllleaaDoor
open Go.Ab
set_option maxHeartbeats 4000000
set_option maxHeartbeats 4000000
set_option maxRecDepth 100000
set_option linter.unusedSimpArgs false
set_option linter.unusedVariables false
theorem tyk : env.P.underlying 66 = some (.array 2 3) ∧ sz env 66 = some 2 ∧ zeroV env 66 = some (.agg [.int .i64 0, .int .i64 0]) ∧ (∀ h p, aload env h 66 p = (loadCellsV h 2 p).map .agg) := by
  have g66 : aggT env 66 = some true := by kernel_rfl
  have s66 : sz env 66 = some 2 := by kernel_rfl
  exact ⟨by kernel_rfl, s66, by kernel_rfl, fun h p => by unfold aload; rw [g66, s66]; rfl⟩
theorem build66 (a b : Int) : buildO env 66 [(0, .int .i64 a), (1, .int .i64 b)] = some (.agg [.int .i64 a, .int .i64 b]) := by kernel_rfl
theorem build161 (a b c d e f : Int) : buildO env 161 [(0, .agg [.int .i64 a, .int .i64 b]), (1, .agg [.int .i64 c, .int .i64 d]), (2, .agg [.int .i64 e, .int .i64 f])] = some (.agg [.int .i64 a, .int .i64 b, .int .i64 c, .int .i64 d, .int .i64 e, .int .i64 f]) := by kernel_rfl
theorem index161_0 (a b c d e f : V) : indexO env 161 (.agg [a, b, c, d, e, f]) (.int .i64 0) = some (.agg [a, b]) := by kernel_rfl
theorem index161_1 (a b c d e f : V) : indexO env 161 (.agg [a, b, c, d, e, f]) (.int .i64 1) = some (.agg [c, d]) := by kernel_rfl
theorem index161_2 (a b c d e f : V) : indexO env 161 (.agg [a, b, c, d, e, f]) (.int .i64 2) = some (.agg [e, f]) := by kernel_rfl
section
variable (cv : V) (hc : cv.closed = true) (σ : S)
include hc
theorem applyI8_call (p q r : Iv) : callFn env (ev env) 133 [cv, .int .i64 8, rowI [p, q, r]] σ = some (ivV (opI 8 p q r), σ) := by
  refine callFn_pure rfl rfl (by simp [rowI, V.closed, V.closed.closedL, hc, closed_ivs]) at133 rfl (by simp [Tryd.f133]) (by simp [Tryd.f133]) (G_start ?_) σ
  obtain ⟨a, b⟩ := p
  obtain ⟨x, y⟩ := q
  obtain ⟨u, w⟩ := r
  have i0 : vIndexAddr 2 (rowI [(a, b), (x, y), (u, w)]) (.int .i64 0) = some (.rptr [.int .i64 a, .int .i64 b, .int .i64 x, .int .i64 y, .int .i64 u, .int .i64 w]) := rfl
  have i1 : vIndexAddr 2 (rowI [(a, b), (x, y), (u, w)]) (.int .i64 1) = some (.rptr [.int .i64 x, .int .i64 y, .int .i64 u, .int .i64 w]) := rfl
  have i2 : vIndexAddr 2 (rowI [(a, b), (x, y), (u, w)]) (.int .i64 2) = some (.rptr [.int .i64 u, .int .i64 w]) := rfl
  have l1 : loadCellsV [AObj.cells [V.int .i64 0, V.int .i64 0] 67, AObj.cells [V.int .i64 a, V.int .i64 b] 67] 2 (.ptr 1 0) = some [.int .i64 a, .int .i64 b] := rfl
  have hH := hull_call (x, y) (u, w)
  simp only [ivV] at hH
  by_cases h1 : (a, b) = (1, 1)
  · have d1 := eq_true h1
    have he : opI 8 (a, b) (x, y) (u, w) = (x, y) := by unfold opI; simp only [Int.reduceEq, if_false, if_true, reduceIte]; rw [if_pos h1]
    rw [he]
    simp -implicitDefEqProofs only [Tryd.f133,Wa,Wb,Wc,Wd,We,Wf,Wg,Wh,Wi,Wj,Wk,Wl,Wm,Wn,Zo,Zp,evalT,Nat.reduceLT,Nat.reduceEqDiff,if_true,if_false,reduceIte,Ys,ofVal,ofCell,argT,resT,setT,Y0,Int.reduceEq,Int.reduceLT,Int.reduceLE,Int.reduceNeg,mb,Nat.reduceBEq,tys,stb,Va,storeList,Nat.reduceAdd,Nat.reduceLeDiff,tysn,tyi,tyj,ix0,ix1,build67,load2_rptr,bu67,heap_end,set_end,YW,isCell_int,empty_mk,-Ys,i0,i1,i2,l1,eq67,d1,hH]
    exact V1i rfl rfl
  have d1 := eq_false h1
  by_cases h2 : (a, b) = (0, 0)
  · have d2 := eq_true h2
    have he : opI 8 (a, b) (x, y) (u, w) = (u, w) := by unfold opI; simp only [Int.reduceEq, if_false, if_true, reduceIte]; rw [if_neg h1, if_pos h2]
    rw [he]
    simp -implicitDefEqProofs only [Tryd.f133,Wa,Wb,Wc,Wd,We,Wf,Wg,Wh,Wi,Wj,Wk,Wl,Wm,Wn,Zo,Zp,evalT,Nat.reduceLT,Nat.reduceEqDiff,if_true,if_false,reduceIte,Ys,ofVal,ofCell,argT,resT,setT,Y0,Int.reduceEq,Int.reduceLT,Int.reduceLE,Int.reduceNeg,mb,Nat.reduceBEq,tys,stb,Va,storeList,Nat.reduceAdd,Nat.reduceLeDiff,tysn,tyi,tyj,ix0,ix1,build67,load2_rptr,bu67,heap_end,set_end,YW,isCell_int,empty_mk,-Ys,i0,i1,i2,l1,eq67,d1,d2,hH]
    exact V1i rfl rfl
  have d2 := eq_false h2
  have he : opI 8 (a, b) (x, y) (u, w) = hullI (x, y) (u, w) := by unfold opI; simp only [Int.reduceEq, if_false, if_true, reduceIte]; rw [if_neg h1, if_neg h2]
  rw [he]
  simp -implicitDefEqProofs only [Tryd.f133,Wa,Wb,Wc,Wd,We,Wf,Wg,Wh,Wi,Wj,Wk,Wl,Wm,Wn,Zo,Zp,evalT,Nat.reduceLT,Nat.reduceEqDiff,if_true,if_false,reduceIte,Ys,ofVal,ofCell,argT,resT,setT,Y0,Int.reduceEq,Int.reduceLT,Int.reduceLE,Int.reduceNeg,mb,Nat.reduceBEq,tys,stb,Va,storeList,Nat.reduceAdd,Nat.reduceLeDiff,tysn,tyi,tyj,ix0,ix1,build67,load2_rptr,bu67,heap_end,set_end,YW,isCell_int,empty_mk,-Ys,i0,i1,i2,l1,eq67,d1,d2,hH]
  exact ⟨by kernel_rfl, V1i rfl rfl⟩
theorem applyI6_call (p q : Iv) (hq1 : In64 q.1) (hq2 : In64 q.2) : callFn env (ev env) 133 [cv, .int .i64 6, rowI [p, q]] σ = some (ivV (opI 6 p q (0, 0)), σ) := by
  refine callFn_pure rfl rfl (by simp [rowI, V.closed, V.closed.closedL, hc, closed_ivs]) at133 rfl (by simp [Tryd.f133]) (by simp [Tryd.f133]) (G_start ?_) σ
  obtain ⟨a, b⟩ := p
  obtain ⟨x, y⟩ := q
  simp only at hq1 hq2
  have i0 : vIndexAddr 2 (rowI [(a, b), (x, y)]) (.int .i64 0) = some (.rptr [.int .i64 a, .int .i64 b, .int .i64 x, .int .i64 y]) := rfl
  have i1 : vIndexAddr 2 (rowI [(a, b), (x, y)]) (.int .i64 1) = some (.rptr [.int .i64 x, .int .i64 y]) := rfl
  have t1 := times_call a x hq1
  have t2 := times_call a y hq2
  have t3 := times_call b x hq1
  have t4 := times_call b y hq2
  have he : opI 6 (a, b) (x, y) (0, 0) = mulI (a, b) (x, y) := rfl
  rw [he]
  simp -implicitDefEqProofs only [Tryd.f133,Wa,Wb,Wc,Wd,We,Wf,Wg,Wh,Wi,Wj,Wk,Wl,Wm,Wn,Zo,Zp,evalT,Nat.reduceLT,Nat.reduceEqDiff,if_true,if_false,reduceIte,Ys,ofVal,ofCell,argT,resT,setT,Y0,Int.reduceEq,Int.reduceLT,Int.reduceLE,Int.reduceNeg,mb,Nat.reduceBEq,tys,stb,Va,storeList,Nat.reduceAdd,Nat.reduceLeDiff,tysn,tyi,tyj,tyk,ix0,ix1,build67,build66,build161,load2_rptr,bu67,heap_end,set_end,YW,isCell_int,empty_mk,-Ys,i0,i1,t1,t2,t3,t4]
  have hH : ∀ (a b c d : Int) (σ : S), callFn env (ev env) 136 [.agg [.int .i64 a, .int .i64 b], .agg [.int .i64 c, .int .i64 d]] σ = some (.agg [.int .i64 (minI a c), .int .i64 (maxI b d)], σ) := fun a b c d => hull_call (a, b) (c, d)
  generalize hm : mulI (a, b) (x, y) = M
  refine loop_rule (fun m T D σ => D = [] ∧ T 6 = .ptr 0 0 ∧ T 10 = .ptr 3 0 ∧ T 112 = .agg [.int .i64 a, .int .i64 y, .int .i64 b, .int .i64 x, .int .i64 b, .int .i64 y] ∧ ∃ (i : Nat) (c d : Int) (L : List AObj), σ = ⟨L, []⟩ ∧ L[0]? = some (.cells [.int .i64 0, .int .i64 0] 67) ∧ L[3]? = some (.cells [.int .i64 c, .int .i64 d] 67) ∧ T 113 = .int .i64 i ∧
    ((i = 0 ∧ (c, d) = dup (timesI a x)) ∨ (i = 1 ∧ (c, d) = hullI (dup (timesI a x)) (dup (timesI a y))) ∨ (i = 2 ∧ (c, d) = hullI (hullI (dup (timesI a x)) (dup (timesI a y))) (dup (timesI b x))) ∨ (i = 3 ∧ (c, d) = M)) ∧ m = 3 - i) ?_ 3 _ _ _ ⟨rfl, rfl, rfl, rfl, 0, _, _, _, rfl, rfl, rfl, rfl, .inl ⟨rfl, rfl⟩, rfl⟩
  rintro m T D σ ⟨rfl, u6, u10, u112, i, c, d, L, rfl, p0, p3, u113, hcase, rfl⟩
  refine G_start ?_
  have l3 := lt_get p3
  have k3 : ∀ o, (L ++ [o])[3]? = some (.cells [.int .i64 c, .int .i64 d] 67) := fun o => by rw [List.getElem?_append_left l3]; exact p3
  have lp : ∀ o, loadCellsV (L ++ [o]) 2 (.ptr 3 0) = some [.int .i64 c, .int .i64 d] := fun o => load2_ptr (k3 o)
  have lp0 : loadCellsV L 2 (.ptr 3 0) = some [.int .i64 c, .int .i64 d] := load2_ptr p3
  have s0 : ∀ o n, ((L ++ [o]).set 3 n)[0]? = some (.cells [.int .i64 0, .int .i64 0] 67) := fun o n => by rw [List.getElem?_set_ne (by omega), List.getElem?_append_left (by omega)]; exact p0
  have s3 : ∀ o n, ((L ++ [o]).set 3 n)[3]? = some n := fun o n => by rw [List.getElem?_set_self (by simp; omega)]
  rcases hcase with ⟨rfl, hcd⟩ | ⟨rfl, hcd⟩ | ⟨rfl, hcd⟩ | ⟨rfl, hcd⟩
  · have u113 : T 113 = .int .i64 0 := u113
    simp -implicitDefEqProofs only [Wa,Wb,Wc,Wd,We,Wf,Wg,Wh,Wi,Wj,Wk,Wl,Wm,Wn,Zo,Zp,evalT,Nat.reduceLT,Nat.reduceEqDiff,if_true,if_false,reduceIte,Ys,ofVal,ofCell,argT,resT,setT,Y0,Int.reduceEq,Int.reduceLT,Int.reduceLE,Int.reduceNeg,mb,Nat.reduceBEq,tys,stb,Va,storeList,Nat.reduceAdd,Nat.reduceLeDiff,tysn,tyi,tyj,tyk,ix0,ix1,build67,u6,u10,u112,u113,opT_index,index161_0,load2_rptr,heap_end,set_end,YW,isCell_int,t1,t2,t3,t4,k3,lp,hH]
    exact ⟨2, by omega, 1, _, _, _, rfl, s0 _ _, s3 _ _, rfl, .inr (.inl ⟨rfl, by simp only [Prod.mk.injEq, dup] at hcd; rw [hcd.1, hcd.2]; rfl⟩), rfl⟩
  · have u113 : T 113 = .int .i64 1 := u113
    simp -implicitDefEqProofs only [Wa,Wb,Wc,Wd,We,Wf,Wg,Wh,Wi,Wj,Wk,Wl,Wm,Wn,Zo,Zp,evalT,Nat.reduceLT,Nat.reduceEqDiff,if_true,if_false,reduceIte,Ys,ofVal,ofCell,argT,resT,setT,Y0,Int.reduceEq,Int.reduceLT,Int.reduceLE,Int.reduceNeg,mb,Nat.reduceBEq,tys,stb,Va,storeList,Nat.reduceAdd,Nat.reduceLeDiff,tysn,tyi,tyj,tyk,ix0,ix1,build67,u6,u10,u112,u113,opT_index,index161_1,load2_rptr,heap_end,set_end,YW,isCell_int,t1,t2,t3,t4,k3,lp,hH]
    exact ⟨1, by omega, 2, _, _, _, rfl, s0 _ _, s3 _ _, rfl, .inr (.inr (.inl ⟨rfl, by rw [← hcd]; rfl⟩)), rfl⟩
  · have u113 : T 113 = .int .i64 2 := u113
    simp -implicitDefEqProofs only [Wa,Wb,Wc,Wd,We,Wf,Wg,Wh,Wi,Wj,Wk,Wl,Wm,Wn,Zo,Zp,evalT,Nat.reduceLT,Nat.reduceEqDiff,if_true,if_false,reduceIte,Ys,ofVal,ofCell,argT,resT,setT,Y0,Int.reduceEq,Int.reduceLT,Int.reduceLE,Int.reduceNeg,mb,Nat.reduceBEq,tys,stb,Va,storeList,Nat.reduceAdd,Nat.reduceLeDiff,tysn,tyi,tyj,tyk,ix0,ix1,build67,u6,u10,u112,u113,opT_index,index161_2,load2_rptr,heap_end,set_end,YW,isCell_int,t1,t2,t3,t4,k3,lp,hH]
    exact ⟨0, by omega, 3, _, _, _, rfl, s0 _ _, s3 _ _, rfl, .inr (.inr (.inr ⟨rfl, by rw [← hm]; unfold mulI; rw [← hcd]; rfl⟩)), rfl⟩
  · have u113 : T 113 = .int .i64 3 := u113
    simp -implicitDefEqProofs only [Wa,Wb,Wc,Wd,We,Wf,Wg,Wh,Wi,Wj,Wk,Wl,Wm,Wn,Zo,Zp,evalT,Nat.reduceLT,Nat.reduceEqDiff,if_true,if_false,reduceIte,Ys,ofVal,ofCell,argT,resT,setT,Y0,Int.reduceEq,Int.reduceLT,Int.reduceLE,Int.reduceNeg,mb,Nat.reduceBEq,tys,stb,Va,storeList,Nat.reduceAdd,Nat.reduceLeDiff,tysn,tyi,tyj,tyk,ix0,ix1,build67,u6,u10,u112,u113,opT_index,load2_rptr,heap_end,set_end,YW,isCell_int,t1,t2,t3,t4,k3,lp0,p0,hH]
    refine V1i (v := [V.agg [.int .i64 c, .int .i64 d]]) ?_ ?_
    · rw [load2_ptr (by rw [List.getElem?_set_self (by omega)])]; rfl
    · rw [← hcd]; rfl
end
end Go.Proofs.YtcjapamldllleaaDoor
