/- Proved here: SensTrees returns true for every argument. Conditions: the listed package variables read as the card ties them. -/
import Derived.Test.YtajaampgajieeaaGreatDoorRows
import Derived.Test.YtajaampgajieeaaGreatDoorCards
import Derived.Test.YtajaampgajieeaaGreatDoorTie
import Derived.Test.YtajaampgajieeaaGreatDoorLwSt
import Derived.WalkKit
import Derived.Below
import Derived.ProofKit
import Derived.OpenShut
import Derived.ShutString
import Derived.LaidMore
import Derived.Lay
import Derived.Stop.Joined
import Derived.SevenTiedAt
namespace Go.Proofs.YtajaampgajieeaaGreatDoor.sensTrees
open Go Go.Ab Go.ChangeShapes Go.WideShapes Go.ChangeAt Go.RowKit
open Go.ChangeMaps (open_string shut_string)
set_option linter.unusedVariables false
set_option maxRecDepth 100000

theorem own : ownKnob Tryz.prog.godebug = none := by kernel_rfl
def laidL : List (String × DataW Unit) := [("math/bits.deBruijn32tab", Rows.laid_math_bits_deBruijn32tab), ("math/bits.deBruijn64tab", Rows.laid_math_bits_deBruijn64tab), ("internal/strconv.uint64pow10", Rows.laid_internal_strconv_uint64pow10), ("unicode/utf8.acceptRanges", Rows.laid_unicode_utf8_acceptRanges), ("strconv.ErrRange", Rows.laid_strconv_ErrRange), ("strconv.ErrSyntax", Rows.laid_strconv_ErrSyntax), ("privhouse/schema.reserved", Rows.laid_privhouse_schema_reserved), ("unicode/utf8.first", Rows.laid_unicode_utf8_first)]
theorem plain : (laidL.all fun x => x.2.handleName?.isNone) = true := by kernel_rfl
theorem door_met (os : Os) (args : Array Value) : laidMetH Tryz.prog laidL ((World.laidAll Tryz.prog os laidL).forCall (fun _ _ => 0) ⟨#[], args, []⟩).memory := by
  rw [MakeChecks.laidMetH_plain _ _ _ plain]
  exact laidMet_laidAll _ (by kernel_rfl) (by kernel_rfl)

theorem laidOut : laidOutB Tryz.prog = true := by kernel_rfl
theorem walk (v0 v1 v2 v3 : Value) (u0 : V) (t0 : Tyd Tryz.prog 6 22 [u0]) (u1 : V) (t1 : Tyd Tryz.prog 6 22 [u1]) (u2 : V) (t2 : Tyd Tryz.prog 6 3 [u2]) (u3 : V) (t3 : Tyd Tryz.prog 6 3 [u3]) (W : World) (r0 : VRel (Ctx.top W) u0 v0) (r1 : VRel (Ctx.top W) u1 v1) (r2 : VRel (Ctx.top W) u2 v2) (r3 : VRel (Ctx.top W) u3 v3) (hL : laidMetH Tryz.prog laidL W) : Calls Tryz.prog 13 #[v0, v1, v2, v3] W fun e w' => e = .returned (.bool true) ∧ Below W.heap.size W w' :=
  calls_of_found (vs := [u0, u1, u2, u3]) N.env_ok (N.trees_foundt t0 t1 t2 t3) (.cons r0 (.cons r1 (.cons r2 (.one r3)))) (N.env_gl hL plain (by simp [laidL]) (by simp [laidL]))


theorem lifted (os : Os) (started : os.Started) (H : Type) (enc : TypeId × Value → H) :
    ReturnsInHanded {} Tryz.checked os 13 .any (fun w args => (Rows.sensTreesSpec.pre enc Tryz.prog Tryz.f13 [] false w args ∧ laidMetH Tryz.prog laidL w) ∧ sizedMet enc Tryz.prog Tryz.f13 (OpenSpec.ofChange Rows.sensTreesSpec) false w args)
      (Rows.sensTreesSpec.post enc Tryz.prog Tryz.f13 false true false false) := by
  refine returnsInHanded_of_change_and (C := Tryz.checked) (X := fun w _ => laidMetH Tryz.prog laidL w) (fun _ _ _ hh h => h.of_heap hh) own started (by kernel_rfl) Tryz.func13
    (ChangeSpec.witness_shaped (enc := enc) (C := Tryz.checked) (os := os) (X := fun w _ => laidMetH Tryz.prog laidL w) false (World.laidAll Tryz.prog os laidL) #[.slice none 0 0, .slice none 0 0, .int .i64 0, .int .i64 0] 8 (World.laidAll_os _ _ _) (World.shaped_of_ZipB (by kernel_rfl) (by kernel_rfl)) (by kernel_rfl) (by kernel_rfl) (by kernel_rfl) (door_met os _)) ?_
  intro W base args ds gs before hval0 hW _ _ hL _
  have hval : ∀ (j : Nat) t v, Tryz.f13.params[j]? = some t → args[j]? = some v → Value.okWide Tryz.prog W .any base t v := hval0
  have hW' := hW
  obtain ⟨p, q, hA0, hV, rfl, hfz, hnd⟩ := hW
  have hA : DataW.TrodAll enc Tryz.prog W 0 (fun _ => true) true Tryz.f13.params.toList args.toList ds p := hA0
  rw [Tryz.params13] at hA hval
  obtain ⟨v0, vs0, d0, ds0, p0, q0, hargs, rfl, rfl, h0, r0⟩ := trodAll_cons hA
  obtain ⟨v1, vs1, d1, ds1, p1, q1, rfl, rfl, rfl, h1, r1⟩ := trodAll_cons r0
  obtain ⟨v2, vs2, d2, ds2, p2, q2, rfl, rfl, rfl, h2, r2⟩ := trodAll_cons r1
  obtain ⟨v3, vs3, d3, ds3, p3, q3, rfl, rfl, rfl, h3, r3⟩ := trodAll_cons r2
  obtain ⟨rfl, rfl, rfl⟩ := trodAll_nil r3
  obtain rfl : args = #[v0, v1, v2, v3] := by cases args; simp_all
  have k0 := h0
  have lt0 : ∀ x ∈ p0, x.block < W.heap.size := by obtain ⟨m, hm⟩ := k0; exact DataW.trod_lt m _ _ _ hm
  obtain ⟨a0, l0, c0, e0⟩ := okWide_slice Tryz.underlying22 (hval 0 22 v0 rfl rfl)
  obtain ⟨u0, ty0, re0⟩ := arg_cell (k := 6) (by kernel_rfl) h0 (by rw [e0]; rfl)
  have k1 := h1
  have lt1 : ∀ x ∈ p1, x.block < W.heap.size := by obtain ⟨m, hm⟩ := k1; exact DataW.trod_lt m _ _ _ hm
  obtain ⟨a1, l1, c1, e1⟩ := okWide_slice Tryz.underlying22 (hval 1 22 v1 rfl rfl)
  obtain ⟨u1, ty1, re1⟩ := arg_cell (k := 6) (by kernel_rfl) h1 (by rw [e1]; rfl)
  have k2 := h2
  have lt2 : ∀ x ∈ p2, x.block < W.heap.size := by obtain ⟨m, hm⟩ := k2; exact DataW.trod_lt m _ _ _ hm
  obtain ⟨n2, e2⟩ := okWide_int Tryz.underlying3 (hval 2 3 v2 rfl rfl)
  obtain ⟨u2, ty2, re2⟩ := arg_cell (k := 6) (by kernel_rfl) h2 (by rw [e2]; rfl)
  have k3 := h3
  have lt3 : ∀ x ∈ p3, x.block < W.heap.size := by obtain ⟨m, hm⟩ := k3; exact DataW.trod_lt m _ _ _ hm
  obtain ⟨n3, e3⟩ := okWide_int Tryz.underlying3 (hval 3 3 v3 rfl rfl)
  obtain ⟨u3, ty3, re3⟩ := arg_cell (k := 6) (by kernel_rfl) h3 (by rw [e3]; rfl)
  obtain ⟨rfl, rfl⟩ := trodVars_none hV
  clear hA0 hval0
  simp only [List.append_nil] at hW'
  refine (walk v0 v1 v2 v3 u0 ty0 u1 ty1 u2 ty2 u3 ty3 W re0 re1 re2 re3 hL).mono fun e W' ⟨he, bel⟩ => ?_
  subst he
  exact ⟨_, rfl, _, _, _, [], _, [], hW', trodAll_mk1 (shut_bool Tryz.underlying4 _), (trodAll_cons_mk (Below.trod laidOut (by kernel_rfl) (of_decide_eq_true (by kernel_rfl)) k0 bel lt0) (trodAll_cons_mk (Below.trod laidOut (by kernel_rfl) (of_decide_eq_true (by kernel_rfl)) k1 bel lt1) (trodAll_cons_mk (Below.trod laidOut (by kernel_rfl) (of_decide_eq_true (by kernel_rfl)) k2 bel lt2) (trodAll_cons_mk (Below.trod laidOut (by kernel_rfl) (of_decide_eq_true (by kernel_rfl)) k3 bel lt3) trodAll_mk0)))), rfl, bel.frame _, fun h => by cases h⟩

theorem e1 : Tryz.prog.mayEnter = true := by kernel_rfl
theorem e2 : Tryz.prog.inPlace 13 = Rows.sensTreesRow.inPlace := by kernel_rfl
theorem e3 : Tryz.prog.unfollowed 13 = Rows.sensTreesRow.unfollowed := by kernel_rfl
theorem e4 : Tryz.prog.recurses 13 = Rows.sensTreesRow.recurses := by kernel_rfl
theorem e5 : Tryz.prog.varsNamed 13 = Rows.sensTreesRow.named := by kernel_rfl
theorem e6 : mapsRowed Tryz.prog = true := by kernel_rfl
theorem e7 : Tryz.prog.stopsHeard = true := by kernel_rfl
theorem e8 : Tryz.prog.liftsFinal = Rows.sensTreesRow.lifted := by kernel_rfl
theorem e9 : Tryz.prog.plainKeys = Rows.sensTreesRow.plainKeys := by kernel_rfl
theorem joined : joinedFacts Tryz.pinned.checked.prog 13 Tryz.f13 Rows.sensTreesSpec Rows.sensTreesRow = true := by
  show joinedFacts Tryz.prog 13 Tryz.f13 Rows.sensTreesSpec Rows.sensTreesRow = true
  unfold joinedFacts
  rw [laidOut, e6, e2, e3, e4, e5, e9, e7, e1, e8]
  kernel_rfl
theorem g0 : Tryz.pinned.checked.prog.funcNamed Rows.sensTreesRow.func = some 13 := by kernel_rfl
theorem g1 : OpenClaim.wfByText (OpenSpec.ofChange Rows.sensTreesSpec) Rows.sensTreesRow = true := by kernel_rfl
theorem g2 : Tryz.pinned.checked.prog.mainIs = some ((true, "f1b4b89f49c5a2fd3b492b1e95e6c9c830d7962972ee0ba656d8736bf8e12b37").fst, (true, "f1b4b89f49c5a2fd3b492b1e95e6c9c830d7962972ee0ba656d8736bf8e12b37").snd.toList) := by kernel_rfl
theorem g3 : false = Rows.sensTreesRow.goesBy Tryz.pinned.checked.prog := by kernel_rfl
theorem g4 : Tryz.prog.funcNamed "privhouse/privhouselaw19.SensTrees" = some 13 := by kernel_rfl
theorem w3 : Tryz.prog.wantsStandIn 3 = false := by kernel_rfl
theorem w22 : Tryz.prog.wantsStandIn 22 = false := by kernel_rfl

theorem row_holds : Rows.SensTreesSaid :=
  OpenClaim.holds_of_wide 13 Tryz.f13 rfl rfl rfl rfl rfl rfl rfl ⟨rfl, rfl, rfl, rfl, rfl⟩ rfl rfl rfl rfl rfl g0 Tryz.func13 joined
    (of_decide_eq_true (by kernel_rfl)) (by unfold Func.isWrapper; first | (rw [if_pos (by decide +kernel)]; kernel_rfl) | (rw [if_neg (by decide +kernel)]; exact ⟨rfl, rfl⟩))
    (fun os started H enc _ => lifted os started H enc)

/-- the statement -/
theorem proved : Rows.SensTreesCardSaid :=
  Claim7.holds_tied_plain_at .later [] [.data, .data, .data, .data, .sentinel, .sentinel, .widerDeep, .pinned] true (true, "f1b4b89f49c5a2fd3b492b1e95e6c9c830d7962972ee0ba656d8736bf8e12b37") true
    row_holds (fun _ h => by cases h) g1 (fun _ h => by cases h) sensTrees_row_tie rfl ⟨rfl, rfl⟩ g2 rfl
    (fun f fn hf hfn => by
      obtain rfl : f = 13 := Option.some.inj (g4.symm.trans hf) |>.symm
      obtain rfl : fn = Tryz.f13 := (Option.some.inj (Tryz.func13.symm.trans hfn)).symm
      exact ⟨by kernel_rfl, fun j t ht => by
        rw [Tryz.params13] at ht
        have hj : j < 4 := by
          by_cases hj : j < 4
          · exact hj
          · rw [Array.getElem?_eq_none (by simp; omega)] at ht; simp at ht
        match j, hj, ht with
        | 0, _, ht =>
          obtain rfl : t = 22 := by simpa using ht.symm
          exact w22
        | 1, _, ht =>
          obtain rfl : t = 22 := by simpa using ht.symm
          exact w22
        | 2, _, ht =>
          obtain rfl : t = 3 := by simpa using ht.symm
          exact w3
        | 3, _, ht =>
          obtain rfl : t = 3 := by simpa using ht.symm
          exact w3⟩)
    g3
#print axioms proved
end Go.Proofs.YtajaampgajieeaaGreatDoor.sensTrees
