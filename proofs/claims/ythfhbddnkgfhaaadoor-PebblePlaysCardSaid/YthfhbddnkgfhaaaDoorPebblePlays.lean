/- What playing a game gives, its greatest number of pebbles, whether it reaches its goals, and its circuit are as the reference says -/
import Derived.Test.YthfhbddnkgfhaaaDoorPartG
import Derived.ChangeSlices
import Derived.WideShapes
import Derived.OpenShut
import Derived.Carry
import Derived.Test.YthfhbddnkgfhaaaDoorTie
import Derived.Test.YthfhbddnkgfhaaaDoorCards
set_option linter.unusedVariables false
set_option linter.unusedSimpArgs false
/-! ### F31 -/
namespace Go.Proofs.YthfhbddnkgfhaaaDoor
open Go Go.AM Go.ChangeShapes Go.WideShapes Go.ChangeAt Go.WideMaps Go.WideElems Go.RowKit
set_option maxRecDepth 100000
set_option linter.unusedVariables false
theorem own : ownKnob Tryd.prog.godebug = none := by kernel_rfl
/-- The door's own heap meets the condition: three closed facts. -/
theorem door_met (os : Os) (args : Array Value) : laidMetH Tryd.prog laid1 ((World.doorLaid Tryd.prog 400 os).forCall (fun _ _ => 0) ⟨#[], args, []⟩).memory :=
  laidMetH_of_parts3 (fuel := 8) (laidMet_of_run' 8 (by kernel_rfl) (by kernel_rfl)) (by kernel_rfl) (by kernel_rfl)
theorem lifted7 (os : Os) (started : os.Started) (H : Type) (enc : TypeId × Value → H) :
    ReturnsInHanded {} Tryd.checked os 7 .any (fun w args => (Rows.pebblePlaysSpec.pre enc Tryd.prog Tryd.f7 [] false w args ∧ laidMetH Tryd.prog laid1 w) ∧ sizedMet enc Tryd.prog Tryd.f7 (OpenSpec.ofChange Rows.pebblePlaysSpec) false w args)
      (Rows.pebblePlaysSpec.post enc Tryd.prog Tryd.f7 false true false false) := by
  refine returnsInHanded_of_change_and (C := Tryd.checked) (X := fun w _ => laidMetH Tryd.prog laid1 w) (fun _ _ _ hh h => h.of_heap hh) own started (by kernel_rfl) Tryd.func7
    (ChangeSpec.witness_shaped (enc := enc) (C := Tryd.checked) (os := os) (X := fun w _ => laidMetH Tryd.prog laid1 w) false (World.doorLaid Tryd.prog 400 os) #[.agg #[.slice none 0 0], .slice none 0 0, .slice none 0 0] 8 rfl (World.shaped_of_RefB (by kernel_rfl) (by kernel_rfl)) (by kernel_rfl) (by kernel_rfl) (by kernel_rfl) (door_met os _)) ?_
  intro W base args ds gs before hval0 hW _ _ hL _
  have hval : ∀ (j : Nat) t v, Tryd.f7.params[j]? = some t → args[j]? = some v → Value.okWide Tryd.prog W .any base t v := hval0
  have hW' := hW
  obtain ⟨p, q, hA0, hV, rfl, hfz, hnd⟩ := hW
  have hA : DataW.TrodAll enc Tryd.prog W 0 (fun _ => true) true [24, 25, 25] args.toList ds p := hA0
  obtain ⟨v0, vs0, d0, ds0, p0, q0, hargs, rfl, rfl, h0, r0⟩ := trodAll_cons hA
  obtain ⟨v1, vs1, d1, ds1, p1, q1, rfl, rfl, rfl, h1, r1⟩ := trodAll_cons r0
  obtain ⟨v2, vs2, d2, ds2, p2, q2, rfl, rfl, rfl, h2, r2⟩ := trodAll_cons r1
  obtain ⟨rfl, rfl, rfl⟩ := trodAll_nil r2
  obtain rfl : args = #[v0, v1, v2] := by cases args; simp_all
  obtain ⟨rfl, rfl⟩ := trodVars_none hV
  obtain ⟨L0, B0, G0, f0, lB0, wf0, A0⟩ := dag_arg hL (hval 0 24 v0 rfl rfl) h0
  have lt0 : ∀ x ∈ p0, x.block < W.heap.size := by obtain ⟨m, hm⟩ := h0; exact DataW.trod_lt m _ _ _ hm
  obtain ⟨L1, B1, G1, f1, lB1, wf1, A1⟩ := ints_arg hL u25 u3 c3 (hval 1 25 v1 rfl rfl) h1
  have lt1 : ∀ x ∈ p1, x.block < W.heap.size := by obtain ⟨m, hm⟩ := h1; exact DataW.trod_lt m _ _ _ hm
  obtain ⟨L2, B2, G2, f2, lB2, wf2, A2⟩ := ints_arg hL u25 u3 c3 (hval 2 25 v2 rfl rfl) h2
  have lt2 : ∀ x ∈ p2, x.block < W.heap.size := by obtain ⟨m, hm⟩ := h2; exact DataW.trod_lt m _ _ _ hm
  have hp0 : PartAt (B0 (0) ++ B1 (L0) ++ B2 (L0 + L1)) (0) (B0 (0)) := (part_left (part_left part_self))
  obtain ⟨ok0, ⟨s0, e0, R0⟩, q0_⟩ := A0 _ _ hp0
  rw [e0] at q0_
  have hp1 : PartAt (B0 (0) ++ B1 (L0) ++ B2 (L0 + L1)) (L0) (B1 (L0)) := (part_left (part_right (by simp only [List.length_append, lB0])))
  obtain ⟨ok1, K1, q1_⟩ := A1 _ _ hp1
  have hp2 : PartAt (B0 (0) ++ B1 (L0) ++ B2 (L0 + L1)) (L0 + L1) (B2 (L0 + L1)) := (part_right (by simp only [List.length_append, lB0, lB1]))
  obtain ⟨ok2, K2, q2_⟩ := A2 _ _ hp2
  refine (entry (args := #[.agg #[s0], f1 (L0), f2 (L0 + L1)]) (A := B0 (0) ++ B1 (L0) ++ B2 (L0 + L1)) hL ((fun a h => (List.mem_append.1 h).elim (fun h => ((fun a h => (List.mem_append.1 h).elim (fun h => (fun a h => ok0 a h) a h) (fun h => ok1 a h))) a h) (fun h => ok2 a h))) (arel_cons q0_ (arel_cons q1_ (arel_cons q2_ arel_nil))) ?_).mono ?_
  · obtain ⟨v, m, h, hv, _⟩ := spec_PlaysLaw (glob0 _) R0 K1.ints K2.ints
    exact ⟨v, m, h, hv⟩
  · rintro e W' ⟨rfl, bel⟩
    exact ⟨_, rfl, _, _, _, [], _, [], hW', trodAll_mk1 (shut_bool u4 _), (trodAll_cons_mk (Below.trod laidOut (by kernel_rfl) (of_decide_eq_true (by kernel_rfl)) h0 bel lt0) (trodAll_cons_mk (Below.trod laidOut (by kernel_rfl) (of_decide_eq_true (by kernel_rfl)) h1 bel lt1) (trodAll_cons_mk (Below.trod laidOut (by kernel_rfl) (of_decide_eq_true (by kernel_rfl)) h2 bel lt2) trodAll_mk0))), rfl, bel.frame _, fun h => by cases h⟩
theorem pebblePlays_holds : Rows.PebblePlaysSaid :=
  OpenClaim.holds_of_wide 7 Tryd.f7 rfl rfl rfl rfl rfl rfl rfl ⟨rfl, rfl, rfl, rfl, rfl⟩ rfl rfl rfl rfl rfl (by kernel_rfl) Tryd.func7 (by kernel_rfl)
    (of_decide_eq_true (by kernel_rfl)) (by unfold Func.isWrapper; first | (rw [if_pos (by decide +kernel)]; kernel_rfl) | (rw [if_neg (by decide +kernel)]; exact ⟨rfl, rfl⟩))
    (fun os started H enc _ => lifted7 os started H enc)
theorem pebblePlaysCard_holds : Rows.PebblePlaysCardSaid :=
  Claim7.holds_tied_plain_at .later [] [.funcs] true (true, "ce858395422f8cbcd8aed3de24083fc864afb25bfd2824151d547b4b065bfe95") false
    pebblePlays_holds (fun _ h => by cases h) (by kernel_rfl) (fun _ h => by cases h) pebblePlays_row_tie rfl ⟨rfl, rfl⟩ (by kernel_rfl) rfl
    (fun f fn hf hfn => by
      obtain rfl : f = 7 := Option.some.inj ((show Tryd.prog.funcNamed "spoondrift/spoondriftlaw09.PebblePlays" = some 7 by kernel_rfl).symm.trans hf) |>.symm
      obtain rfl : fn = Tryd.f7 := (Option.some.inj (Tryd.func7.symm.trans hfn)).symm
      exact ⟨by kernel_rfl, fun j t ht => by
        have hm : t ∈ [24, 25, 25] := by simpa using Array.mem_of_getElem? (show (#[24, 25, 25] : Array Nat)[j]? = some t from ht)
        have hall : ([24, 25, 25].all fun u => !Tryd.prog.wantsStandIn u) = true := by kernel_rfl
        exact (show Tryd.prog.wantsStandIn t = false by simpa using List.all_eq_true.1 hall t hm)⟩)
    (by kernel_rfl)
end Go.Proofs.YthfhbddnkgfhaaaDoor
