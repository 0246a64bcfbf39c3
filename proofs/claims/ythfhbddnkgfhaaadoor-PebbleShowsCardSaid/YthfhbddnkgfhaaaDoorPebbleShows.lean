/- Positions that are reached, and what shows that fewer pebbles do not do, are the reference's in the package pebble; graphs of at most 14 nodes that need at most 5 others, at most 20 goals and 1,100 positions are compared; no condition. -/
import Derived.Test.YthfhbddnkgfhaaaDoorPartH
import Derived.ChangeSlices
import Derived.WideShapes
import Derived.OpenShut
import Derived.Carry
import Derived.Test.YthfhbddnkgfhaaaDoorTie
import Derived.Test.YthfhbddnkgfhaaaDoorCards
set_option linter.unusedVariables false
set_option linter.unusedSimpArgs false
/-! ### F26 -/
namespace Go.Proofs.YthfhbddnkgfhaaaDoor
open Go Go.AM Go.ChangeShapes Go.WideShapes Go.ChangeAt Go.WideMaps Go.WideElems Go.RowKit
set_option maxRecDepth 100000
set_option linter.unusedVariables false
theorem own : ownKnob Tryd.prog.godebug = none := by kernel_rfl
/-- The door's own heap meets the condition: three closed facts. -/
theorem door_met (os : Os) (args : Array Value) : laidMetH Tryd.prog laid1 ((World.doorLaid Tryd.prog 400 os).forCall (fun _ _ => 0) ⟨#[], args, []⟩).memory :=
  laidMetH_of_parts3 (fuel := 8) (laidMet_of_run' 8 (by kernel_rfl) (by kernel_rfl)) (by kernel_rfl) (by kernel_rfl)
theorem lifted4 (os : Os) (started : os.Started) (H : Type) (enc : TypeId × Value → H) :
    ReturnsInHanded {} Tryd.checked os 4 .any (fun w args => (Rows.pebbleShowsSpec.pre enc Tryd.prog Tryd.f4 [] false w args ∧ laidMetH Tryd.prog laid1 w) ∧ sizedMet enc Tryd.prog Tryd.f4 (OpenSpec.ofChange Rows.pebbleShowsSpec) false w args)
      (Rows.pebbleShowsSpec.post enc Tryd.prog Tryd.f4 false true false false) := by
  refine returnsInHanded_of_change_and (C := Tryd.checked) (X := fun w _ => laidMetH Tryd.prog laid1 w) (fun _ _ _ hh h => h.of_heap hh) own started (by kernel_rfl) Tryd.func4
    (ChangeSpec.witness_shaped (enc := enc) (C := Tryd.checked) (os := os) (X := fun w _ => laidMetH Tryd.prog laid1 w) false (World.doorLaid Tryd.prog 400 os) #[.agg #[.slice none 0 0], .slice none 0 0, .int .i64 0, .slice none 0 0] 8 rfl (World.shaped_of_RefB (by kernel_rfl) (by kernel_rfl)) (by kernel_rfl) (by kernel_rfl) (by kernel_rfl) (door_met os _)) ?_
  intro W base args ds gs before hval0 hW _ _ hL _
  have hval : ∀ (j : Nat) t v, Tryd.f4.params[j]? = some t → args[j]? = some v → Value.okWide Tryd.prog W .any base t v := hval0
  have hW' := hW
  obtain ⟨p, q, hA0, hV, rfl, hfz, hnd⟩ := hW
  have hA : DataW.TrodAll enc Tryd.prog W 0 (fun _ => true) true [24, 25, 3, 25] args.toList ds p := hA0
  obtain ⟨v0, vs0, d0, ds0, p0, q0, hargs, rfl, rfl, h0, r0⟩ := trodAll_cons hA
  obtain ⟨v1, vs1, d1, ds1, p1, q1, rfl, rfl, rfl, h1, r1⟩ := trodAll_cons r0
  obtain ⟨v2, vs2, d2, ds2, p2, q2, rfl, rfl, rfl, h2, r2⟩ := trodAll_cons r1
  obtain ⟨v3, vs3, d3, ds3, p3, q3, rfl, rfl, rfl, h3, r3⟩ := trodAll_cons r2
  obtain ⟨rfl, rfl, rfl⟩ := trodAll_nil r3
  obtain rfl : args = #[v0, v1, v2, v3] := by cases args; simp_all
  obtain ⟨rfl, rfl⟩ := trodVars_none hV
  obtain ⟨L0, B0, G0, f0, lB0, wf0, A0⟩ := dag_arg hL (hval 0 24 v0 rfl rfl) h0
  have lt0 : ∀ x ∈ p0, x.block < W.heap.size := by obtain ⟨m, hm⟩ := h0; exact DataW.trod_lt m _ _ _ hm
  obtain ⟨L1, B1, G1, f1, lB1, wf1, A1⟩ := ints_arg hL u25 u3 c3 (hval 1 25 v1 rfl rfl) h1
  have lt1 : ∀ x ∈ p1, x.block < W.heap.size := by obtain ⟨m, hm⟩ := h1; exact DataW.trod_lt m _ _ _ hm
  obtain ⟨n2, rfl, rfl, rfl, w2⟩ := open_int u3 (hval 2 3 v2 rfl rfl) h2
  obtain ⟨L3, B3, G3, f3, lB3, wf3, A3⟩ := ints_arg hL u25 u3 c3 (hval 3 25 v3 rfl rfl) h3
  have lt3 : ∀ x ∈ p3, x.block < W.heap.size := by obtain ⟨m, hm⟩ := h3; exact DataW.trod_lt m _ _ _ hm
  have hp0 : PartAt (B0 (0) ++ B1 (L0) ++ B3 (L0 + L1)) (0) (B0 (0)) := (part_left (part_left part_self))
  obtain ⟨ok0, ⟨s0, e0, R0⟩, q0_⟩ := A0 _ _ hp0
  rw [e0] at q0_
  have hp1 : PartAt (B0 (0) ++ B1 (L0) ++ B3 (L0 + L1)) (L0) (B1 (L0)) := (part_left (part_right (by simp only [List.length_append, lB0])))
  obtain ⟨ok1, K1, q1_⟩ := A1 _ _ hp1
  have hp3 : PartAt (B0 (0) ++ B1 (L0) ++ B3 (L0 + L1)) (L0 + L1) (B3 (L0 + L1)) := (part_right (by simp only [List.length_append, lB0, lB1]))
  obtain ⟨ok3, K3, q3_⟩ := A3 _ _ hp3
  refine (entry (args := #[.agg #[s0], f1 (L0), .int .i64 n2, f3 (L0 + L1)]) (A := B0 (0) ++ B1 (L0) ++ B3 (L0 + L1)) hL ((fun a h => (List.mem_append.1 h).elim (fun h => ((fun a h => (List.mem_append.1 h).elim (fun h => (fun a h => ok0 a h) a h) (fun h => ok1 a h))) a h) (fun h => ok3 a h))) (arel_cons q0_ (arel_cons q1_ (arel_cons (.int _ _) (arel_cons q3_ arel_nil)))) ?_).mono ?_
  · obtain ⟨v, m, h, hv, _⟩ := spec_ShowsLaw (k := n2) (glob0 _) R0 K1.ints K3.ints
    exact ⟨v, m, h, hv⟩
  · rintro e W' ⟨rfl, bel⟩
    exact ⟨_, rfl, _, _, _, [], _, [], hW', trodAll_mk1 (shut_bool u4 _), (trodAll_cons_mk (Below.trod laidOut (by kernel_rfl) (of_decide_eq_true (by kernel_rfl)) h0 bel lt0) (trodAll_cons_mk (Below.trod laidOut (by kernel_rfl) (of_decide_eq_true (by kernel_rfl)) h1 bel lt1) (trodAll_cons_mk (shut_int u3 w2) (trodAll_cons_mk (Below.trod laidOut (by kernel_rfl) (of_decide_eq_true (by kernel_rfl)) h3 bel lt3) trodAll_mk0)))), rfl, bel.frame _, fun h => by cases h⟩
theorem pebbleShows_holds : Rows.PebbleShowsSaid :=
  OpenClaim.holds_of_wide 4 Tryd.f4 rfl rfl rfl rfl rfl rfl rfl ⟨rfl, rfl, rfl, rfl, rfl⟩ rfl rfl rfl rfl rfl (by kernel_rfl) Tryd.func4 (by kernel_rfl)
    (of_decide_eq_true (by kernel_rfl)) (by unfold Func.isWrapper; first | (rw [if_pos (by decide +kernel)]; kernel_rfl) | (rw [if_neg (by decide +kernel)]; exact ⟨rfl, rfl⟩))
    (fun os started H enc _ => lifted4 os started H enc)
theorem pebbleShowsCard_holds : Rows.PebbleShowsCardSaid :=
  Claim7.holds_tied_plain_at .later [] [.funcs] true (true, "ce858395422f8cbcd8aed3de24083fc864afb25bfd2824151d547b4b065bfe95") false
    pebbleShows_holds (fun _ h => by cases h) (by kernel_rfl) (fun _ h => by cases h) pebbleShows_row_tie rfl ⟨rfl, rfl⟩ (by kernel_rfl) rfl
    (fun f fn hf hfn => by
      obtain rfl : f = 4 := Option.some.inj ((show Tryd.prog.funcNamed "spoondrift/spoondriftlaw09.PebbleShows" = some 4 by kernel_rfl).symm.trans hf) |>.symm
      obtain rfl : fn = Tryd.f4 := (Option.some.inj (Tryd.func4.symm.trans hfn)).symm
      exact ⟨by kernel_rfl, fun j t ht => by
        have hm : t ∈ [24, 25, 3, 25] := by simpa using Array.mem_of_getElem? (show (#[24, 25, 3, 25] : Array Nat)[j]? = some t from ht)
        have hall : ([24, 25, 3, 25].all fun u => !Tryd.prog.wantsStandIn u) = true := by kernel_rfl
        exact (show Tryd.prog.wantsStandIn t = false by simpa using List.all_eq_true.1 hall t hm)⟩)
    (by kernel_rfl)
end Go.Proofs.YthfhbddnkgfhaaaDoor
