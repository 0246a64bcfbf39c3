/- RevLeaves: of which state a circuit leaves something behind on ancillas, or on wires that it borrows, and the circuit that keeps some wires, or the errors, are as the reference tells; nothing that is passed in is changed, nor shared. Conditions: none. -/
import Derived.Test.YtdokoekgdeebpaaDoorPartG
import Derived.Test.YtdokoekgdeebpaaDoorPartH
import Derived.ChangeSlices
import Derived.WideShapes
import Derived.OpenShut
import Derived.Carry
import Derived.Test.YtdokoekgdeebpaaDoorTie
import Derived.Test.YtdokoekgdeebpaaDoorCards
set_option linter.unusedVariables false
set_option linter.unusedSimpArgs false
set_option maxRecDepth 100000
/-! F68 -/
namespace Go.Proofs.YtdokoekgdeebpaaDoor
open Go Go.AM Go.ChangeShapes Go.WideShapes Go.ChangeAt Go.WideMaps Go.WideElems Go.RowKit
theorem own : ownKnob Tryd.prog.godebug = none := by kernel_rfl
/-- The door's own heap meets the condition: three closed facts. -/
theorem door_met (os : Os) (args : Array Value) : laidMetH Tryd.prog laid1 ((World.doorLaid Tryd.prog 400 os).forCall (fun _ _ => 0) ⟨#[], args, []⟩).memory :=
 laidMetH_of_parts3 (fuel := 8) (laidMet_of_run' 8 (by kernel_rfl) (by kernel_rfl)) (by kernel_rfl) (by kernel_rfl)
theorem lifted7 (os : Os) (started : os.Started) (H : Type) (enc : TypeId × Value → H) :
  ReturnsInHanded {} Tryd.checked os 7 .any (fun w args => (Rows.revLeavesSpec.pre enc Tryd.prog Tryd.f7 [] false w args ∧ laidMetH Tryd.prog laid1 w) ∧ sizedMet enc Tryd.prog Tryd.f7 (OpenSpec.ofChange Rows.revLeavesSpec) false w args)
   (Rows.revLeavesSpec.post enc Tryd.prog Tryd.f7 false true false false) := by
 refine returnsInHanded_of_change_and (C := Tryd.checked) (X := fun w _ => laidMetH Tryd.prog laid1 w) (fun _ _ _ hh h => h.of_heap hh) own started (by kernel_rfl) Tryd.func7
  (ChangeSpec.witness_shaped (enc := enc) (C := Tryd.checked) (os := os) (X := fun w _ => laidMetH Tryd.prog laid1 w) false (World.doorLaid Tryd.prog 400 os) #[.agg #[.int .i64 0, .int .i64 0, .slice none 0 0], .slice none 0 0] 8 rfl (World.shaped_of_RefB (by kernel_rfl) (by kernel_rfl)) (by kernel_rfl) (by kernel_rfl) (by kernel_rfl) (door_met os _)) ?_
 intro W base args ds gs before hval0 hW _ _ hL _
 have hval : ∀ (j : Nat) t v, Tryd.f7.params[j]? = some t → args[j]? = some v → Value.okWide Tryd.prog W .any base t v := hval0
 have hW' := hW
 obtain ⟨p, q, hA0, hV, rfl, hfz, hnd⟩ := hW
 have hA : DataW.TrodAll enc Tryd.prog W 0 (fun _ => true) true [30, 22] args.toList ds p := hA0
 obtain ⟨v0, vs0, d0, ds0, p0, q0, hargs, rfl, rfl, h0, r0⟩ := trodAll_cons hA
 obtain ⟨v1, vs1, d1, ds1, p1, q1, rfl, rfl, rfl, h1, r1⟩ := trodAll_cons r0
 obtain ⟨rfl, rfl, rfl⟩ := trodAll_nil r1
 obtain rfl : args = #[v0, v1] := by cases args; simp_all
 obtain ⟨rfl, rfl⟩ := trodVars_none hV
 obtain ⟨L0, B0, nc0, bc0, G0, f0, lB0, A0⟩ := circ_arg hL (hval 0 30 v0 rfl rfl) h0
 have lt0 : ∀ x ∈ p0, x.block < W.heap.size := by obtain ⟨m, hm⟩ := h0; exact DataW.trod_lt m _ _ _ hm
 obtain ⟨L1, B1, G1, f1, lB1, wf1, A1⟩ := ints_arg hL u22 u3 c3 (hval 1 22 v1 rfl rfl) h1
 have lt1 : ∀ x ∈ p1, x.block < W.heap.size := by obtain ⟨m, hm⟩ := h1; exact DataW.trod_lt m _ _ _ hm
 obtain ⟨am, hK⟩ := kinds_ex hL
 have hp0 : PartAt (([am] ++ B0 (1)) ++ B1 (1 + L0)) (1) (B0 (1)) := (part_left (part_right rfl))
 obtain ⟨ok0, K0, q0_⟩ := A0 _ _ hp0
 have hp1 : PartAt (([am] ++ B0 (1)) ++ B1 (1 + L0)) (1 + L0) (B1 (1 + L0)) := (part_right (by simp only [List.length_append, lB0]; rfl))
 obtain ⟨ok1, K1, q1_⟩ := A1 _ _ hp1
 refine (entry (args := #[.agg #[.int .i64 nc0, .int .i64 bc0, f0 (1)], f1 (1 + L0)]) (A := ([am] ++ B0 (1)) ++ B1 (1 + L0)) hL hK rfl (fun a => (fun h => (List.mem_append.1 h).elim (fun h => (List.mem_append.1 h).elim (fun h => by rw [List.mem_singleton.1 h]; exact hK.ok _) (fun h => ok0 a h)) (fun h => ok1 a h))) (arel_cons q0_ (arel_cons q1_ arel_nil)) ?_).mono ?_
 ·obtain ⟨v, m, h, hv, _⟩ := spec_LeavesLaw (globK0 hK rfl) (globW0 _) K0 K1.ints
  exact ⟨v, m, h, hv⟩
 ·rintro e W' ⟨rfl, bel⟩
  exact ⟨_, rfl, _, _, _, [], _, [], hW', trodAll_mk1 (shut_bool u4 _), (trodAll_cons_mk (Below.trod laidOut (by kernel_rfl) (of_decide_eq_true (by kernel_rfl)) h0 bel lt0) (trodAll_cons_mk (Below.trod laidOut (by kernel_rfl) (of_decide_eq_true (by kernel_rfl)) h1 bel lt1) trodAll_mk0)), rfl, bel.frame _, fun h => by cases h⟩
theorem revLeaves_holds : Rows.RevLeavesSaid :=
 OpenClaim.holds_of_wide 7 Tryd.f7 rfl rfl rfl rfl rfl rfl rfl ⟨rfl, rfl, rfl, rfl, rfl⟩ rfl rfl rfl rfl rfl (by kernel_rfl) Tryd.func7 (by kernel_rfl)
  (of_decide_eq_true (by kernel_rfl)) (by unfold Func.isWrapper; first | (rw [if_pos (by decide +kernel)]; kernel_rfl) | (rw [if_neg (by decide +kernel)]; exact ⟨rfl, rfl⟩))
  (fun os started H enc _ => lifted7 os started H enc)
theorem revLeavesCard_holds : Rows.RevLeavesCardSaid :=
 Claim7.holds_tied_plain_at .later [] [.funcs, .data] true (true, "82f04ec142af950f43eca956d8f5d45b7c319077b628a7d9effb20902b21d1a4") false
  revLeaves_holds (fun _ h => by cases h) (by kernel_rfl) (fun _ h => by cases h) revLeaves_row_tie rfl ⟨rfl, rfl⟩ (by kernel_rfl) rfl
  (fun f fn hf hfn => by
   obtain rfl : f = 7 := Option.some.inj ((show Tryd.prog.funcNamed "spoondrift/spoondriftlaw08.RevLeaves" = some 7 by kernel_rfl).symm.trans hf) |>.symm
   obtain rfl : fn = Tryd.f7 := (Option.some.inj (Tryd.func7.symm.trans hfn)).symm
   exact ⟨by kernel_rfl, fun j t ht => by
    have hm : t ∈ [30, 22] := by simpa using Array.mem_of_getElem? (show (#[30, 22] : Array Nat)[j]? = some t from ht)
    have hall : ([30, 22].all fun u => !Tryd.prog.wantsStandIn u) = true := by kernel_rfl
    exact (show Tryd.prog.wantsStandIn t = false by simpa using List.all_eq_true.1 hall t hm)⟩)
  (by kernel_rfl)
end Go.Proofs.YtdokoekgdeebpaaDoor
