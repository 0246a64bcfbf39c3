/- BitsSolves: the walk, the row, the card. -/
import Derived.Test.YtgiidbomifmcaaaDoorRefB
import Derived.Test.YtgiidbomifmcaaaDoorBitsC
import Derived.Test.YtgiidbomifmcaaaDoorFacts
import Derived.Test.YtgiidbomifmcaaaDoorEntryB
import Derived.Carry
import Derived.Test.YtgiidbomifmcaaaDoorTie
import Derived.Test.YtgiidbomifmcaaaDoorCards
set_option linter.unusedVariables false
set_option linter.unusedSimpArgs false
/-! ### E32 -/
namespace Go.AM
open Go.Proofs
set_option maxRecDepth 100000
set_option linter.unusedVariables false
set_option linter.unusedSimpArgs false
theorem kall22 : callable Tryd.prog 22 = true := by kernel_rfl

theorem okf3 : okF Tryd.prog H0 3 77 = true := by kernel_rfl
theorem spec_BitsSolves {m : Mem} {a : Value} {l : List Int} {n b x : Int} (hG : Glob m) (ha : IntsAt m a l) : ∃ v m', ACalls Tryd.prog 3 #[a, .int .i64 n, .int .i64 b, .int .i64 x] m v m' ∧ (v = .bool true ∧ True) := by
  have hgr := spec_great ha
  obtain ⟨q, cap, rfl⟩ := ha.len
  refine wpF (args := [_, _, _, _]) mixed okf3 (fn := Tryd.f3) rfl rfl rfl (by simp) ?_
  refine cSeq ?_
  refine cRegion ?_
  refine sAs (v := .bool false) rfl ?_
  refine sNil (kSeqN ?_)
  refine cSeq ?_   -- seq 1
  refine cSeq ?_
  refine cRegion ?_
  refine sMv (v := .slice _ _ _) rfl ?_
  refine sCall1 rfl call16 rfl hgr ?_
  refine sNil (kSeqN ?_)
  refine cCond rfl (fun c0 => ?_) (fun c0 => ?_)
  ·
    refine cSeq ?_
    refine cRegion ?_
    obtain ⟨v24, m24, h24, rfl, e24⟩ := spec_awake hG
    refine sCall0 rfl call17 h24 ?_
    refine sAs (v := .bool true) rfl ?_
    refine sNil (kSeqN ?_)
    refine cRet (kSeqR ?_)
    exact ⟨.inr rfl, _, rfl, rfl, trivial⟩
  ·
    have hl : l.length ≤ 40 := by simpa using c0
    refine cSkip (kSeqN ?_)
    refine cSeq ?_
    refine cRegion ?_
    refine sMv (v := .slice _ _ _) rfl ?_
    obtain ⟨v26, m26, h26, o26, e26⟩ := spec_Clone ha (by omega)
    have i26 := o26.ints
    obtain ⟨q26, c26, rfl⟩ := i26.len
    refine sCall1 rfl call18 rfl h26 ?_
    refine sAs (v := .slice _ _ _) rfl ?_
    refine sNil (kSeqN ?_)
    refine cSeq ?_
    refine cRegion ?_
    refine sMv (v := .slice _ _ _) rfl ?_
    refine sMv (v := .int _ _) rfl ?_
    refine sMv (v := .int _ _) rfl ?_
    obtain ⟨v27, m27, h27, rfl, e27⟩ := spec_refSolve (n := n) (b := b) (ha.ext e26) (by omega)
    refine sCall3 rfl call19 rfl rfl rfl h27 ?_
    refine sMv (v := .tuple _) rfl ?_
    refine sP (v := nv _) rfl ?_   -- extract ['t23', '0']
    refine sP (v := nv _) rfl ?_   -- extract ['t23', '1']
    refine sAs (v := nv _) rfl ?_
    refine sAs (v := nv _) rfl ?_
    refine sNil (kSeqN ?_)
    refine cSeq ?_
    refine cRegion ?_
    refine sMv (v := .slice _ _ _) rfl ?_
    refine sMv (v := .int _ _) rfl ?_
    refine sMv (v := .int _ _) rfl ?_
    obtain ⟨v34, m34, h34, rfl, e34⟩ := spec_refApply (n := n) (row := x) ((ha.ext e26).ext e27) (by omega)
    refine sCall3 rfl call20 rfl rfl rfl h34 ?_
    refine sMv (v := .tuple _) rfl ?_
    refine sP (v := nv _) rfl ?_   -- extract ['t30', '0']
    refine sP (v := nv _) rfl ?_   -- extract ['t30', '1']
    refine sAs (v := nv _) rfl ?_
    refine sAs (v := nv _) rfl ?_
    refine sNil (kSeqN ?_)
    refine cSeq ?_
    refine cRegion ?_
    refine sMv (v := .slice _ _ _) rfl ?_
    refine sMv (v := .int _ _) rfl ?_
    refine sMv (v := .int _ _) rfl ?_
    obtain ⟨v41, m41, h41, rfl, e41⟩ := spec_Solve (n := n) (b := b) (i26.ext (e27.trans e34)) (by omega)
    refine sCall3 rfl call21 rfl rfl rfl h41 ?_
    refine sMv (v := .tuple _) rfl ?_
    refine sP (v := nv _) rfl ?_   -- extract ['t37', '0']
    refine sP (v := nv _) rfl ?_   -- extract ['t37', '1']
    refine sAs (v := nv _) rfl ?_
    refine sAs (v := nv _) rfl ?_
    refine sNil (kSeqN ?_)
    refine cSeq ?_
    refine cRegion ?_
    refine sMv (v := .slice _ _ _) rfl ?_
    refine sMv (v := .int _ _) rfl ?_
    refine sMv (v := .int _ _) rfl ?_
    have z41 := (e27.trans e34).trans e41
    obtain ⟨v48, m48, h48, rfl, e48⟩ := spec_Apply (n := n) (row := x) (i26.ext z41) (by omega)
    have z48 := z41.trans e48
    refine sCall3 rfl kall22 rfl rfl rfl h48 ?_
    refine sMv (v := .tuple _) rfl ?_
    refine sP (v := nv _) rfl ?_   -- extract ['t44', '0']
    refine sP (v := nv _) rfl ?_   -- extract ['t44', '1']
    refine sAs (v := nv _) rfl ?_
    refine sAs (v := nv _) rfl ?_
    refine sNil (kSeqN ?_)
    refine cSeq ?_
    refine cRegion ?_
    refine sMv (v := nv _) rfl ?_
    refine sMv (v := nv _) rfl ?_
    refine sBin (v := .bool true) (a := ifOk (solveE l n b) (whichM (turnedM (nats l) n.toNat) b.toNat).2 0) (b := ifOk (solveE l n b) (whichM (turnedM (nats l) n.toNat) b.toNat).2 0) rfl rfl (by rw [aInt_eql, decide_eq_true rfl]) ?_
    refine sMv (v := .bool true) rfl ?_
    refine sG rfl rfl ?_
    refine sMv (v := nv _) rfl ?_
    refine sG rfl rfl ?_
    refine sMv (v := nv _) rfl ?_
    refine sG rfl rfl ?_
    refine sBin (v := .bool true) (a := solveE l n b) (b := solveE l n b) rfl rfl (by rw [aInt_eql, decide_eq_true rfl]) ?_
    refine sP (v := .bool true) rfl ?_
    refine sMv (v := .bool true) rfl ?_
    refine sG rfl rfl ?_
    refine sMv (v := nv _) rfl ?_
    refine sG rfl rfl ?_
    refine sMv (v := nv _) rfl ?_
    refine sG rfl rfl ?_
    refine sBin (v := .bool true) (a := ifOk (oneF l n x) (total (turnedM (nats l) n.toNat) x.toNat) 0) (b := ifOk (oneF l n x) (total (turnedM (nats l) n.toNat) x.toNat) 0) rfl rfl (by rw [aInt_eql, decide_eq_true rfl]) ?_
    refine sP (v := .bool true) rfl ?_
    refine sMv (v := .bool true) rfl ?_
    refine sG rfl rfl ?_
    refine sMv (v := nv _) rfl ?_
    refine sG rfl rfl ?_
    refine sMv (v := nv _) rfl ?_
    refine sG rfl rfl ?_
    refine sBin (v := .bool true) (a := oneF l n x) (b := oneF l n x) rfl rfl (by rw [aInt_eql, decide_eq_true rfl]) ?_
    refine sP (v := .bool true) rfl ?_
    refine sMv (v := .bool true) rfl ?_
    refine sG rfl rfl ?_
    refine sMv (v := .slice _ _ _) rfl ?_
    refine sG rfl rfl ?_
    refine sMv (v := .slice _ _ _) rfl ?_
    refine sG rfl rfl ?_
    have h72 := spec_Equal (i26.ext z48) ((ha.ext e26).ext z48) (by omega)
    rw [decide_eq_true rfl] at h72
    refine sCall2 rfl call23 rfl rfl h72 ?_
    refine sP (v := .bool true) rfl ?_
    refine sMv (v := .bool true) rfl ?_
    refine sG rfl rfl ?_
    obtain ⟨v75, m75, h75, rfl, e75⟩ := spec_awake (hG.ext (e26.trans z48))
    refine sCall0 rfl call17 h75 ?_
    refine sP (v := .bool true) rfl ?_
    refine sAs (v := .bool true) rfl ?_
    refine sNil (kSeqN ?_)
    refine cRet ?_
    exact ⟨.inr rfl, _, rfl, rfl, trivial⟩

end Go.AM

/-! ### F5 -/
namespace Go.Proofs.YtgiidbomifmcaaaDoor
open Go Go.AM Go.ChangeShapes Go.WideShapes Go.ChangeAt Go.WideMaps Go.WideElems Go.RowKit
set_option maxRecDepth 100000
set_option linter.unusedVariables false
theorem own : ownKnob Tryd.prog.godebug = none := by kernel_rfl
/-- The door's own heap meets the condition: three closed facts. -/
theorem door_met (os : Os) (args : Array Value) : laidMetH Tryd.prog laid3 ((World.doorLaid Tryd.prog 400 os).forCall (fun _ _ => 0) ⟨#[], args, []⟩).memory :=
  laidMetH_of_parts3 (fuel := 8) (laidMet_of_run' 8 (by kernel_rfl) (by kernel_rfl)) (by kernel_rfl) (by kernel_rfl)
theorem lifted3 (os : Os) (started : os.Started) (H : Type) (enc : TypeId × Value → H) :
    ReturnsInHanded {} Tryd.checked os 3 .any (fun w args => (Rows.bitsSolvesSpec.pre enc Tryd.prog Tryd.f3 [] false w args ∧ laidMetH Tryd.prog laid3 w) ∧ sizedMet enc Tryd.prog Tryd.f3 (OpenSpec.ofChange Rows.bitsSolvesSpec) false w args)
      (Rows.bitsSolvesSpec.post enc Tryd.prog Tryd.f3 false true false false) := by
  refine returnsInHanded_of_change_and (C := Tryd.checked) (X := fun w _ => laidMetH Tryd.prog laid3 w) (fun _ _ _ hh h => h.of_heap hh) own started (by kernel_rfl) Tryd.func3
    (ChangeSpec.witness_shaped (enc := enc) (C := Tryd.checked) (os := os) (X := fun w _ => laidMetH Tryd.prog laid3 w) false (World.doorLaid Tryd.prog 400 os) #[.slice none 0 0, .int .i64 0, .int .i64 0, .int .i64 0] 8 rfl (World.shaped_of_RefB (by kernel_rfl) (by kernel_rfl)) (by kernel_rfl) (by kernel_rfl) (by kernel_rfl) (door_met os _)) ?_
  intro W base args ds gs before hval0 hW _ _ hL _
  have hval : ∀ (j : Nat) t v, Tryd.f3.params[j]? = some t → args[j]? = some v → Value.okWide Tryd.prog W .any base t v := hval0
  have hW' := hW
  obtain ⟨p, q, hA0, hV, rfl, hfz, hnd⟩ := hW
  have hA : DataW.TrodAll enc Tryd.prog W 0 (fun _ => true) true [22, 3, 3, 3] args.toList ds p := hA0
  obtain ⟨v0, vs0, d0, ds0, p0, q0, hargs, rfl, rfl, h0, r0⟩ := trodAll_cons hA
  obtain ⟨v1, vs1, d1, ds1, p1, q1, rfl, rfl, rfl, h1, r1⟩ := trodAll_cons r0
  obtain ⟨v2, vs2, d2, ds2, p2, q2, rfl, rfl, rfl, h2, r2⟩ := trodAll_cons r1
  obtain ⟨v3, vs3, d3, ds3, p3, q3, rfl, rfl, rfl, h3, r3⟩ := trodAll_cons r2
  obtain ⟨rfl, rfl, rfl⟩ := trodAll_nil r3
  obtain rfl : args = #[v0, v1, v2, v3] := by cases args; simp_all
  obtain ⟨rfl, rfl⟩ := trodVars_none hV
  obtain ⟨a0, l0, f0, ok0, wf0, A0⟩ := ints_arg hL u22 u3 c3 (hval 0 22 v0 rfl rfl) h0
  have lt0 : ∀ x ∈ p0, x.block < W.heap.size := by obtain ⟨m, hm⟩ := h0; exact DataW.trod_lt m _ _ _ hm
  obtain ⟨n1, rfl, rfl, rfl, w1⟩ := open_int u3 (hval 1 3 v1 rfl rfl) h1
  obtain ⟨n2, rfl, rfl, rfl, w2⟩ := open_int u3 (hval 2 3 v2 rfl rfl) h2
  obtain ⟨n3, rfl, rfl, rfl, w3⟩ := open_int u3 (hval 3 3 v3 rfl rfl) h3
  refine (entry (args := #[f0 0, .int .i64 n1, .int .i64 n2, .int .i64 n3]) (A := [a0]) hL (by intro a ha; simp only [List.mem_cons, List.not_mem_nil, or_false] at ha; rcases ha with rfl <;> assumption) (fun bm => (arel_cons ((A0 _ 0 rfl).2 bm) (arel_cons (.int _ _) (arel_cons (.int _ _) (arel_cons (.int _ _) arel_nil))))) (fun b => ?_)).mono ?_
  · obtain ⟨v, m, h, hv, _⟩ := spec_BitsSolves (glob0 b _) ((A0 [a0] 0 rfl).1 b).ints
    exact ⟨v, m, h, hv⟩
  · rintro e W' ⟨rfl, bel⟩
    exact ⟨_, rfl, _, _, _, [], _, [], hW', trodAll_mk1 (shut_bool u4 _), (trodAll_cons_mk (Below.trod laidOut (by kernel_rfl) (of_decide_eq_true (by kernel_rfl)) h0 bel lt0) (trodAll_cons_mk (shut_int u3 w1) (trodAll_cons_mk (shut_int u3 w2) (trodAll_cons_mk (shut_int u3 w3) trodAll_mk0)))), rfl, bel.frame _, fun h => by cases h⟩
theorem bitsSolves_holds : Rows.BitsSolvesSaid :=
  OpenClaim.holds_of_wide 3 Tryd.f3 rfl rfl rfl rfl rfl rfl rfl ⟨rfl, rfl, rfl, rfl, rfl⟩ rfl rfl rfl rfl rfl (by kernel_rfl) Tryd.func3 (by kernel_rfl)
    (of_decide_eq_true (by kernel_rfl)) (by unfold Func.isWrapper; first | (rw [if_pos (by decide +kernel)]; kernel_rfl) | (rw [if_neg (by decide +kernel)]; exact ⟨rfl, rfl⟩))
    (fun os started H enc _ => lifted3 os started H enc)
theorem bitsSolvesCard_holds : Rows.BitsSolvesCardSaid :=
  Claim7.holds_tied_plain_at .later [] [.data, .data, .funcs] true (true, "4e90e708c3a0b8b9bd838c7bc74774a1a5a946fb69b32deeeece4d3212f6d5ce") false
    bitsSolves_holds (fun _ h => by cases h) (by kernel_rfl) (fun _ h => by cases h) bitsSolves_row_tie rfl ⟨rfl, rfl⟩ (by kernel_rfl) rfl
    (fun f fn hf hfn => by
      obtain rfl : f = 3 := Option.some.inj ((show Tryd.prog.funcNamed "spoondrift/spoondriftlaw02.BitsSolves" = some 3 by kernel_rfl).symm.trans hf) |>.symm
      obtain rfl : fn = Tryd.f3 := (Option.some.inj (Tryd.func3.symm.trans hfn)).symm
      exact ⟨by kernel_rfl, fun j t ht => by
        have hm : t ∈ [22, 3, 3, 3] := by simpa using Array.mem_of_getElem? (show (#[22, 3, 3, 3] : Array Nat)[j]? = some t from ht)
        have hall : ([22, 3, 3, 3].all fun u => !Tryd.prog.wantsStandIn u) = true := by kernel_rfl
        exact (show Tryd.prog.wantsStandIn t = false by simpa using List.all_eq_true.1 hall t hm)⟩)
    (by kernel_rfl)
end Go.Proofs.YtgiidbomifmcaaaDoor
