/- BitsSpans: the walk, the row, the card. -/
import Derived.Test.YtgiidbomifmcaaaDoorRef
import Derived.Test.YtgiidbomifmcaaaDoorBitsC
import Derived.Test.YtgiidbomifmcaaaDoorEntryB
import Derived.Carry
import Derived.Test.YtgiidbomifmcaaaDoorTie
import Derived.Test.YtgiidbomifmcaaaDoorCards
set_option linter.unusedVariables false
set_option linter.unusedSimpArgs false
/-! ### E30 -/
namespace Go.AM
open Go.Proofs
set_option maxRecDepth 100000
set_option linter.unusedVariables false
set_option linter.unusedSimpArgs false
theorem kall40 : callable Tryd.prog 40 = true := by kernel_rfl
theorem kall60 : callable Tryd.prog 60 = true := by kernel_rfl
theorem kall59 : callable Tryd.prog 59 = true := by kernel_rfl
theorem Mid.ext {N B : Nat} {m0 m m' : Mem} (h : Mid N B m m') (he : Ext m0 m) (hN : m0.size ≤ N) : Ext m0 m' := ⟨by rw [h.1]; exact he.1, fun b hb => (h.2 b (.inl (by omega))).trans (he.2 b hb)⟩
theorem Mid.own {N N' B : Nat} {m m' : Mem} {v : Value} {l : List Int} (h : Mid N B m m') (ho : OwnF N' m v l) (hB : B ≤ N') : OwnF N' m' v l :=
  ho.up fun b hb _ => h.2 b (.inr (by omega))
theorem ifOk_len {e : Nat} {l : List Nat} (h : l.length ≤ 24) : (ifOk e l []).length < 1000 := by
  unfold ifOk; split
  · omega
  · exact Nat.zero_lt_succ 999
theorem ifOk_len' {a : List Int} {n : Int} {l : List Nat} (h : checkF a n = 0 → l.length ≤ 24) : (ifOk (checkF a n) l []).length < 1000 := by
  unfold ifOk; split
  · have := h (by assumption); omega
  · exact Nat.zero_lt_succ 999
theorem checkF_le {l : List Int} {n : Int} (h : checkF l n = 0) : n.toNat ≤ 16 := by
  obtain ⟨N, L, rfl, rfl, h1, h2, _⟩ := checkF_nat h; simpa using h2

theorem okf9 : okF Tryd.prog H0 9 121 = true := by kernel_rfl
theorem spec_BitsSpans {m : Mem} {a : Value} {l : List Int} {n : Int} (hG : Glob m) (ha : IntsAt m a l) : ∃ v m', ACalls Tryd.prog 9 #[a, .int .i64 n] m v m' ∧ (v = .bool true ∧ True) := by
  have hgr := spec_great ha
  obtain ⟨q, cap, rfl⟩ := ha.len
  refine wpF (args := [_, _]) mixed okf9 (fn := Tryd.f9) rfl rfl rfl (by simp) ?_
  refine cSeq ?_
  refine cRegion ?_
  refine sAs (v := .bool false) rfl ?_
  refine sNil (kSeqN ?_)
  refine cSeq ?_   -- seq 1
  refine cSeq ?_
  refine cRegion ?_
  refine sMv (v := .slice _ _ _) rfl ?_
  refine sCall1 rfl call16 rfl hgr ?_
  refine sNil (kSeqN ?_)
  refine cCond rfl (fun c0 => ?_) (fun c0 => ?_)
  ·
    refine cSeq ?_
    refine cRegion ?_
    obtain ⟨v24, m24, h24, rfl, e24⟩ := spec_awake hG
    refine sCall0 rfl call17 h24 ?_
    refine sAs (v := .bool true) rfl ?_
    refine sNil (kSeqN ?_)
    refine cRet (kSeqR ?_)
    exact ⟨.inr rfl, _, rfl, rfl, trivial⟩
  ·
    have hl : l.length ≤ 40 := by simpa using c0
    refine cSkip (kSeqN ?_)
    refine cSeq ?_
    refine cRegion ?_
    refine sMv (v := .slice _ _ _) rfl ?_
    obtain ⟨v26, m26, h26, o26, e26⟩ := spec_Clone ha (by omega)
    have i26 := o26.ints
    obtain ⟨q26, c26, rfl⟩ := i26.len
    refine sCall1 rfl call18 rfl h26 ?_
    refine sAs (v := .slice _ _ _) rfl ?_
    refine sNil (kSeqN ?_)
    refine cSeq ?_
    refine cRegion ?_
    refine sMv (v := .slice _ _ _) rfl ?_
    refine sMv (v := .int _ _) rfl ?_
    obtain ⟨v30, m30, h30, rfl, e30⟩ := spec_refRank (n := n) (ha.ext e26) (by omega)
    have y30 := e26.trans e30
    refine sCall2 rfl call55 rfl rfl h30 ?_
    refine sMv (v := .tuple _) rfl ?_
    refine sP (v := nv _) rfl ?_   -- extract ['t27', '0']
    refine sP (v := nv _) rfl ?_   -- extract ['t27', '1']
    refine sAs (v := nv _) rfl ?_
    refine sAs (v := nv _) rfl ?_
    refine sNil (kSeqN ?_)
    refine cSeq ?_
    refine cRegion ?_
    refine sMv (v := .slice _ _ _) rfl ?_
    refine sMv (v := .int _ _) rfl ?_
    obtain ⟨v36, m36, h36, w36, rfl, o36, e36⟩ := spec_refReduce (n := n) (ha.ext y30) (by omega)
    have y36 := y30.trans e36
    obtain ⟨q36, c36, rfl⟩ := o36.ints.lenN
    refine sCall2 rfl call56 rfl rfl h36 ?_
    refine sMv (v := .tuple _) rfl ?_
    refine sP (v := .slice _ _ _) rfl ?_   -- extract ['t33', '0']
    refine sP (v := nv _) rfl ?_   -- extract ['t33', '1']
    refine sAs (v := .slice _ _ _) rfl ?_
    refine sAs (v := nv _) rfl ?_
    refine sNil (kSeqN ?_)
    refine cSeq ?_
    refine cRegion ?_
    refine sMv (v := .slice _ _ _) rfl ?_
    refine sMv (v := .int _ _) rfl ?_
    obtain ⟨v42, m42, h42, w42, rfl, o42, e42⟩ := spec_refFree (n := n) (ha.ext y36) (by omega)
    have y42 := y36.trans e42
    obtain ⟨q42, c42, rfl⟩ := o42.ints.lenN
    refine sCall2 rfl call57 rfl rfl h42 ?_
    refine sMv (v := .tuple _) rfl ?_
    refine sP (v := .slice _ _ _) rfl ?_   -- extract ['t39', '0']
    refine sP (v := nv _) rfl ?_   -- extract ['t39', '1']
    refine sAs (v := .slice _ _ _) rfl ?_
    refine sAs (v := nv _) rfl ?_
    refine sNil (kSeqN ?_)
    refine cSeq ?_
    refine cRegion ?_
    refine sMv (v := .slice _ _ _) rfl ?_
    refine sMv (v := .int _ _) rfl ?_
    obtain ⟨v48, m48, h48, w48, rfl, o48, e48⟩ := spec_refNull (n := n) (ha.ext y42) (by omega)
    have y48 := y42.trans e48
    obtain ⟨q48, c48, rfl⟩ := o48.ints.lenN
    refine sCall2 rfl call58 rfl rfl h48 ?_
    have z48 := ((e30.trans e36).trans e42).trans e48
    refine sMv (v := .tuple _) rfl ?_
    refine sP (v := .slice _ _ _) rfl ?_   -- extract ['t45', '0']
    refine sP (v := nv _) rfl ?_   -- extract ['t45', '1']
    refine sAs (v := .slice _ _ _) rfl ?_
    refine sAs (v := nv _) rfl ?_
    refine sNil (kSeqN ?_)
    refine cSeq ?_
    refine cRegion ?_
    refine sMv (v := .slice _ _ _) rfl ?_
    refine sMv (v := .int _ _) rfl ?_
    obtain ⟨v54, m54, h54, rfl, e54⟩ := spec_Rank (n := n) (i26.ext z48) (by omega)
    have z54 := z48.trans e54
    refine sCall2 rfl kall40 rfl rfl h54 ?_
    refine sMv (v := .tuple _) rfl ?_
    refine sP (v := nv _) rfl ?_   -- extract ['t51', '0']
    refine sP (v := nv _) rfl ?_   -- extract ['t51', '1']
    refine sAs (v := nv _) rfl ?_
    refine sAs (v := nv _) rfl ?_
    refine sNil (kSeqN ?_)
    refine cSeq ?_
    refine cRegion ?_
    refine sMv (v := .slice _ _ _) rfl ?_
    refine sMv (v := .int _ _) rfl ?_
    obtain ⟨v60, m60, h60, w60, rfl, o60, e60⟩ := spec_Reduce (n := n) (i26.ext z54) (by omega)
    have z60 := z54.trans e60
    obtain ⟨q60, c60, rfl⟩ := o60.ints.lenN
    refine sCall2 rfl call43 rfl rfl h60 ?_
    refine sMv (v := .tuple _) rfl ?_
    refine sP (v := .slice _ _ _) rfl ?_   -- extract ['t57', '0']
    refine sP (v := nv _) rfl ?_   -- extract ['t57', '1']
    refine sAs (v := .slice _ _ _) rfl ?_
    refine sAs (v := nv _) rfl ?_
    refine sNil (kSeqN ?_)
    refine cSeq ?_
    refine cRegion ?_
    refine sMv (v := .slice _ _ _) rfl ?_
    refine sMv (v := .int _ _) rfl ?_
    obtain ⟨v66, m66, h66, w66, rfl, o66, e66⟩ := spec_Free (n := n) (hG.ext (e26.trans z60)) (i26.ext z60) (by omega)
    have z66 := z60.trans e66
    obtain ⟨q66, c66, rfl⟩ := o66.ints.lenN
    refine sCall2 rfl kall59 rfl rfl h66 ?_
    refine sMv (v := .tuple _) rfl ?_
    refine sP (v := .slice _ _ _) rfl ?_   -- extract ['t63', '0']
    refine sP (v := nv _) rfl ?_   -- extract ['t63', '1']
    refine sAs (v := .slice _ _ _) rfl ?_
    refine sAs (v := nv _) rfl ?_
    refine sNil (kSeqN ?_)
    refine cSeq ?_
    refine cRegion ?_
    refine sMv (v := .slice _ _ _) rfl ?_
    refine sMv (v := .int _ _) rfl ?_
    obtain ⟨v72, m72, h72, w72, rfl, o72, e72⟩ := spec_Null (n := n) (hG.ext (e26.trans z66)) (i26.ext z66) (by omega)
    have z72 := z66.trans e72
    obtain ⟨q72, c72, rfl⟩ := o72.ints.lenN
    refine sCall2 rfl call39 rfl rfl h72 ?_
    refine sMv (v := .tuple _) rfl ?_
    refine sP (v := .slice _ _ _) rfl ?_   -- extract ['t69', '0']
    refine sP (v := nv _) rfl ?_   -- extract ['t69', '1']
    refine sAs (v := .slice _ _ _) rfl ?_
    refine sAs (v := nv _) rfl ?_
    refine sNil (kSeqN ?_)
    refine cSeq ?_
    refine cRegion ?_
    refine sMv (v := .slice _ _ _) rfl ?_
    refine sMv (v := .int _ _) rfl ?_
    obtain ⟨m77, h77, e77⟩ := spec_Check (n := n) (i26.ext z72) (by omega)
    have z77 := z72.trans e77
    have y77 := e26.trans z77
    refine sCall2 rfl kall60 rfl rfl h77 ?_
    refine sMv (v := .slice _ _ _) rfl ?_
    refine sMv (v := .int _ _) rfl ?_
    refine sCall2 rfl call61 rfl rfl (spec_refCheck (n := n) (ha.ext y77) (by omega)) ?_
    refine sBin (v := .bool true) (a := checkF l n) (b := checkF l n) rfl rfl (by rw [aInt_eql, decide_eq_true rfl]) ?_
    refine sMv (v := .bool true) rfl ?_
    refine sG rfl rfl ?_
    refine sMv (v := nv _) rfl ?_
    refine sG rfl rfl ?_
    refine sMv (v := nv _) rfl ?_
    refine sG rfl rfl ?_
    refine sBin (v := .bool true) (a := ifOk (checkF l n) (redM (nats l)).length 0) (b := ifOk (checkF l n) (redM (nats l)).length 0) rfl rfl (by rw [aInt_eql, decide_eq_true rfl]) ?_
    refine sP (v := .bool true) rfl ?_
    refine sMv (v := .bool true) rfl ?_
    refine sG rfl rfl ?_
    refine sMv (v := nv _) rfl ?_
    refine sG rfl rfl ?_
    refine sMv (v := nv _) rfl ?_
    refine sG rfl rfl ?_
    refine sBin (v := .bool true) (a := checkF l n) (b := checkF l n) rfl rfl (by rw [aInt_eql, decide_eq_true rfl]) ?_
    refine sP (v := .bool true) rfl ?_
    refine sMv (v := .bool true) rfl ?_
    refine sG rfl rfl ?_
    refine sMv (v := .slice _ _ _) rfl ?_
    refine sG rfl rfl ?_
    refine sMv (v := .slice _ _ _) rfl ?_
    refine sG rfl rfl ?_
    refine sMv (v := nv _) rfl ?_
    refine sG rfl rfl ?_
    refine sMv (v := nv _) rfl ?_
    refine sG rfl rfl ?_
    have w77 : Ext m60 m77 := (e66.trans e72).trans e77
    obtain ⟨v97, m97, h97, rfl, k97⟩ := spec_told (e := checkF l n) (w := checkF l n) o60 (o60.ext w77) (o36.ints.ext (((e42.trans e48).trans e54).trans (e60.trans w77))) (ifOk_len (redM_length _))
    rw [decide_eq_true (And.intro rfl rfl)] at h97
    refine sCall4 rfl call30 rfl rfl rfl rfl h97 ?_
    refine sP (v := .bool true) rfl ?_
    refine sMv (v := .bool true) rfl ?_
    refine sG rfl rfl ?_
    refine sMv (v := .slice _ _ _) rfl ?_
    refine sG rfl rfl ?_
    refine sMv (v := .slice _ _ _) rfl ?_
    refine sG rfl rfl ?_
    refine sMv (v := nv _) rfl ?_
    refine sG rfl rfl ?_
    refine sMv (v := nv _) rfl ?_
    refine sG rfl rfl ?_
    have o66' : OwnF m60.size m97 _ _ := k97.own (o66.ext (e72.trans e77)) (Nat.le_refl _)
    have y97 : Ext m42 m97 := k97.ext ((e48.trans e54).trans (e60.trans w77)) (Nat.le_trans e48.1 e54.1)
    obtain ⟨v104, m104, h104, rfl, k104⟩ := spec_told (e := checkF l n) (w := checkF l n) o66 o66' (o42.ints.ext y97) (ifOk_len' fun h => Nat.le_trans (ledM_length _ _ _) (Nat.le_trans (checkF_le h) (by decide)))
    rw [decide_eq_true (And.intro rfl rfl)] at h104
    refine sCall4 rfl call30 rfl rfl rfl rfl h104 ?_
    refine sP (v := .bool true) rfl ?_
    refine sMv (v := .bool true) rfl ?_
    refine sG rfl rfl ?_
    refine sMv (v := .slice _ _ _) rfl ?_
    refine sG rfl rfl ?_
    refine sMv (v := .slice _ _ _) rfl ?_
    refine sG rfl rfl ?_
    refine sMv (v := nv _) rfl ?_
    refine sG rfl rfl ?_
    refine sMv (v := nv _) rfl ?_
    refine sG rfl rfl ?_
    have o72' : OwnF m66.size m104 _ _ := k104.own (k97.own (o72.ext e77) e66.1) (Nat.le_refl _)
    have y104 : Ext m48 m104 := k104.ext (k97.ext (e54.trans (e60.trans w77)) e54.1) (Nat.le_trans e54.1 e60.1)
    obtain ⟨v111, m111, h111, rfl, k111⟩ := spec_told (e := checkF l n) (w := checkF l n) o72 o72' (o48.ints.ext y104) (ifOk_len' fun h => Nat.le_trans (nullM_len _ _ (Nat.le_trans (checkF_le h) (by decide))) (Nat.le_trans (checkF_le h) (by decide)))
    rw [decide_eq_true (And.intro rfl rfl)] at h111
    refine sCall4 rfl call30 rfl rfl rfl rfl h111 ?_
    have y111 : Ext m48 m111 := k111.ext y104 (Nat.le_trans e54.1 (Nat.le_trans e60.1 e66.1))
    refine sP (v := .bool true) rfl ?_
    refine sMv (v := .bool true) rfl ?_
    refine sG rfl rfl ?_
    refine sMv (v := .slice _ _ _) rfl ?_
    refine sG rfl rfl ?_
    refine sMv (v := .slice _ _ _) rfl ?_
    refine sG rfl rfl ?_
    have h116 := spec_Equal ((i26.ext z48).ext y111) ((ha.ext y48).ext y111) (by omega)
    rw [decide_eq_true rfl] at h116
    refine sCall2 rfl call23 rfl rfl h116 ?_
    refine sP (v := .bool true) rfl ?_
    refine sMv (v := .bool true) rfl ?_
    refine sG rfl rfl ?_
    obtain ⟨v119, m119, h119, rfl, e119⟩ := spec_awake (hG.ext (y48.trans y111))
    refine sCall0 rfl call17 h119 ?_
    refine sP (v := .bool true) rfl ?_
    refine sAs (v := .bool true) rfl ?_
    refine sNil (kSeqN ?_)
    refine cRet ?_
    exact ⟨.inr rfl, _, rfl, rfl, trivial⟩

end Go.AM

/-! ### F4 -/
namespace Go.Proofs.YtgiidbomifmcaaaDoor
open Go Go.AM Go.ChangeShapes Go.WideShapes Go.ChangeAt Go.WideMaps Go.WideElems Go.RowKit
set_option maxRecDepth 100000
set_option linter.unusedVariables false
theorem own : ownKnob Tryd.prog.godebug = none := by kernel_rfl
/-- The door's own heap meets the condition: three closed facts. -/
theorem door_met (os : Os) (args : Array Value) : laidMetH Tryd.prog laid3 ((World.doorLaid Tryd.prog 400 os).forCall (fun _ _ => 0) ⟨#[], args, []⟩).memory :=
  laidMetH_of_parts3 (fuel := 8) (laidMet_of_run' 8 (by kernel_rfl) (by kernel_rfl)) (by kernel_rfl) (by kernel_rfl)
theorem lifted9 (os : Os) (started : os.Started) (H : Type) (enc : TypeId × Value → H) :
    ReturnsInHanded {} Tryd.checked os 9 .any (fun w args => (Rows.bitsSpansSpec.pre enc Tryd.prog Tryd.f9 [] false w args ∧ laidMetH Tryd.prog laid3 w) ∧ sizedMet enc Tryd.prog Tryd.f9 (OpenSpec.ofChange Rows.bitsSpansSpec) false w args)
      (Rows.bitsSpansSpec.post enc Tryd.prog Tryd.f9 false true false false) := by
  refine returnsInHanded_of_change_and (C := Tryd.checked) (X := fun w _ => laidMetH Tryd.prog laid3 w) (fun _ _ _ hh h => h.of_heap hh) own started (by kernel_rfl) Tryd.func9
    (ChangeSpec.witness_shaped (enc := enc) (C := Tryd.checked) (os := os) (X := fun w _ => laidMetH Tryd.prog laid3 w) false (World.doorLaid Tryd.prog 400 os) #[.slice none 0 0, .int .i64 0] 8 rfl (World.shaped_of_RefB (by kernel_rfl) (by kernel_rfl)) (by kernel_rfl) (by kernel_rfl) (by kernel_rfl) (door_met os _)) ?_
  intro W base args ds gs before hval0 hW _ _ hL _
  have hval : ∀ (j : Nat) t v, Tryd.f9.params[j]? = some t → args[j]? = some v → Value.okWide Tryd.prog W .any base t v := hval0
  have hW' := hW
  obtain ⟨p, q, hA0, hV, rfl, hfz, hnd⟩ := hW
  have hA : DataW.TrodAll enc Tryd.prog W 0 (fun _ => true) true [22, 3] args.toList ds p := hA0
  obtain ⟨v0, vs0, d0, ds0, p0, q0, hargs, rfl, rfl, h0, r0⟩ := trodAll_cons hA
  obtain ⟨v1, vs1, d1, ds1, p1, q1, rfl, rfl, rfl, h1, r1⟩ := trodAll_cons r0
  obtain ⟨rfl, rfl, rfl⟩ := trodAll_nil r1
  obtain rfl : args = #[v0, v1] := by cases args; simp_all
  obtain ⟨rfl, rfl⟩ := trodVars_none hV
  obtain ⟨a0, l0, f0, ok0, wf0, A0⟩ := ints_arg hL u22 u3 c3 (hval 0 22 v0 rfl rfl) h0
  have lt0 : ∀ x ∈ p0, x.block < W.heap.size := by obtain ⟨m, hm⟩ := h0; exact DataW.trod_lt m _ _ _ hm
  obtain ⟨n1, rfl, rfl, rfl, w1⟩ := open_int u3 (hval 1 3 v1 rfl rfl) h1
  refine (entry (args := #[f0 0, .int .i64 n1]) (A := [a0]) hL (by intro a ha; simp only [List.mem_cons, List.not_mem_nil, or_false] at ha; rcases ha with rfl <;> assumption) (fun bm => (arel_cons ((A0 _ 0 rfl).2 bm) (arel_cons (.int _ _) arel_nil))) (fun b => ?_)).mono ?_
  · obtain ⟨v, m, h, hv, _⟩ := spec_BitsSpans (glob0 b _) ((A0 [a0] 0 rfl).1 b).ints
    exact ⟨v, m, h, hv⟩
  · rintro e W' ⟨rfl, bel⟩
    exact ⟨_, rfl, _, _, _, [], _, [], hW', trodAll_mk1 (shut_bool u4 _), (trodAll_cons_mk (Below.trod laidOut (by kernel_rfl) (of_decide_eq_true (by kernel_rfl)) h0 bel lt0) (trodAll_cons_mk (shut_int u3 w1) trodAll_mk0)), rfl, bel.frame _, fun h => by cases h⟩
theorem bitsSpans_holds : Rows.BitsSpansSaid :=
  OpenClaim.holds_of_wide 9 Tryd.f9 rfl rfl rfl rfl rfl rfl rfl ⟨rfl, rfl, rfl, rfl, rfl⟩ rfl rfl rfl rfl rfl (by kernel_rfl) Tryd.func9 (by kernel_rfl)
    (of_decide_eq_true (by kernel_rfl)) (by unfold Func.isWrapper; first | (rw [if_pos (by decide +kernel)]; kernel_rfl) | (rw [if_neg (by decide +kernel)]; exact ⟨rfl, rfl⟩))
    (fun os started H enc _ => lifted9 os started H enc)
theorem bitsSpansCard_holds : Rows.BitsSpansCardSaid :=
  Claim7.holds_tied_plain_at .later [] [.data, .data, .funcs] true (true, "4e90e708c3a0b8b9bd838c7bc74774a1a5a946fb69b32deeeece4d3212f6d5ce") false
    bitsSpans_holds (fun _ h => by cases h) (by kernel_rfl) (fun _ h => by cases h) bitsSpans_row_tie rfl ⟨rfl, rfl⟩ (by kernel_rfl) rfl
    (fun f fn hf hfn => by
      obtain rfl : f = 9 := Option.some.inj ((show Tryd.prog.funcNamed "spoondrift/spoondriftlaw02.BitsSpans" = some 9 by kernel_rfl).symm.trans hf) |>.symm
      obtain rfl : fn = Tryd.f9 := (Option.some.inj (Tryd.func9.symm.trans hfn)).symm
      exact ⟨by kernel_rfl, fun j t ht => by
        have hm : t ∈ [22, 3] := by simpa using Array.mem_of_getElem? (show (#[22, 3] : Array Nat)[j]? = some t from ht)
        have hall : ([22, 3].all fun u => !Tryd.prog.wantsStandIn u) = true := by kernel_rfl
        exact (show Tryd.prog.wantsStandIn t = false by simpa using List.all_eq_true.1 hall t hm)⟩)
    (by kernel_rfl)
end Go.Proofs.YtgiidbomifmcaaaDoor
