/- BitsMembers: the walk, the row, the card. -/
import Derived.Test.YtgiidbomifmcaaaDoorRef
import Derived.Test.YtgiidbomifmcaaaDoorBitsC
import Derived.Test.YtgiidbomifmcaaaDoorRefB
import Derived.Test.YtgiidbomifmcaaaDoorEntryB
import Derived.Carry
import Derived.Test.YtgiidbomifmcaaaDoorTie
import Derived.Test.YtgiidbomifmcaaaDoorCards
set_option linter.unusedVariables false
set_option linter.unusedSimpArgs false
/-! ### E30 -/
namespace Go.AM
open Go.Proofs
set_option maxRecDepth 100000
set_option linter.unusedVariables false
set_option linter.unusedSimpArgs false
theorem kall40 : callable Tryd.prog 40 = true := by kernel_rfl
theorem kall60 : callable Tryd.prog 60 = true := by kernel_rfl
theorem kall59 : callable Tryd.prog 59 = true := by kernel_rfl
theorem Mid.ext {N B : Nat} {m0 m m' : Mem} (h : Mid N B m m') (he : Ext m0 m) (hN : m0.size ≤ N) : Ext m0 m' := ⟨by rw [h.1]; exact he.1, fun b hb => (h.2 b (.inl (by omega))).trans (he.2 b hb)⟩
theorem Mid.own {N N' B : Nat} {m m' : Mem} {v : Value} {l : List Int} (h : Mid N B m m') (ho : OwnF N' m v l) (hB : B ≤ N') : OwnF N' m' v l :=
  ho.up fun b hb _ => h.2 b (.inr (by omega))
theorem ifOk_len {e : Nat} {l : List Nat} (h : l.length ≤ 24) : (ifOk e l []).length < 1000 := by
  unfold ifOk; split
  · omega
  · exact Nat.zero_lt_succ 999
theorem ifOk_len' {a : List Int} {n : Int} {l : List Nat} (h : checkF a n = 0 → l.length ≤ 24) : (ifOk (checkF a n) l []).length < 1000 := by
  unfold ifOk; split
  · have := h (by assumption); omega
  · exact Nat.zero_lt_succ 999
theorem checkF_le {l : List Int} {n : Int} (h : checkF l n = 0) : n.toNat ≤ 16 := by
  obtain ⟨N, L, rfl, rfl, h1, h2, _⟩ := checkF_nat h; simpa using h2

theorem okf9 : okF Tryd.prog H0 9 121 = true := by kernel_rfl
theorem spec_BitsSpans {m : Mem} {a : Value} {l : List Int} {n : Int} (hG : Glob m) (ha : IntsAt m a l) : ∃ v m', ACalls Tryd.prog 9 #[a, .int .i64 n] m v m' ∧ (v = .bool true ∧ True) := by
  have hgr := spec_great ha
  obtain ⟨q, cap, rfl⟩ := ha.len
  refine wpF (args := [_, _]) mixed okf9 (fn := Tryd.f9) rfl rfl rfl (by simp) ?_
  refine cSeq ?_
  refine cRegion ?_
  refine sAs (v := .bool false) rfl ?_
  refine sNil (kSeqN ?_)
  refine cSeq ?_   -- seq 1
  refine cSeq ?_
  refine cRegion ?_
  refine sMv (v := .slice _ _ _) rfl ?_
  refine sCall1 rfl call16 rfl hgr ?_
  refine sNil (kSeqN ?_)
  refine cCond rfl (fun c0 => ?_) (fun c0 => ?_)
  ·
    refine cSeq ?_
    refine cRegion ?_
    obtain ⟨v24, m24, h24, rfl, e24⟩ := spec_awake hG
    refine sCall0 rfl call17 h24 ?_
    refine sAs (v := .bool true) rfl ?_
    refine sNil (kSeqN ?_)
    refine cRet (kSeqR ?_)
    exact ⟨.inr rfl, _, rfl, rfl, trivial⟩
  ·
    have hl : l.length ≤ 40 := by simpa using c0
    refine cSkip (kSeqN ?_)
    refine cSeq ?_
    refine cRegion ?_
    refine sMv (v := .slice _ _ _) rfl ?_
    obtain ⟨v26, m26, h26, o26, e26⟩ := spec_Clone ha (by omega)
    have i26 := o26.ints
    obtain ⟨q26, c26, rfl⟩ := i26.len
    refine sCall1 rfl call18 rfl h26 ?_
    refine sAs (v := .slice _ _ _) rfl ?_
    refine sNil (kSeqN ?_)
    refine cSeq ?_
    refine cRegion ?_
    refine sMv (v := .slice _ _ _) rfl ?_
    refine sMv (v := .int _ _) rfl ?_
    obtain ⟨v30, m30, h30, rfl, e30⟩ := spec_refRank (n := n) (ha.ext e26) (by omega)
    have y30 := e26.trans e30
    refine sCall2 rfl call55 rfl rfl h30 ?_
    refine sMv (v := .tuple _) rfl ?_
    refine sP (v := nv _) rfl ?_   -- extract ['t27', '0']
    refine sP (v := nv _) rfl ?_   -- extract ['t27', '1']
    refine sAs (v := nv _) rfl ?_
    refine sAs (v := nv _) rfl ?_
    refine sNil (kSeqN ?_)
    refine cSeq ?_
    refine cRegion ?_
    refine sMv (v := .slice _ _ _) rfl ?_
    refine sMv (v := .int _ _) rfl ?_
    obtain ⟨v36, m36, h36, w36, rfl, o36, e36⟩ := spec_refReduce (n := n) (ha.ext y30) (by omega)
    have y36 := y30.trans e36
    obtain ⟨q36, c36, rfl⟩ := o36.ints.lenN
    refine sCall2 rfl call56 rfl rfl h36 ?_
    refine sMv (v := .tuple _) rfl ?_
    refine sP (v := .slice _ _ _) rfl ?_   -- extract ['t33', '0']
    refine sP (v := nv _) rfl ?_   -- extract ['t33', '1']
    refine sAs (v := .slice _ _ _) rfl ?_
    refine sAs (v := nv _) rfl ?_
    refine sNil (kSeqN ?_)
    refine cSeq ?_
    refine cRegion ?_
    refine sMv (v := .slice _ _ _) rfl ?_
    refine sMv (v := .int _ _) rfl ?_
    obtain ⟨v42, m42, h42, w42, rfl, o42, e42⟩ := spec_refFree (n := n) (ha.ext y36) (by omega)
    have y42 := y36.trans e42
    obtain ⟨q42, c42, rfl⟩ := o42.ints.lenN
    refine sCall2 rfl call57 rfl rfl h42 ?_
    refine sMv (v := .tuple _) rfl ?_
    refine sP (v := .slice _ _ _) rfl ?_   -- extract ['t39', '0']
    refine sP (v := nv _) rfl ?_   -- extract ['t39', '1']
    refine sAs (v := .slice _ _ _) rfl ?_
    refine sAs (v := nv _) rfl ?_
    refine sNil (kSeqN ?_)
    refine cSeq ?_
    refine cRegion ?_
    refine sMv (v := .slice _ _ _) rfl ?_
    refine sMv (v := .int _ _) rfl ?_
    obtain ⟨v48, m48, h48, w48, rfl, o48, e48⟩ := spec_refNull (n := n) (ha.ext y42) (by omega)
    have y48 := y42.trans e48
    obtain ⟨q48, c48, rfl⟩ := o48.ints.lenN
    refine sCall2 rfl call58 rfl rfl h48 ?_
    have z48 := ((e30.trans e36).trans e42).trans e48
    refine sMv (v := .tuple _) rfl ?_
    refine sP (v := .slice _ _ _) rfl ?_   -- extract ['t45', '0']
    refine sP (v := nv _) rfl ?_   -- extract ['t45', '1']
    refine sAs (v := .slice _ _ _) rfl ?_
    refine sAs (v := nv _) rfl ?_
    refine sNil (kSeqN ?_)
    refine cSeq ?_
    refine cRegion ?_
    refine sMv (v := .slice _ _ _) rfl ?_
    refine sMv (v := .int _ _) rfl ?_
    obtain ⟨v54, m54, h54, rfl, e54⟩ := spec_Rank (n := n) (i26.ext z48) (by omega)
    have z54 := z48.trans e54
    refine sCall2 rfl kall40 rfl rfl h54 ?_
    refine sMv (v := .tuple _) rfl ?_
    refine sP (v := nv _) rfl ?_   -- extract ['t51', '0']
    refine sP (v := nv _) rfl ?_   -- extract ['t51', '1']
    refine sAs (v := nv _) rfl ?_
    refine sAs (v := nv _) rfl ?_
    refine sNil (kSeqN ?_)
    refine cSeq ?_
    refine cRegion ?_
    refine sMv (v := .slice _ _ _) rfl ?_
    refine sMv (v := .int _ _) rfl ?_
    obtain ⟨v60, m60, h60, w60, rfl, o60, e60⟩ := spec_Reduce (n := n) (i26.ext z54) (by omega)
    have z60 := z54.trans e60
    obtain ⟨q60, c60, rfl⟩ := o60.ints.lenN
    refine sCall2 rfl call43 rfl rfl h60 ?_
    refine sMv (v := .tuple _) rfl ?_
    refine sP (v := .slice _ _ _) rfl ?_   -- extract ['t57', '0']
    refine sP (v := nv _) rfl ?_   -- extract ['t57', '1']
    refine sAs (v := .slice _ _ _) rfl ?_
    refine sAs (v := nv _) rfl ?_
    refine sNil (kSeqN ?_)
    refine cSeq ?_
    refine cRegion ?_
    refine sMv (v := .slice _ _ _) rfl ?_
    refine sMv (v := .int _ _) rfl ?_
    obtain ⟨v66, m66, h66, w66, rfl, o66, e66⟩ := spec_Free (n := n) (hG.ext (e26.trans z60)) (i26.ext z60) (by omega)
    have z66 := z60.trans e66
    obtain ⟨q66, c66, rfl⟩ := o66.ints.lenN
    refine sCall2 rfl kall59 rfl rfl h66 ?_
    refine sMv (v := .tuple _) rfl ?_
    refine sP (v := .slice _ _ _) rfl ?_   -- extract ['t63', '0']
    refine sP (v := nv _) rfl ?_   -- extract ['t63', '1']
    refine sAs (v := .slice _ _ _) rfl ?_
    refine sAs (v := nv _) rfl ?_
    refine sNil (kSeqN ?_)
    refine cSeq ?_
    refine cRegion ?_
    refine sMv (v := .slice _ _ _) rfl ?_
    refine sMv (v := .int _ _) rfl ?_
    obtain ⟨v72, m72, h72, w72, rfl, o72, e72⟩ := spec_Null (n := n) (hG.ext (e26.trans z66)) (i26.ext z66) (by omega)
    have z72 := z66.trans e72
    obtain ⟨q72, c72, rfl⟩ := o72.ints.lenN
    refine sCall2 rfl call39 rfl rfl h72 ?_
    refine sMv (v := .tuple _) rfl ?_
    refine sP (v := .slice _ _ _) rfl ?_   -- extract ['t69', '0']
    refine sP (v := nv _) rfl ?_   -- extract ['t69', '1']
    refine sAs (v := .slice _ _ _) rfl ?_
    refine sAs (v := nv _) rfl ?_
    refine sNil (kSeqN ?_)
    refine cSeq ?_
    refine cRegion ?_
    refine sMv (v := .slice _ _ _) rfl ?_
    refine sMv (v := .int _ _) rfl ?_
    obtain ⟨m77, h77, e77⟩ := spec_Check (n := n) (i26.ext z72) (by omega)
    have z77 := z72.trans e77
    have y77 := e26.trans z77
    refine sCall2 rfl kall60 rfl rfl h77 ?_
    refine sMv (v := .slice _ _ _) rfl ?_
    refine sMv (v := .int _ _) rfl ?_
    refine sCall2 rfl call61 rfl rfl (spec_refCheck (n := n) (ha.ext y77) (by omega)) ?_
    refine sBin (v := .bool true) (a := checkF l n) (b := checkF l n) rfl rfl (by rw [aInt_eql, decide_eq_true rfl]) ?_
    refine sMv (v := .bool true) rfl ?_
    refine sG rfl rfl ?_
    refine sMv (v := nv _) rfl ?_
    refine sG rfl rfl ?_
    refine sMv (v := nv _) rfl ?_
    refine sG rfl rfl ?_
    refine sBin (v := .bool true) (a := ifOk (checkF l n) (redM (nats l)).length 0) (b := ifOk (checkF l n) (redM (nats l)).length 0) rfl rfl (by rw [aInt_eql, decide_eq_true rfl]) ?_
    refine sP (v := .bool true) rfl ?_
    refine sMv (v := .bool true) rfl ?_
    refine sG rfl rfl ?_
    refine sMv (v := nv _) rfl ?_
    refine sG rfl rfl ?_
    refine sMv (v := nv _) rfl ?_
    refine sG rfl rfl ?_
    refine sBin (v := .bool true) (a := checkF l n) (b := checkF l n) rfl rfl (by rw [aInt_eql, decide_eq_true rfl]) ?_
    refine sP (v := .bool true) rfl ?_
    refine sMv (v := .bool true) rfl ?_
    refine sG rfl rfl ?_
    refine sMv (v := .slice _ _ _) rfl ?_
    refine sG rfl rfl ?_
    refine sMv (v := .slice _ _ _) rfl ?_
    refine sG rfl rfl ?_
    refine sMv (v := nv _) rfl ?_
    refine sG rfl rfl ?_
    refine sMv (v := nv _) rfl ?_
    refine sG rfl rfl ?_
    have w77 : Ext m60 m77 := (e66.trans e72).trans e77
    obtain ⟨v97, m97, h97, rfl, k97⟩ := spec_told (e := checkF l n) (w := checkF l n) o60 (o60.ext w77) (o36.ints.ext (((e42.trans e48).trans e54).trans (e60.trans w77))) (ifOk_len (redM_length _))
    rw [decide_eq_true (And.intro rfl rfl)] at h97
    refine sCall4 rfl call30 rfl rfl rfl rfl h97 ?_
    refine sP (v := .bool true) rfl ?_
    refine sMv (v := .bool true) rfl ?_
    refine sG rfl rfl ?_
    refine sMv (v := .slice _ _ _) rfl ?_
    refine sG rfl rfl ?_
    refine sMv (v := .slice _ _ _) rfl ?_
    refine sG rfl rfl ?_
    refine sMv (v := nv _) rfl ?_
    refine sG rfl rfl ?_
    refine sMv (v := nv _) rfl ?_
    refine sG rfl rfl ?_
    have o66' : OwnF m60.size m97 _ _ := k97.own (o66.ext (e72.trans e77)) (Nat.le_refl _)
    have y97 : Ext m42 m97 := k97.ext ((e48.trans e54).trans (e60.trans w77)) (Nat.le_trans e48.1 e54.1)
    obtain ⟨v104, m104, h104, rfl, k104⟩ := spec_told (e := checkF l n) (w := checkF l n) o66 o66' (o42.ints.ext y97) (ifOk_len' fun h => Nat.le_trans (ledM_length _ _ _) (Nat.le_trans (checkF_le h) (by decide)))
    rw [decide_eq_true (And.intro rfl rfl)] at h104
    refine sCall4 rfl call30 rfl rfl rfl rfl h104 ?_
    refine sP (v := .bool true) rfl ?_
    refine sMv (v := .bool true) rfl ?_
    refine sG rfl rfl ?_
    refine sMv (v := .slice _ _ _) rfl ?_
    refine sG rfl rfl ?_
    refine sMv (v := .slice _ _ _) rfl ?_
    refine sG rfl rfl ?_
    refine sMv (v := nv _) rfl ?_
    refine sG rfl rfl ?_
    refine sMv (v := nv _) rfl ?_
    refine sG rfl rfl ?_
    have o72' : OwnF m66.size m104 _ _ := k104.own (k97.own (o72.ext e77) e66.1) (Nat.le_refl _)
    have y104 : Ext m48 m104 := k104.ext (k97.ext (e54.trans (e60.trans w77)) e54.1) (Nat.le_trans e54.1 e60.1)
    obtain ⟨v111, m111, h111, rfl, k111⟩ := spec_told (e := checkF l n) (w := checkF l n) o72 o72' (o48.ints.ext y104) (ifOk_len' fun h => Nat.le_trans (nullM_len _ _ (Nat.le_trans (checkF_le h) (by decide))) (Nat.le_trans (checkF_le h) (by decide)))
    rw [decide_eq_true (And.intro rfl rfl)] at h111
    refine sCall4 rfl call30 rfl rfl rfl rfl h111 ?_
    have y111 : Ext m48 m111 := k111.ext y104 (Nat.le_trans e54.1 (Nat.le_trans e60.1 e66.1))
    refine sP (v := .bool true) rfl ?_
    refine sMv (v := .bool true) rfl ?_
    refine sG rfl rfl ?_
    refine sMv (v := .slice _ _ _) rfl ?_
    refine sG rfl rfl ?_
    refine sMv (v := .slice _ _ _) rfl ?_
    refine sG rfl rfl ?_
    have h116 := spec_Equal ((i26.ext z48).ext y111) ((ha.ext y48).ext y111) (by omega)
    rw [decide_eq_true rfl] at h116
    refine sCall2 rfl call23 rfl rfl h116 ?_
    refine sP (v := .bool true) rfl ?_
    refine sMv (v := .bool true) rfl ?_
    refine sG rfl rfl ?_
    obtain ⟨v119, m119, h119, rfl, e119⟩ := spec_awake (hG.ext (y48.trans y111))
    refine sCall0 rfl call17 h119 ?_
    refine sP (v := .bool true) rfl ?_
    refine sAs (v := .bool true) rfl ?_
    refine sNil (kSeqN ?_)
    refine cRet ?_
    exact ⟨.inr rfl, _, rfl, rfl, trivial⟩

end Go.AM

/-! ### E35 -/
namespace Go.AM
open Go.Proofs
set_option maxRecDepth 100000
set_option linter.unusedVariables false
set_option linter.unusedSimpArgs false
theorem kall38 : callable Tryd.prog 38 = true := by kernel_rfl
theorem kall46 : callable Tryd.prog 46 = true := by kernel_rfl
theorem kall62 : callable Tryd.prog 62 = true := by kernel_rfl
theorem kall67 : callable Tryd.prog 67 = true := by kernel_rfl
theorem call63 : callable Tryd.prog 63 = true := by kernel_rfl
theorem call64 : callable Tryd.prog 64 = true := by kernel_rfl
theorem call65 : callable Tryd.prog 65 = true := by kernel_rfl
theorem call66 : callable Tryd.prog 66 = true := by kernel_rfl
theorem beq_self {x : Bool} : aBin Tryd.prog .eql 4 (.bool x) (.bool x) = some (.bool true) := by cases x <;> kernel_rfl
theorem ifOk_lenB {l r : List Int} {n : Int} {L : List Nat} (h : n.toNat ≤ 24 → L.length ≤ n.toNat) : (ifOk (bothF l r n) L []).length < 1000 := by
  unfold ifOk; split
  · have h2 := checkF_le (bothF_ok (by assumption)).1
    have := h (by omega); omega
  · exact Nat.zero_lt_succ 999

theorem okf11 : okF Tryd.prog H0 11 142 = true := by kernel_rfl
theorem spec_BitsMembers {m : Mem} {a b : Value} {l r : List Int} {n row : Int} (hG : Glob m) (ha : IntsAt m a l) (hb : IntsAt m b r) : ∃ v m', ACalls Tryd.prog 11 #[a, b, .int .i64 n, .int .i64 row] m v m' ∧ (v = .bool true ∧ True) := by
  have hgr := spec_great ha
  have hgr2 := spec_great hb
  obtain ⟨q, cap, rfl⟩ := ha.len
  obtain ⟨qb, capb, rfl⟩ := hb.len
  refine wpF (args := [_, _, _, _]) mixed okf11 (fn := Tryd.f11) rfl rfl rfl (by simp) ?_
  refine cSeq ?_
  refine cRegion ?_
  refine sAs (v := .bool false) rfl ?_
  refine sNil (kSeqN ?_)
  refine cSeq ?_   -- seq 1
  refine cSeq ?_
  refine cRegion ?_
  refine sMv (v := .slice _ _ _) rfl ?_
  refine sCall1 rfl call16 rfl hgr ?_
  refine sMv (v := .bool _) rfl ?_
  by_cases h1 : 40 < l.length
  ·
    rw [decide_eq_true h1]
    refine sGno (q' := true) rfl rfl (by simp) ?_
    refine sGno (q' := true) rfl rfl (by simp) ?_
    refine sP (v := .bool _) rfl ?_
    refine sNil (kSeqN ?_)
    refine cCondT rfl ?_
    refine cSeq ?_
    refine cRegion ?_
    obtain ⟨v24, m24, h24, rfl, e24⟩ := spec_awake hG
    refine sCall0 rfl call17 h24 ?_
    refine sAs (v := .bool true) rfl ?_
    refine sNil (kSeqN ?_)
    refine cRet (kSeqR ?_)
    exact ⟨.inr rfl, _, rfl, rfl, trivial⟩
  ·
    rw [decide_eq_false h1]
    refine sG rfl rfl ?_
    refine sMv (v := .slice _ _ _) rfl ?_
    refine sG rfl rfl ?_
    refine sCall1 rfl call16 rfl hgr2 ?_
    refine sP (v := .bool _) rfl ?_
    refine sNil (kSeqN ?_)
    refine cCond (p := 40 < r.length) rfl (fun c1 => ?_) (fun c1 => ?_)
    ·
      refine cSeq ?_
      refine cRegion ?_
      obtain ⟨v24, m24, h24, rfl, e24⟩ := spec_awake hG
      refine sCall0 rfl call17 h24 ?_
      refine sAs (v := .bool true) rfl ?_
      refine sNil (kSeqN ?_)
      refine cRet (kSeqR ?_)
      exact ⟨.inr rfl, _, rfl, rfl, trivial⟩
    ·
      have hl : l.length ≤ 40 := by omega
      have hr : r.length ≤ 40 := by omega
      refine cSkip (kSeqN ?_)
      refine cSeq ?_
      refine cRegion ?_
      refine sMv (v := .slice _ _ _) rfl ?_
      obtain ⟨v35, m35, h35, o35, e35⟩ := spec_Clone ha (by omega)
      have i35 := o35.ints
      obtain ⟨q35, c35, rfl⟩ := i35.len
      refine sCall1 rfl call18 rfl h35 ?_
      refine sMv (v := .slice _ _ _) rfl ?_
      obtain ⟨v37, m37, h37, o37, e37⟩ := spec_Clone (hb.ext e35) (by omega)
      have i37 := o37.ints
      obtain ⟨q37, c37, rfl⟩ := i37.len
      have e0 := e35.trans e37
      have j35 := i35.ext e37
      have ja := ha.ext e0
      have jb := hb.ext e0
      have hG0 := hG.ext e0
      refine sCall1 rfl call18 rfl h37 ?_
      refine sAs (v := .slice _ _ _) rfl ?_
      refine sAs (v := .slice _ _ _) rfl ?_
      refine sNil (kSeqN ?_)
      refine cSeq ?_
      refine cRegion ?_
      refine sMv (v := .slice _ _ _) rfl ?_
      refine sMv (v := .slice _ _ _) rfl ?_
      refine sMv (v := .int _ _) rfl ?_
      obtain ⟨v42, m42, h42, rfl, e42⟩ := spec_refSame (n := n) ja jb (by omega) (by omega)
      refine sCall3 rfl call63 rfl rfl rfl h42 ?_
      refine sMv (v := .tuple _) rfl ?_
      refine sP (v := .bool _) rfl ?_   -- extract ['t38', '0']
      refine sP (v := nv _) rfl ?_   -- extract ['t38', '1']
      refine sAs (v := .bool _) rfl ?_
      refine sAs (v := nv _) rfl ?_
      refine sNil (kSeqN ?_)
      refine cSeq ?_
      refine cRegion ?_
      refine sMv (v := .slice _ _ _) rfl ?_
      refine sMv (v := .int _ _) rfl ?_
      refine sMv (v := .int _ _) rfl ?_
      obtain ⟨v49, m49, h49, rfl, e49⟩ := spec_refMember (n := n) (row := row) (ja.ext e42) (by omega)
      have z49 := e42.trans e49
      refine sCall3 rfl call64 rfl rfl rfl h49 ?_
      refine sMv (v := .tuple _) rfl ?_
      refine sP (v := .bool _) rfl ?_   -- extract ['t45', '0']
      refine sP (v := nv _) rfl ?_   -- extract ['t45', '1']
      refine sAs (v := .bool _) rfl ?_
      refine sAs (v := nv _) rfl ?_
      refine sNil (kSeqN ?_)
      refine cSeq ?_
      refine cRegion ?_
      refine sMv (v := .slice _ _ _) rfl ?_
      refine sMv (v := .int _ _) rfl ?_
      refine sMv (v := .int _ _) rfl ?_
      obtain ⟨v56, m56, h56, rfl, e56⟩ := spec_refWhich (n := n) (row := row) (ja.ext z49) (by omega)
      have z56 := z49.trans e56
      refine sCall3 rfl call65 rfl rfl rfl h56 ?_
      refine sMv (v := .tuple _) rfl ?_
      refine sP (v := nv _) rfl ?_   -- extract ['t52', '0']
      refine sP (v := nv _) rfl ?_   -- extract ['t52', '1']
      refine sAs (v := nv _) rfl ?_
      refine sAs (v := nv _) rfl ?_
      refine sNil (kSeqN ?_)
      refine cSeq ?_
      refine cRegion ?_
      refine sMv (v := .slice _ _ _) rfl ?_
      refine sMv (v := .slice _ _ _) rfl ?_
      refine sMv (v := .int _ _) rfl ?_
      obtain ⟨v63, m63, h63, w63, rfl, o63, e63⟩ := spec_refMeet (n := n) (ja.ext z56) (jb.ext z56) (by omega) (by omega)
      have z63 := z56.trans e63
      have i63 := o63.ints
      obtain ⟨q63, c63, rfl⟩ := i63.lenN
      refine sCall3 rfl call66 rfl rfl rfl h63 ?_
      refine sMv (v := .tuple _) rfl ?_
      refine sP (v := .slice _ _ _) rfl ?_   -- extract ['t59', '0']
      refine sP (v := nv _) rfl ?_   -- extract ['t59', '1']
      refine sAs (v := .slice _ _ _) rfl ?_
      refine sAs (v := nv _) rfl ?_
      refine sNil (kSeqN ?_)
      refine cSeq ?_
      refine cRegion ?_
      refine sMv (v := .slice _ _ _) rfl ?_
      refine sMv (v := .slice _ _ _) rfl ?_
      refine sMv (v := .int _ _) rfl ?_
      obtain ⟨v70, m70, h70, rfl, e70⟩ := spec_Same (n := n) (j35.ext z63) (i37.ext z63) (by omega) (by omega)
      have z70 := z63.trans e70
      refine sCall3 rfl kall62 rfl rfl rfl h70 ?_
      refine sMv (v := .tuple _) rfl ?_
      refine sP (v := .bool _) rfl ?_   -- extract ['t66', '0']
      refine sP (v := nv _) rfl ?_   -- extract ['t66', '1']
      refine sAs (v := .bool _) rfl ?_
      refine sAs (v := nv _) rfl ?_
      refine sNil (kSeqN ?_)
      refine cSeq ?_
      refine cRegion ?_
      refine sMv (v := .slice _ _ _) rfl ?_
      refine sMv (v := .int _ _) rfl ?_
      refine sMv (v := .int _ _) rfl ?_
      obtain ⟨v77, m77, h77, rfl, e77⟩ := spec_Member (n := n) (row := row) (j35.ext z70) (by omega)
      have z77 := z70.trans e77
      refine sCall3 rfl kall46 rfl rfl rfl h77 ?_
      refine sMv (v := .tuple _) rfl ?_
      refine sP (v := .bool _) rfl ?_   -- extract ['t73', '0']
      refine sP (v := nv _) rfl ?_   -- extract ['t73', '1']
      refine sAs (v := .bool _) rfl ?_
      refine sAs (v := nv _) rfl ?_
      refine sNil (kSeqN ?_)
      refine cSeq ?_
      refine cRegion ?_
      refine sMv (v := .slice _ _ _) rfl ?_
      refine sMv (v := .int _ _) rfl ?_
      refine sMv (v := .int _ _) rfl ?_
      obtain ⟨v84, m84, h84, rfl, e84⟩ := spec_Which (n := n) (row := row) (j35.ext z77) (by omega)
      have z84 := z77.trans e84
      refine sCall3 rfl kall38 rfl rfl rfl h84 ?_
      refine sMv (v := .tuple _) rfl ?_
      refine sP (v := nv _) rfl ?_   -- extract ['t80', '0']
      refine sP (v := nv _) rfl ?_   -- extract ['t80', '1']
      refine sAs (v := nv _) rfl ?_
      refine sAs (v := nv _) rfl ?_
      refine sNil (kSeqN ?_)
      refine cSeq ?_
      refine cRegion ?_
      refine sMv (v := .slice _ _ _) rfl ?_
      refine sMv (v := .slice _ _ _) rfl ?_
      refine sMv (v := .int _ _) rfl ?_
      obtain ⟨v91, m91, h91, w91, rfl, o91, e91⟩ := spec_Meet (n := n) (hG0.ext z84) (j35.ext z84) (i37.ext z84) (by omega) (by omega)
      have z91 := z84.trans e91
      obtain ⟨q91, c91, rfl⟩ := o91.ints.lenN
      refine sCall3 rfl kall67 rfl rfl rfl h91 ?_
      refine sMv (v := .tuple _) rfl ?_
      refine sP (v := .slice _ _ _) rfl ?_   -- extract ['t87', '0']
      refine sP (v := nv _) rfl ?_   -- extract ['t87', '1']
      refine sAs (v := .slice _ _ _) rfl ?_
      refine sAs (v := nv _) rfl ?_
      refine sNil (kSeqN ?_)
      refine cSeq ?_
      refine cRegion ?_
      refine sMv (v := .bool _) rfl ?_
      refine sMv (v := .bool _) rfl ?_
      refine sBinA (a := .bool (ifOk (bothF l r n) (decide (tableM (nats l) = tableM (nats r))) false)) (b := .bool (ifOk (bothF l r n) (decide (tableM (nats l) = tableM (nats r))) false)) rfl rfl beq_self ?_
      refine sMv (v := .bool true) rfl ?_
      refine sG rfl rfl ?_
      refine sMv (v := nv _) rfl ?_
      refine sG rfl rfl ?_
      refine sMv (v := nv _) rfl ?_
      refine sG rfl rfl ?_
      refine sBin (v := .bool true) (a := bothF l r n) (b := bothF l r n) rfl rfl (by rw [aInt_eql, decide_eq_true rfl]) ?_
      refine sP (v := .bool true) rfl ?_
      refine sMv (v := .bool true) rfl ?_
      refine sG rfl rfl ?_
      refine sMv (v := .bool _) rfl ?_
      refine sG rfl rfl ?_
      refine sMv (v := .bool _) rfl ?_
      refine sG rfl rfl ?_
      refine sBinA (a := .bool (ifOk (oneF l n row) (decide ((whichM (nats l) row.toNat).1 = 0)) false)) (b := .bool (ifOk (oneF l n row) (decide ((whichM (nats l) row.toNat).1 = 0)) false)) rfl rfl beq_self ?_
      refine sP (v := .bool true) rfl ?_
      refine sMv (v := .bool true) rfl ?_
      refine sG rfl rfl ?_
      refine sMv (v := nv _) rfl ?_
      refine sG rfl rfl ?_
      refine sMv (v := nv _) rfl ?_
      refine sG rfl rfl ?_
      refine sBin (v := .bool true) (a := oneF l n row) (b := oneF l n row) rfl rfl (by rw [aInt_eql, decide_eq_true rfl]) ?_
      refine sP (v := .bool true) rfl ?_
      refine sMv (v := .bool true) rfl ?_
      refine sG rfl rfl ?_
      refine sMv (v := nv _) rfl ?_
      refine sG rfl rfl ?_
      refine sMv (v := nv _) rfl ?_
      refine sG rfl rfl ?_
      refine sBin (v := .bool true) (a := ifOk (whichE l n row) (whichM (nats l) row.toNat).2 0) (b := ifOk (whichE l n row) (whichM (nats l) row.toNat).2 0) rfl rfl (by rw [aInt_eql, decide_eq_true rfl]) ?_
      refine sP (v := .bool true) rfl ?_
      refine sMv (v := .bool true) rfl ?_
      refine sG rfl rfl ?_
      refine sMv (v := nv _) rfl ?_
      refine sG rfl rfl ?_
      refine sMv (v := nv _) rfl ?_
      refine sG rfl rfl ?_
      refine sBin (v := .bool true) (a := whichE l n row) (b := whichE l n row) rfl rfl (by rw [aInt_eql, decide_eq_true rfl]) ?_
      refine sP (v := .bool true) rfl ?_
      refine sMv (v := .bool true) rfl ?_
      refine sG rfl rfl ?_
      refine sMv (v := .slice _ _ _) rfl ?_
      refine sG rfl rfl ?_
      refine sMv (v := .slice _ _ _) rfl ?_
      refine sG rfl rfl ?_
      refine sMv (v := nv _) rfl ?_
      refine sG rfl rfl ?_
      refine sMv (v := nv _) rfl ?_
      refine sG rfl rfl ?_
      obtain ⟨v127, m127, h127, rfl, k127⟩ := spec_told (e := bothF l r n) (w := bothF l r n) o91 o91 (i63.ext (((e70.trans e77).trans e84).trans e91)) (ifOk_lenB fun h => nullM_len _ _ (by omega))
      rw [decide_eq_true (And.intro rfl rfl)] at h127
      have y127 : Ext m37 m127 := k127.ext z91 z84.1
      refine sCall4 rfl call30 rfl rfl rfl rfl h127 ?_
      refine sP (v := .bool true) rfl ?_
      refine sMv (v := .bool true) rfl ?_
      refine sG rfl rfl ?_
      refine sMv (v := .slice _ _ _) rfl ?_
      refine sG rfl rfl ?_
      refine sMv (v := .slice _ _ _) rfl ?_
      refine sG rfl rfl ?_
      have h132 := spec_Equal (j35.ext y127) (ja.ext y127) (by omega)
      rw [decide_eq_true rfl] at h132
      refine sCall2 rfl call23 rfl rfl h132 ?_
      refine sP (v := .bool true) rfl ?_
      refine sMv (v := .bool true) rfl ?_
      refine sG rfl rfl ?_
      refine sMv (v := .slice _ _ _) rfl ?_
      refine sG rfl rfl ?_
      refine sMv (v := .slice _ _ _) rfl ?_
      refine sG rfl rfl ?_
      have h137 := spec_Equal (i37.ext y127) (jb.ext y127) (by omega)
      rw [decide_eq_true rfl] at h137
      refine sCall2 rfl call23 rfl rfl h137 ?_
      refine sP (v := .bool true) rfl ?_
      refine sMv (v := .bool true) rfl ?_
      refine sG rfl rfl ?_
      obtain ⟨v140, m140, h140, rfl, e140⟩ := spec_awake (hG0.ext y127)
      refine sCall0 rfl call17 h140 ?_
      refine sP (v := .bool true) rfl ?_
      refine sAs (v := .bool true) rfl ?_
      refine sNil (kSeqN ?_)
      refine cRet ?_
      exact ⟨.inr rfl, _, rfl, rfl, trivial⟩

end Go.AM

/-! ### F6 -/
namespace Go.Proofs.YtgiidbomifmcaaaDoor
open Go Go.AM Go.ChangeShapes Go.WideShapes Go.ChangeAt Go.WideMaps Go.WideElems Go.RowKit
set_option maxRecDepth 100000
set_option linter.unusedVariables false
theorem own : ownKnob Tryd.prog.godebug = none := by kernel_rfl
/-- The door's own heap meets the condition: three closed facts. -/
theorem door_met (os : Os) (args : Array Value) : laidMetH Tryd.prog laid3 ((World.doorLaid Tryd.prog 400 os).forCall (fun _ _ => 0) ⟨#[], args, []⟩).memory :=
  laidMetH_of_parts3 (fuel := 8) (laidMet_of_run' 8 (by kernel_rfl) (by kernel_rfl)) (by kernel_rfl) (by kernel_rfl)
theorem lifted11 (os : Os) (started : os.Started) (H : Type) (enc : TypeId × Value → H) :
    ReturnsInHanded {} Tryd.checked os 11 .any (fun w args => (Rows.bitsMembersSpec.pre enc Tryd.prog Tryd.f11 [] false w args ∧ laidMetH Tryd.prog laid3 w) ∧ sizedMet enc Tryd.prog Tryd.f11 (OpenSpec.ofChange Rows.bitsMembersSpec) false w args)
      (Rows.bitsMembersSpec.post enc Tryd.prog Tryd.f11 false true false false) := by
  refine returnsInHanded_of_change_and (C := Tryd.checked) (X := fun w _ => laidMetH Tryd.prog laid3 w) (fun _ _ _ hh h => h.of_heap hh) own started (by kernel_rfl) Tryd.func11
    (ChangeSpec.witness_shaped (enc := enc) (C := Tryd.checked) (os := os) (X := fun w _ => laidMetH Tryd.prog laid3 w) false (World.doorLaid Tryd.prog 400 os) #[.slice none 0 0, .slice none 0 0, .int .i64 0, .int .i64 0] 8 rfl (World.shaped_of_RefB (by kernel_rfl) (by kernel_rfl)) (by kernel_rfl) (by kernel_rfl) (by kernel_rfl) (door_met os _)) ?_
  intro W base args ds gs before hval0 hW _ _ hL _
  have hval : ∀ (j : Nat) t v, Tryd.f11.params[j]? = some t → args[j]? = some v → Value.okWide Tryd.prog W .any base t v := hval0
  have hW' := hW
  obtain ⟨p, q, hA0, hV, rfl, hfz, hnd⟩ := hW
  have hA : DataW.TrodAll enc Tryd.prog W 0 (fun _ => true) true [22, 22, 3, 3] args.toList ds p := hA0
  obtain ⟨v0, vs0, d0, ds0, p0, q0, hargs, rfl, rfl, h0, r0⟩ := trodAll_cons hA
  obtain ⟨v1, vs1, d1, ds1, p1, q1, rfl, rfl, rfl, h1, r1⟩ := trodAll_cons r0
  obtain ⟨v2, vs2, d2, ds2, p2, q2, rfl, rfl, rfl, h2, r2⟩ := trodAll_cons r1
  obtain ⟨v3, vs3, d3, ds3, p3, q3, rfl, rfl, rfl, h3, r3⟩ := trodAll_cons r2
  obtain ⟨rfl, rfl, rfl⟩ := trodAll_nil r3
  obtain rfl : args = #[v0, v1, v2, v3] := by cases args; simp_all
  obtain ⟨rfl, rfl⟩ := trodVars_none hV
  obtain ⟨a0, l0, f0, ok0, wf0, A0⟩ := ints_arg hL u22 u3 c3 (hval 0 22 v0 rfl rfl) h0
  have lt0 : ∀ x ∈ p0, x.block < W.heap.size := by obtain ⟨m, hm⟩ := h0; exact DataW.trod_lt m _ _ _ hm
  obtain ⟨a1, l1, f1, ok1, wf1, A1⟩ := ints_arg hL u22 u3 c3 (hval 1 22 v1 rfl rfl) h1
  have lt1 : ∀ x ∈ p1, x.block < W.heap.size := by obtain ⟨m, hm⟩ := h1; exact DataW.trod_lt m _ _ _ hm
  obtain ⟨n2, rfl, rfl, rfl, w2⟩ := open_int u3 (hval 2 3 v2 rfl rfl) h2
  obtain ⟨n3, rfl, rfl, rfl, w3⟩ := open_int u3 (hval 3 3 v3 rfl rfl) h3
  refine (entry (args := #[f0 0, f1 1, .int .i64 n2, .int .i64 n3]) (A := [a0, a1]) hL (by intro a ha; simp only [List.mem_cons, List.not_mem_nil, or_false] at ha; rcases ha with rfl | rfl <;> assumption) (fun bm => (arel_cons ((A0 _ 0 rfl).2 bm) (arel_cons ((A1 _ 1 rfl).2 bm) (arel_cons (.int _ _) (arel_cons (.int _ _) arel_nil))))) (fun b => ?_)).mono ?_
  · obtain ⟨v, m, h, hv, _⟩ := spec_BitsMembers (glob0 b _) ((A0 [a0, a1] 0 rfl).1 b).ints ((A1 [a0, a1] 1 rfl).1 b).ints
    exact ⟨v, m, h, hv⟩
  · rintro e W' ⟨rfl, bel⟩
    exact ⟨_, rfl, _, _, _, [], _, [], hW', trodAll_mk1 (shut_bool u4 _), (trodAll_cons_mk (Below.trod laidOut (by kernel_rfl) (of_decide_eq_true (by kernel_rfl)) h0 bel lt0) (trodAll_cons_mk (Below.trod laidOut (by kernel_rfl) (of_decide_eq_true (by kernel_rfl)) h1 bel lt1) (trodAll_cons_mk (shut_int u3 w2) (trodAll_cons_mk (shut_int u3 w3) trodAll_mk0)))), rfl, bel.frame _, fun h => by cases h⟩
theorem bitsMembers_holds : Rows.BitsMembersSaid :=
  OpenClaim.holds_of_wide 11 Tryd.f11 rfl rfl rfl rfl rfl rfl rfl ⟨rfl, rfl, rfl, rfl, rfl⟩ rfl rfl rfl rfl rfl (by kernel_rfl) Tryd.func11 (by kernel_rfl)
    (of_decide_eq_true (by kernel_rfl)) (by unfold Func.isWrapper; first | (rw [if_pos (by decide +kernel)]; kernel_rfl) | (rw [if_neg (by decide +kernel)]; exact ⟨rfl, rfl⟩))
    (fun os started H enc _ => lifted11 os started H enc)
theorem bitsMembersCard_holds : Rows.BitsMembersCardSaid :=
  Claim7.holds_tied_plain_at .later [] [.data, .data, .funcs] true (true, "4e90e708c3a0b8b9bd838c7bc74774a1a5a946fb69b32deeeece4d3212f6d5ce") false
    bitsMembers_holds (fun _ h => by cases h) (by kernel_rfl) (fun _ h => by cases h) bitsMembers_row_tie rfl ⟨rfl, rfl⟩ (by kernel_rfl) rfl
    (fun f fn hf hfn => by
      obtain rfl : f = 11 := Option.some.inj ((show Tryd.prog.funcNamed "spoondrift/spoondriftlaw02.BitsMembers" = some 11 by kernel_rfl).symm.trans hf) |>.symm
      obtain rfl : fn = Tryd.f11 := (Option.some.inj (Tryd.func11.symm.trans hfn)).symm
      exact ⟨by kernel_rfl, fun j t ht => by
        have hm : t ∈ [22, 22, 3, 3] := by simpa using Array.mem_of_getElem? (show (#[22, 22, 3, 3] : Array Nat)[j]? = some t from ht)
        have hall : ([22, 22, 3, 3].all fun u => !Tryd.prog.wantsStandIn u) = true := by kernel_rfl
        exact (show Tryd.prog.wantsStandIn t = false by simpa using List.all_eq_true.1 hall t hm)⟩)
    (by kernel_rfl)
end Go.Proofs.YtgiidbomifmcaaaDoor
