/- BitsMatrices: the walk, the row, the card. -/
import Derived.Test.YtgiidbomifmcaaaDoorRef
import Derived.Test.YtgiidbomifmcaaaDoorBitsC
import Derived.Test.YtgiidbomifmcaaaDoorRefB
import Derived.Test.YtgiidbomifmcaaaDoorEntryB
import Derived.Carry
import Derived.Test.YtgiidbomifmcaaaDoorTie
import Derived.Test.YtgiidbomifmcaaaDoorCards
set_option linter.unusedVariables false
set_option linter.unusedSimpArgs false
/-! ### E30 -/
namespace Go.AM
open Go.Proofs
set_option maxRecDepth 100000
set_option linter.unusedVariables false
set_option linter.unusedSimpArgs false
theorem kall40 : callable Tryd.prog 40 = true := by kernel_rfl
theorem kall60 : callable Tryd.prog 60 = true := by kernel_rfl
theorem kall59 : callable Tryd.prog 59 = true := by kernel_rfl
theorem Mid.ext {N B : Nat} {m0 m m' : Mem} (h : Mid N B m m') (he : Ext m0 m) (hN : m0.size ≤ N) : Ext m0 m' := ⟨by rw [h.1]; exact he.1, fun b hb => (h.2 b (.inl (by omega))).trans (he.2 b hb)⟩
theorem Mid.own {N N' B : Nat} {m m' : Mem} {v : Value} {l : List Int} (h : Mid N B m m') (ho : OwnF N' m v l) (hB : B ≤ N') : OwnF N' m' v l :=
  ho.up fun b hb _ => h.2 b (.inr (by omega))
theorem ifOk_len {e : Nat} {l : List Nat} (h : l.length ≤ 24) : (ifOk e l []).length < 1000 := by
  unfold ifOk; split
  · omega
  · exact Nat.zero_lt_succ 999
theorem ifOk_len' {a : List Int} {n : Int} {l : List Nat} (h : checkF a n = 0 → l.length ≤ 24) : (ifOk (checkF a n) l []).length < 1000 := by
  unfold ifOk; split
  · have := h (by assumption); omega
  · exact Nat.zero_lt_succ 999
theorem checkF_le {l : List Int} {n : Int} (h : checkF l n = 0) : n.toNat ≤ 16 := by
  obtain ⟨N, L, rfl, rfl, h1, h2, _⟩ := checkF_nat h; simpa using h2

theorem okf9 : okF Tryd.prog H0 9 121 = true := by kernel_rfl
theorem spec_BitsSpans {m : Mem} {a : Value} {l : List Int} {n : Int} (hG : Glob m) (ha : IntsAt m a l) : ∃ v m', ACalls Tryd.prog 9 #[a, .int .i64 n] m v m' ∧ (v = .bool true ∧ True) := by
  have hgr := spec_great ha
  obtain ⟨q, cap, rfl⟩ := ha.len
  refine wpF (args := [_, _]) mixed okf9 (fn := Tryd.f9) rfl rfl rfl (by simp) ?_
  refine cSeq ?_
  refine cRegion ?_
  refine sAs (v := .bool false) rfl ?_
  refine sNil (kSeqN ?_)
  refine cSeq ?_   -- seq 1
  refine cSeq ?_
  refine cRegion ?_
  refine sMv (v := .slice _ _ _) rfl ?_
  refine sCall1 rfl call16 rfl hgr ?_
  refine sNil (kSeqN ?_)
  refine cCond rfl (fun c0 => ?_) (fun c0 => ?_)
  ·
    refine cSeq ?_
    refine cRegion ?_
    obtain ⟨v24, m24, h24, rfl, e24⟩ := spec_awake hG
    refine sCall0 rfl call17 h24 ?_
    refine sAs (v := .bool true) rfl ?_
    refine sNil (kSeqN ?_)
    refine cRet (kSeqR ?_)
    exact ⟨.inr rfl, _, rfl, rfl, trivial⟩
  ·
    have hl : l.length ≤ 40 := by simpa using c0
    refine cSkip (kSeqN ?_)
    refine cSeq ?_
    refine cRegion ?_
    refine sMv (v := .slice _ _ _) rfl ?_
    obtain ⟨v26, m26, h26, o26, e26⟩ := spec_Clone ha (by omega)
    have i26 := o26.ints
    obtain ⟨q26, c26, rfl⟩ := i26.len
    refine sCall1 rfl call18 rfl h26 ?_
    refine sAs (v := .slice _ _ _) rfl ?_
    refine sNil (kSeqN ?_)
    refine cSeq ?_
    refine cRegion ?_
    refine sMv (v := .slice _ _ _) rfl ?_
    refine sMv (v := .int _ _) rfl ?_
    obtain ⟨v30, m30, h30, rfl, e30⟩ := spec_refRank (n := n) (ha.ext e26) (by omega)
    have y30 := e26.trans e30
    refine sCall2 rfl call55 rfl rfl h30 ?_
    refine sMv (v := .tuple _) rfl ?_
    refine sP (v := nv _) rfl ?_   -- extract ['t27', '0']
    refine sP (v := nv _) rfl ?_   -- extract ['t27', '1']
    refine sAs (v := nv _) rfl ?_
    refine sAs (v := nv _) rfl ?_
    refine sNil (kSeqN ?_)
    refine cSeq ?_
    refine cRegion ?_
    refine sMv (v := .slice _ _ _) rfl ?_
    refine sMv (v := .int _ _) rfl ?_
    obtain ⟨v36, m36, h36, w36, rfl, o36, e36⟩ := spec_refReduce (n := n) (ha.ext y30) (by omega)
    have y36 := y30.trans e36
    obtain ⟨q36, c36, rfl⟩ := o36.ints.lenN
    refine sCall2 rfl call56 rfl rfl h36 ?_
    refine sMv (v := .tuple _) rfl ?_
    refine sP (v := .slice _ _ _) rfl ?_   -- extract ['t33', '0']
    refine sP (v := nv _) rfl ?_   -- extract ['t33', '1']
    refine sAs (v := .slice _ _ _) rfl ?_
    refine sAs (v := nv _) rfl ?_
    refine sNil (kSeqN ?_)
    refine cSeq ?_
    refine cRegion ?_
    refine sMv (v := .slice _ _ _) rfl ?_
    refine sMv (v := .int _ _) rfl ?_
    obtain ⟨v42, m42, h42, w42, rfl, o42, e42⟩ := spec_refFree (n := n) (ha.ext y36) (by omega)
    have y42 := y36.trans e42
    obtain ⟨q42, c42, rfl⟩ := o42.ints.lenN
    refine sCall2 rfl call57 rfl rfl h42 ?_
    refine sMv (v := .tuple _) rfl ?_
    refine sP (v := .slice _ _ _) rfl ?_   -- extract ['t39', '0']
    refine sP (v := nv _) rfl ?_   -- extract ['t39', '1']
    refine sAs (v := .slice _ _ _) rfl ?_
    refine sAs (v := nv _) rfl ?_
    refine sNil (kSeqN ?_)
    refine cSeq ?_
    refine cRegion ?_
    refine sMv (v := .slice _ _ _) rfl ?_
    refine sMv (v := .int _ _) rfl ?_
    obtain ⟨v48, m48, h48, w48, rfl, o48, e48⟩ := spec_refNull (n := n) (ha.ext y42) (by omega)
    have y48 := y42.trans e48
    obtain ⟨q48, c48, rfl⟩ := o48.ints.lenN
    refine sCall2 rfl call58 rfl rfl h48 ?_
    have z48 := ((e30.trans e36).trans e42).trans e48
    refine sMv (v := .tuple _) rfl ?_
    refine sP (v := .slice _ _ _) rfl ?_   -- extract ['t45', '0']
    refine sP (v := nv _) rfl ?_   -- extract ['t45', '1']
    refine sAs (v := .slice _ _ _) rfl ?_
    refine sAs (v := nv _) rfl ?_
    refine sNil (kSeqN ?_)
    refine cSeq ?_
    refine cRegion ?_
    refine sMv (v := .slice _ _ _) rfl ?_
    refine sMv (v := .int _ _) rfl ?_
    obtain ⟨v54, m54, h54, rfl, e54⟩ := spec_Rank (n := n) (i26.ext z48) (by omega)
    have z54 := z48.trans e54
    refine sCall2 rfl kall40 rfl rfl h54 ?_
    refine sMv (v := .tuple _) rfl ?_
    refine sP (v := nv _) rfl ?_   -- extract ['t51', '0']
    refine sP (v := nv _) rfl ?_   -- extract ['t51', '1']
    refine sAs (v := nv _) rfl ?_
    refine sAs (v := nv _) rfl ?_
    refine sNil (kSeqN ?_)
    refine cSeq ?_
    refine cRegion ?_
    refine sMv (v := .slice _ _ _) rfl ?_
    refine sMv (v := .int _ _) rfl ?_
    obtain ⟨v60, m60, h60, w60, rfl, o60, e60⟩ := spec_Reduce (n := n) (i26.ext z54) (by omega)
    have z60 := z54.trans e60
    obtain ⟨q60, c60, rfl⟩ := o60.ints.lenN
    refine sCall2 rfl call43 rfl rfl h60 ?_
    refine sMv (v := .tuple _) rfl ?_
    refine sP (v := .slice _ _ _) rfl ?_   -- extract ['t57', '0']
    refine sP (v := nv _) rfl ?_   -- extract ['t57', '1']
    refine sAs (v := .slice _ _ _) rfl ?_
    refine sAs (v := nv _) rfl ?_
    refine sNil (kSeqN ?_)
    refine cSeq ?_
    refine cRegion ?_
    refine sMv (v := .slice _ _ _) rfl ?_
    refine sMv (v := .int _ _) rfl ?_
    obtain ⟨v66, m66, h66, w66, rfl, o66, e66⟩ := spec_Free (n := n) (hG.ext (e26.trans z60)) (i26.ext z60) (by omega)
    have z66 := z60.trans e66
    obtain ⟨q66, c66, rfl⟩ := o66.ints.lenN
    refine sCall2 rfl kall59 rfl rfl h66 ?_
    refine sMv (v := .tuple _) rfl ?_
    refine sP (v := .slice _ _ _) rfl ?_   -- extract ['t63', '0']
    refine sP (v := nv _) rfl ?_   -- extract ['t63', '1']
    refine sAs (v := .slice _ _ _) rfl ?_
    refine sAs (v := nv _) rfl ?_
    refine sNil (kSeqN ?_)
    refine cSeq ?_
    refine cRegion ?_
    refine sMv (v := .slice _ _ _) rfl ?_
    refine sMv (v := .int _ _) rfl ?_
    obtain ⟨v72, m72, h72, w72, rfl, o72, e72⟩ := spec_Null (n := n) (hG.ext (e26.trans z66)) (i26.ext z66) (by omega)
    have z72 := z66.trans e72
    obtain ⟨q72, c72, rfl⟩ := o72.ints.lenN
    refine sCall2 rfl call39 rfl rfl h72 ?_
    refine sMv (v := .tuple _) rfl ?_
    refine sP (v := .slice _ _ _) rfl ?_   -- extract ['t69', '0']
    refine sP (v := nv _) rfl ?_   -- extract ['t69', '1']
    refine sAs (v := .slice _ _ _) rfl ?_
    refine sAs (v := nv _) rfl ?_
    refine sNil (kSeqN ?_)
    refine cSeq ?_
    refine cRegion ?_
    refine sMv (v := .slice _ _ _) rfl ?_
    refine sMv (v := .int _ _) rfl ?_
    obtain ⟨m77, h77, e77⟩ := spec_Check (n := n) (i26.ext z72) (by omega)
    have z77 := z72.trans e77
    have y77 := e26.trans z77
    refine sCall2 rfl kall60 rfl rfl h77 ?_
    refine sMv (v := .slice _ _ _) rfl ?_
    refine sMv (v := .int _ _) rfl ?_
    refine sCall2 rfl call61 rfl rfl (spec_refCheck (n := n) (ha.ext y77) (by omega)) ?_
    refine sBin (v := .bool true) (a := checkF l n) (b := checkF l n) rfl rfl (by rw [aInt_eql, decide_eq_true rfl]) ?_
    refine sMv (v := .bool true) rfl ?_
    refine sG rfl rfl ?_
    refine sMv (v := nv _) rfl ?_
    refine sG rfl rfl ?_
    refine sMv (v := nv _) rfl ?_
    refine sG rfl rfl ?_
    refine sBin (v := .bool true) (a := ifOk (checkF l n) (redM (nats l)).length 0) (b := ifOk (checkF l n) (redM (nats l)).length 0) rfl rfl (by rw [aInt_eql, decide_eq_true rfl]) ?_
    refine sP (v := .bool true) rfl ?_
    refine sMv (v := .bool true) rfl ?_
    refine sG rfl rfl ?_
    refine sMv (v := nv _) rfl ?_
    refine sG rfl rfl ?_
    refine sMv (v := nv _) rfl ?_
    refine sG rfl rfl ?_
    refine sBin (v := .bool true) (a := checkF l n) (b := checkF l n) rfl rfl (by rw [aInt_eql, decide_eq_true rfl]) ?_
    refine sP (v := .bool true) rfl ?_
    refine sMv (v := .bool true) rfl ?_
    refine sG rfl rfl ?_
    refine sMv (v := .slice _ _ _) rfl ?_
    refine sG rfl rfl ?_
    refine sMv (v := .slice _ _ _) rfl ?_
    refine sG rfl rfl ?_
    refine sMv (v := nv _) rfl ?_
    refine sG rfl rfl ?_
    refine sMv (v := nv _) rfl ?_
    refine sG rfl rfl ?_
    have w77 : Ext m60 m77 := (e66.trans e72).trans e77
    obtain ⟨v97, m97, h97, rfl, k97⟩ := spec_told (e := checkF l n) (w := checkF l n) o60 (o60.ext w77) (o36.ints.ext (((e42.trans e48).trans e54).trans (e60.trans w77))) (ifOk_len (redM_length _))
    rw [decide_eq_true (And.intro rfl rfl)] at h97
    refine sCall4 rfl call30 rfl rfl rfl rfl h97 ?_
    refine sP (v := .bool true) rfl ?_
    refine sMv (v := .bool true) rfl ?_
    refine sG rfl rfl ?_
    refine sMv (v := .slice _ _ _) rfl ?_
    refine sG rfl rfl ?_
    refine sMv (v := .slice _ _ _) rfl ?_
    refine sG rfl rfl ?_
    refine sMv (v := nv _) rfl ?_
    refine sG rfl rfl ?_
    refine sMv (v := nv _) rfl ?_
    refine sG rfl rfl ?_
    have o66' : OwnF m60.size m97 _ _ := k97.own (o66.ext (e72.trans e77)) (Nat.le_refl _)
    have y97 : Ext m42 m97 := k97.ext ((e48.trans e54).trans (e60.trans w77)) (Nat.le_trans e48.1 e54.1)
    obtain ⟨v104, m104, h104, rfl, k104⟩ := spec_told (e := checkF l n) (w := checkF l n) o66 o66' (o42.ints.ext y97) (ifOk_len' fun h => Nat.le_trans (ledM_length _ _ _) (Nat.le_trans (checkF_le h) (by decide)))
    rw [decide_eq_true (And.intro rfl rfl)] at h104
    refine sCall4 rfl call30 rfl rfl rfl rfl h104 ?_
    refine sP (v := .bool true) rfl ?_
    refine sMv (v := .bool true) rfl ?_
    refine sG rfl rfl ?_
    refine sMv (v := .slice _ _ _) rfl ?_
    refine sG rfl rfl ?_
    refine sMv (v := .slice _ _ _) rfl ?_
    refine sG rfl rfl ?_
    refine sMv (v := nv _) rfl ?_
    refine sG rfl rfl ?_
    refine sMv (v := nv _) rfl ?_
    refine sG rfl rfl ?_
    have o72' : OwnF m66.size m104 _ _ := k104.own (k97.own (o72.ext e77) e66.1) (Nat.le_refl _)
    have y104 : Ext m48 m104 := k104.ext (k97.ext (e54.trans (e60.trans w77)) e54.1) (Nat.le_trans e54.1 e60.1)
    obtain ⟨v111, m111, h111, rfl, k111⟩ := spec_told (e := checkF l n) (w := checkF l n) o72 o72' (o48.ints.ext y104) (ifOk_len' fun h => Nat.le_trans (nullM_len _ _ (Nat.le_trans (checkF_le h) (by decide))) (Nat.le_trans (checkF_le h) (by decide)))
    rw [decide_eq_true (And.intro rfl rfl)] at h111
    refine sCall4 rfl call30 rfl rfl rfl rfl h111 ?_
    have y111 : Ext m48 m111 := k111.ext y104 (Nat.le_trans e54.1 (Nat.le_trans e60.1 e66.1))
    refine sP (v := .bool true) rfl ?_
    refine sMv (v := .bool true) rfl ?_
    refine sG rfl rfl ?_
    refine sMv (v := .slice _ _ _) rfl ?_
    refine sG rfl rfl ?_
    refine sMv (v := .slice _ _ _) rfl ?_
    refine sG rfl rfl ?_
    have h116 := spec_Equal ((i26.ext z48).ext y111) ((ha.ext y48).ext y111) (by omega)
    rw [decide_eq_true rfl] at h116
    refine sCall2 rfl call23 rfl rfl h116 ?_
    refine sP (v := .bool true) rfl ?_
    refine sMv (v := .bool true) rfl ?_
    refine sG rfl rfl ?_
    obtain ⟨v119, m119, h119, rfl, e119⟩ := spec_awake (hG.ext (y48.trans y111))
    refine sCall0 rfl call17 h119 ?_
    refine sP (v := .bool true) rfl ?_
    refine sAs (v := .bool true) rfl ?_
    refine sNil (kSeqN ?_)
    refine cRet ?_
    exact ⟨.inr rfl, _, rfl, rfl, trivial⟩

end Go.AM

/-! ### E36 -/
namespace Go.AM
open Go.Proofs
set_option maxRecDepth 100000
set_option linter.unusedVariables false
set_option linter.unusedSimpArgs false
theorem kall51 : callable Tryd.prog 51 = true := by kernel_rfl
theorem kall52 : callable Tryd.prog 52 = true := by kernel_rfl
theorem kall53 : callable Tryd.prog 53 = true := by kernel_rfl
theorem kall54 : callable Tryd.prog 54 = true := by kernel_rfl
theorem call47 : callable Tryd.prog 47 = true := by kernel_rfl
theorem call48 : callable Tryd.prog 48 = true := by kernel_rfl
theorem call49 : callable Tryd.prog 49 = true := by kernel_rfl
theorem call50 : callable Tryd.prog 50 = true := by kernel_rfl
theorem Mid.low {N B : Nat} {m m' : Mem} (h : Mid N B m m') : Low N m m' := ⟨by rw [h.1]; exact Nat.le_refl _, fun b hb => h.2 b (.inl hb)⟩
theorem ifOk_lenG {e : Nat} {L : List Nat} (h : e = 0 → L.length ≤ 24) : (ifOk e L []).length < 1000 := by
  unfold ifOk; split
  · have := h (by assumption); omega
  · exact Nat.zero_lt_succ 999
theorem checkF_len {l : List Int} {n : Int} (h : checkF l n = 0) : n.toNat ≤ 16 ∧ (nats l).length ≤ 24 := by
  obtain ⟨N, L, rfl, rfl, h1, h2, h3, h4⟩ := checkF_nat h
  exact ⟨by simpa using h2, by rw [nats_ofs]; exact h3⟩
theorem mulE_len {l r : List Int} {n k : Int} (h : mulE l n r k = 0) : (mulM (nats l) (nats r)).length ≤ 24 := by
  unfold mulE at h
  split at h
  · rw [mulM, List.length_map]; exact (checkF_len (by assumption)).2
  · exact absurd h (by assumption)
theorem turnE_len {l : List Int} {n : Int} (h : turnE l n = 0) : (turnedM (nats l) n.toNat).length ≤ 24 := by
  unfold turnE at h
  split at h
  · rw [turnedM_length]; have := (checkF_len (by assumption)).1; omega
  · exact absurd h (by assumption)
theorem invE_len {l : List Int} {n : Int} (h : invE l n = 0) : (invL (nats l) n.toNat).length ≤ 24 := by
  unfold invE at h
  split at h
  · rw [invL, List.length_map, List.length_range]; have := (checkF_len (by assumption)).1; omega
  · exact absurd h (by assumption)
theorem identE_len {n : Int} (h : identE n = 0) : (oneM n.toNat).length ≤ 24 := by
  unfold identE at h
  split at h
  · cases h
  · rw [oneM, List.length_map, List.length_range]; omega

theorem okf8 : okF Tryd.prog H0 8 127 = true := by kernel_rfl
theorem spec_BitsMatrices {m : Mem} {a b : Value} {l r : List Int} {n k : Int} (hG : Glob m) (ha : IntsAt m a l) (hb : IntsAt m b r) : ∃ v m', ACalls Tryd.prog 8 #[a, .int .i64 n, b, .int .i64 k] m v m' ∧ (v = .bool true ∧ True) := by
  have hgr := spec_great ha
  have hgr2 := spec_great hb
  obtain ⟨q, cap, rfl⟩ := ha.len
  obtain ⟨qb, capb, rfl⟩ := hb.len
  refine wpF (args := [_, _, _, _]) mixed okf8 (fn := Tryd.f8) rfl rfl rfl (by simp) ?_
  refine cSeq ?_
  refine cRegion ?_
  refine sAs (v := .bool false) rfl ?_
  refine sNil (kSeqN ?_)
  refine cSeq ?_   -- seq 1
  refine cSeq ?_
  refine cRegion ?_
  refine sMv (v := .slice _ _ _) rfl ?_
  refine sCall1 rfl call16 rfl hgr ?_
  refine sMv (v := .bool _) rfl ?_
  by_cases h1 : 40 < l.length
  ·
    rw [decide_eq_true h1]
    refine sGno (q' := true) rfl rfl (by simp) ?_
    refine sGno (q' := true) rfl rfl (by simp) ?_
    refine sP (v := .bool _) rfl ?_
    refine sNil (kSeqN ?_)
    refine cCondT rfl ?_
    refine cSeq ?_
    refine cRegion ?_
    obtain ⟨v24, m24, h24, rfl, e24⟩ := spec_awake hG
    refine sCall0 rfl call17 h24 ?_
    refine sAs (v := .bool true) rfl ?_
    refine sNil (kSeqN ?_)
    refine cRet (kSeqR ?_)
    exact ⟨.inr rfl, _, rfl, rfl, trivial⟩
  ·
    rw [decide_eq_false h1]
    refine sG rfl rfl ?_
    refine sMv (v := .slice _ _ _) rfl ?_
    refine sG rfl rfl ?_
    refine sCall1 rfl call16 rfl hgr2 ?_
    refine sP (v := .bool _) rfl ?_
    refine sNil (kSeqN ?_)
    refine cCond (p := 40 < r.length) rfl (fun c1 => ?_) (fun c1 => ?_)
    ·
      refine cSeq ?_
      refine cRegion ?_
      obtain ⟨v24, m24, h24, rfl, e24⟩ := spec_awake hG
      refine sCall0 rfl call17 h24 ?_
      refine sAs (v := .bool true) rfl ?_
      refine sNil (kSeqN ?_)
      refine cRet (kSeqR ?_)
      exact ⟨.inr rfl, _, rfl, rfl, trivial⟩
    ·
      have hl : l.length ≤ 40 := by omega
      have hr : r.length ≤ 40 := by omega
      refine cSkip (kSeqN ?_)
      refine cSeq ?_
      refine cRegion ?_
      refine sMv (v := .slice _ _ _) rfl ?_
      obtain ⟨v35, m35, h35, o35, e35⟩ := spec_Clone ha (by omega)
      have i35 := o35.ints
      obtain ⟨q35, c35, rfl⟩ := i35.len
      refine sCall1 rfl call18 rfl h35 ?_
      refine sMv (v := .slice _ _ _) rfl ?_
      obtain ⟨v37, m37, h37, o37, e37⟩ := spec_Clone (hb.ext e35) (by omega)
      have i37 := o37.ints
      obtain ⟨q37, c37, rfl⟩ := i37.len
      have e0 := e35.trans e37
      have j35 := i35.ext e37
      have ja := ha.ext e0
      have jb := hb.ext e0
      have hG0 := hG.ext e0
      refine sCall1 rfl call18 rfl h37 ?_
      refine sAs (v := .slice _ _ _) rfl ?_
      refine sAs (v := .slice _ _ _) rfl ?_
      refine sNil (kSeqN ?_)
      refine cSeq ?_
      refine cRegion ?_
      refine sMv (v := .slice _ _ _) rfl ?_
      refine sMv (v := .int _ _) rfl ?_
      refine sMv (v := .slice _ _ _) rfl ?_
      refine sMv (v := .int _ _) rfl ?_
      obtain ⟨v43, m43, h43, w43, rfl, o43, e43⟩ := spec_refMul (n := n) (k := k) ja jb (by omega) (by omega)
      have i43 := o43.ints
      obtain ⟨q43, c43, rfl⟩ := i43.lenN
      refine sCall4 rfl call47 rfl rfl rfl rfl h43 ?_
      refine sMv (v := .tuple _) rfl ?_
      refine sP (v := .slice _ _ _) rfl ?_   -- extract ['t38', '0']
      refine sP (v := nv _) rfl ?_   -- extract ['t38', '1']
      refine sAs (v := .slice _ _ _) rfl ?_
      refine sAs (v := nv _) rfl ?_
      refine sNil (kSeqN ?_)
      refine cSeq ?_
      refine cRegion ?_
      refine sMv (v := .slice _ _ _) rfl ?_
      refine sMv (v := .int _ _) rfl ?_
      obtain ⟨v49, m49, h49, w49, rfl, o49, e49⟩ := spec_refTranspose (n := n) (ja.ext e43) (by omega)
      have z49 := e43.trans e49
      have i49 := o49.ints
      obtain ⟨q49, c49, rfl⟩ := i49.lenN
      refine sCall2 rfl call48 rfl rfl h49 ?_
      refine sMv (v := .tuple _) rfl ?_
      refine sP (v := .slice _ _ _) rfl ?_   -- extract ['t46', '0']
      refine sP (v := nv _) rfl ?_   -- extract ['t46', '1']
      refine sAs (v := .slice _ _ _) rfl ?_
      refine sAs (v := nv _) rfl ?_
      refine sNil (kSeqN ?_)
      refine cSeq ?_
      refine cRegion ?_
      refine sMv (v := .slice _ _ _) rfl ?_
      refine sMv (v := .int _ _) rfl ?_
      obtain ⟨v55, m55, h55, w55, rfl, o55, e55⟩ := spec_refInvert (n := n) (ja.ext z49) (by omega)
      have z55 := z49.trans e55
      have i55 := o55.ints
      obtain ⟨q55, c55, rfl⟩ := i55.lenN
      refine sCall2 rfl call49 rfl rfl h55 ?_
      refine sMv (v := .tuple _) rfl ?_
      refine sP (v := .slice _ _ _) rfl ?_   -- extract ['t52', '0']
      refine sP (v := nv _) rfl ?_   -- extract ['t52', '1']
      refine sAs (v := .slice _ _ _) rfl ?_
      refine sAs (v := nv _) rfl ?_
      refine sNil (kSeqN ?_)
      refine cSeq ?_
      refine cRegion ?_
      refine sMv (v := .int _ _) rfl ?_
      obtain ⟨v60, m60, h60, w60, rfl, o60, e60⟩ := spec_refIdentity (m := m55) (n := n)
      have z60 := z55.trans e60
      have i60 := o60.ints
      obtain ⟨q60, c60, rfl⟩ := i60.lenN
      refine sCall1 rfl call50 rfl h60 ?_
      refine sMv (v := .tuple _) rfl ?_
      refine sP (v := .slice _ _ _) rfl ?_   -- extract ['t58', '0']
      refine sP (v := nv _) rfl ?_   -- extract ['t58', '1']
      refine sAs (v := .slice _ _ _) rfl ?_
      refine sAs (v := nv _) rfl ?_
      refine sNil (kSeqN ?_)
      refine cSeq ?_
      refine cRegion ?_
      refine sMv (v := .slice _ _ _) rfl ?_
      refine sMv (v := .int _ _) rfl ?_
      refine sMv (v := .slice _ _ _) rfl ?_
      refine sMv (v := .int _ _) rfl ?_
      obtain ⟨v68, m68, h68, w68, rfl, o68, e68⟩ := spec_Mul (n := n) (k := k) (j35.ext z60) (i37.ext z60) (by omega) (by omega)
      have z68 := z60.trans e68
      obtain ⟨q68, c68, rfl⟩ := o68.ints.lenN
      refine sCall4 rfl kall51 rfl rfl rfl rfl h68 ?_
      refine sMv (v := .tuple _) rfl ?_
      refine sP (v := .slice _ _ _) rfl ?_   -- extract ['t63', '0']
      refine sP (v := nv _) rfl ?_   -- extract ['t63', '1']
      refine sAs (v := .slice _ _ _) rfl ?_
      refine sAs (v := nv _) rfl ?_
      refine sNil (kSeqN ?_)
      refine cSeq ?_
      refine cRegion ?_
      refine sMv (v := .slice _ _ _) rfl ?_
      refine sMv (v := .int _ _) rfl ?_
      obtain ⟨v74, m74, h74, w74, rfl, o74, e74⟩ := spec_Transpose (n := n) (j35.ext z68) (by omega)
      have z74 := z68.trans e74
      obtain ⟨q74, c74, rfl⟩ := o74.ints.lenN
      refine sCall2 rfl kall52 rfl rfl h74 ?_
      refine sMv (v := .tuple _) rfl ?_
      refine sP (v := .slice _ _ _) rfl ?_   -- extract ['t71', '0']
      refine sP (v := nv _) rfl ?_   -- extract ['t71', '1']
      refine sAs (v := .slice _ _ _) rfl ?_
      refine sAs (v := nv _) rfl ?_
      refine sNil (kSeqN ?_)
      refine cSeq ?_
      refine cRegion ?_
      refine sMv (v := .slice _ _ _) rfl ?_
      refine sMv (v := .int _ _) rfl ?_
      obtain ⟨v80, m80, h80, w80, rfl, o80, e80⟩ := spec_Invert (n := n) (j35.ext z74) (by omega)
      have z80 := z74.trans e80
      obtain ⟨q80, c80, rfl⟩ := o80.ints.lenN
      refine sCall2 rfl kall53 rfl rfl h80 ?_
      refine sMv (v := .tuple _) rfl ?_
      refine sP (v := .slice _ _ _) rfl ?_   -- extract ['t77', '0']
      refine sP (v := nv _) rfl ?_   -- extract ['t77', '1']
      refine sAs (v := .slice _ _ _) rfl ?_
      refine sAs (v := nv _) rfl ?_
      refine sNil (kSeqN ?_)
      refine cSeq ?_
      refine cRegion ?_
      refine sMv (v := .int _ _) rfl ?_
      obtain ⟨v85, m85, h85, w85, rfl, o85, e85⟩ := spec_Identity (m := m80) (n := n)
      obtain ⟨q85, c85, rfl⟩ := o85.ints.lenN
      refine sCall1 rfl kall54 rfl h85 ?_
      refine sMv (v := .tuple _) rfl ?_
      refine sP (v := .slice _ _ _) rfl ?_   -- extract ['t83', '0']
      refine sP (v := nv _) rfl ?_   -- extract ['t83', '1']
      refine sAs (v := .slice _ _ _) rfl ?_
      refine sAs (v := nv _) rfl ?_
      refine sNil (kSeqN ?_)
      refine cSeq ?_
      refine cRegion ?_
      refine sMv (v := .slice _ _ _) rfl ?_
      refine sMv (v := .slice _ _ _) rfl ?_
      refine sMv (v := nv _) rfl ?_
      refine sMv (v := nv _) rfl ?_
      have f74 : Ext m74 m85 := e80.trans e85
      have f68 : Ext m68 m85 := e74.trans f74
      obtain ⟨v92, m92, h92, rfl, k92⟩ := spec_told (e := mulE l n r k) (w := mulE l n r k) o68 (o68.ext f68) (i43.ext ((((e49.trans e55).trans e60).trans e68).trans f68)) (ifOk_lenG mulE_len)
      rw [decide_eq_true (And.intro rfl rfl)] at h92
      refine sCall4 rfl call30 rfl rfl rfl rfl h92 ?_
      refine sMv (v := .bool true) rfl ?_
      refine sG rfl rfl ?_
      refine sMv (v := .slice _ _ _) rfl ?_
      refine sG rfl rfl ?_
      refine sMv (v := .slice _ _ _) rfl ?_
      refine sG rfl rfl ?_
      refine sMv (v := nv _) rfl ?_
      refine sG rfl rfl ?_
      refine sMv (v := nv _) rfl ?_
      refine sG rfl rfl ?_
      have o74' : OwnF m68.size m92 _ _ := k92.own (o74.ext f74) (Nat.le_refl _)
      have y92 : Ext m60 m92 := k92.ext (e68.trans f68) (Nat.le_refl _)
      obtain ⟨v98, m98, h98, rfl, k98⟩ := spec_told (e := turnE l n) (w := turnE l n) o74 o74' (i49.ext ((e55.trans e60).trans y92)) (ifOk_lenG turnE_len)
      rw [decide_eq_true (And.intro rfl rfl)] at h98
      refine sCall4 rfl call30 rfl rfl rfl rfl h98 ?_
      refine sP (v := .bool true) rfl ?_
      refine sMv (v := .bool true) rfl ?_
      refine sG rfl rfl ?_
      refine sMv (v := .slice _ _ _) rfl ?_
      refine sG rfl rfl ?_
      refine sMv (v := .slice _ _ _) rfl ?_
      refine sG rfl rfl ?_
      refine sMv (v := nv _) rfl ?_
      refine sG rfl rfl ?_
      refine sMv (v := nv _) rfl ?_
      refine sG rfl rfl ?_
      have o80' : OwnF m74.size m98 _ _ := k98.own (k92.own (o80.ext e85) e74.1) (Nat.le_refl _)
      have y98 : Ext m60 m98 := k98.ext y92 e68.1
      obtain ⟨v105, m105, h105, rfl, k105⟩ := spec_told (e := invE l n) (w := invE l n) o80 o80' (i55.ext (e60.trans y98)) (ifOk_lenG invE_len)
      rw [decide_eq_true (And.intro rfl rfl)] at h105
      refine sCall4 rfl call30 rfl rfl rfl rfl h105 ?_
      refine sP (v := .bool true) rfl ?_
      refine sMv (v := .bool true) rfl ?_
      refine sG rfl rfl ?_
      refine sMv (v := .slice _ _ _) rfl ?_
      refine sG rfl rfl ?_
      refine sMv (v := .slice _ _ _) rfl ?_
      refine sG rfl rfl ?_
      refine sMv (v := nv _) rfl ?_
      refine sG rfl rfl ?_
      refine sMv (v := nv _) rfl ?_
      refine sG rfl rfl ?_
      have o85' : OwnF m80.size m105 _ _ := k105.own (k98.own (k92.own o85 (Nat.le_trans e74.1 e80.1)) e80.1) (Nat.le_refl _)
      have y105 : Ext m60 m105 := k105.ext y98 (Nat.le_trans e68.1 e74.1)
      obtain ⟨v112, m112, h112, rfl, k112⟩ := spec_told (e := identE n) (w := identE n) o85 o85' (i60.ext y105) (ifOk_lenG identE_len)
      rw [decide_eq_true (And.intro rfl rfl)] at h112
      refine sCall4 rfl call30 rfl rfl rfl rfl h112 ?_
      have y112 : Ext m37 m112 := z60.trans (k112.ext y105 (Nat.le_trans e68.1 (Nat.le_trans e74.1 e80.1)))
      refine sP (v := .bool true) rfl ?_
      refine sMv (v := .bool true) rfl ?_
      refine sG rfl rfl ?_
      refine sMv (v := .slice _ _ _) rfl ?_
      refine sG rfl rfl ?_
      refine sMv (v := .slice _ _ _) rfl ?_
      refine sG rfl rfl ?_
      have h117 := spec_Equal (j35.ext y112) (ja.ext y112) (by omega)
      rw [decide_eq_true rfl] at h117
      refine sCall2 rfl call23 rfl rfl h117 ?_
      refine sP (v := .bool true) rfl ?_
      refine sMv (v := .bool true) rfl ?_
      refine sG rfl rfl ?_
      refine sMv (v := .slice _ _ _) rfl ?_
      refine sG rfl rfl ?_
      refine sMv (v := .slice _ _ _) rfl ?_
      refine sG rfl rfl ?_
      have h122 := spec_Equal (i37.ext y112) (jb.ext y112) (by omega)
      rw [decide_eq_true rfl] at h122
      refine sCall2 rfl call23 rfl rfl h122 ?_
      refine sP (v := .bool true) rfl ?_
      refine sMv (v := .bool true) rfl ?_
      refine sG rfl rfl ?_
      obtain ⟨v125, m125, h125, rfl, e125⟩ := spec_awake (hG0.ext y112)
      refine sCall0 rfl call17 h125 ?_
      refine sP (v := .bool true) rfl ?_
      refine sAs (v := .bool true) rfl ?_
      refine sNil (kSeqN ?_)
      refine cRet ?_
      exact ⟨.inr rfl, _, rfl, rfl, trivial⟩

end Go.AM

/-! ### F7 -/
namespace Go.Proofs.YtgiidbomifmcaaaDoor
open Go Go.AM Go.ChangeShapes Go.WideShapes Go.ChangeAt Go.WideMaps Go.WideElems Go.RowKit
set_option maxRecDepth 100000
set_option linter.unusedVariables false
theorem own : ownKnob Tryd.prog.godebug = none := by kernel_rfl
/-- The door's own heap meets the condition: three closed facts. -/
theorem door_met (os : Os) (args : Array Value) : laidMetH Tryd.prog laid3 ((World.doorLaid Tryd.prog 400 os).forCall (fun _ _ => 0) ⟨#[], args, []⟩).memory :=
  laidMetH_of_parts3 (fuel := 8) (laidMet_of_run' 8 (by kernel_rfl) (by kernel_rfl)) (by kernel_rfl) (by kernel_rfl)
theorem lifted8 (os : Os) (started : os.Started) (H : Type) (enc : TypeId × Value → H) :
    ReturnsInHanded {} Tryd.checked os 8 .any (fun w args => (Rows.bitsMatricesSpec.pre enc Tryd.prog Tryd.f8 [] false w args ∧ laidMetH Tryd.prog laid3 w) ∧ sizedMet enc Tryd.prog Tryd.f8 (OpenSpec.ofChange Rows.bitsMatricesSpec) false w args)
      (Rows.bitsMatricesSpec.post enc Tryd.prog Tryd.f8 false true false false) := by
  refine returnsInHanded_of_change_and (C := Tryd.checked) (X := fun w _ => laidMetH Tryd.prog laid3 w) (fun _ _ _ hh h => h.of_heap hh) own started (by kernel_rfl) Tryd.func8
    (ChangeSpec.witness_shaped (enc := enc) (C := Tryd.checked) (os := os) (X := fun w _ => laidMetH Tryd.prog laid3 w) false (World.doorLaid Tryd.prog 400 os) #[.slice none 0 0, .int .i64 0, .slice none 0 0, .int .i64 0] 8 rfl (World.shaped_of_RefB (by kernel_rfl) (by kernel_rfl)) (by kernel_rfl) (by kernel_rfl) (by kernel_rfl) (door_met os _)) ?_
  intro W base args ds gs before hval0 hW _ _ hL _
  have hval : ∀ (j : Nat) t v, Tryd.f8.params[j]? = some t → args[j]? = some v → Value.okWide Tryd.prog W .any base t v := hval0
  have hW' := hW
  obtain ⟨p, q, hA0, hV, rfl, hfz, hnd⟩ := hW
  have hA : DataW.TrodAll enc Tryd.prog W 0 (fun _ => true) true [22, 3, 22, 3] args.toList ds p := hA0
  obtain ⟨v0, vs0, d0, ds0, p0, q0, hargs, rfl, rfl, h0, r0⟩ := trodAll_cons hA
  obtain ⟨v1, vs1, d1, ds1, p1, q1, rfl, rfl, rfl, h1, r1⟩ := trodAll_cons r0
  obtain ⟨v2, vs2, d2, ds2, p2, q2, rfl, rfl, rfl, h2, r2⟩ := trodAll_cons r1
  obtain ⟨v3, vs3, d3, ds3, p3, q3, rfl, rfl, rfl, h3, r3⟩ := trodAll_cons r2
  obtain ⟨rfl, rfl, rfl⟩ := trodAll_nil r3
  obtain rfl : args = #[v0, v1, v2, v3] := by cases args; simp_all
  obtain ⟨rfl, rfl⟩ := trodVars_none hV
  obtain ⟨a0, l0, f0, ok0, wf0, A0⟩ := ints_arg hL u22 u3 c3 (hval 0 22 v0 rfl rfl) h0
  have lt0 : ∀ x ∈ p0, x.block < W.heap.size := by obtain ⟨m, hm⟩ := h0; exact DataW.trod_lt m _ _ _ hm
  obtain ⟨n1, rfl, rfl, rfl, w1⟩ := open_int u3 (hval 1 3 v1 rfl rfl) h1
  obtain ⟨a2, l2, f2, ok2, wf2, A2⟩ := ints_arg hL u22 u3 c3 (hval 2 22 v2 rfl rfl) h2
  have lt2 : ∀ x ∈ p2, x.block < W.heap.size := by obtain ⟨m, hm⟩ := h2; exact DataW.trod_lt m _ _ _ hm
  obtain ⟨n3, rfl, rfl, rfl, w3⟩ := open_int u3 (hval 3 3 v3 rfl rfl) h3
  refine (entry (args := #[f0 0, .int .i64 n1, f2 1, .int .i64 n3]) (A := [a0, a2]) hL (by intro a ha; simp only [List.mem_cons, List.not_mem_nil, or_false] at ha; rcases ha with rfl | rfl <;> assumption) (fun bm => (arel_cons ((A0 _ 0 rfl).2 bm) (arel_cons (.int _ _) (arel_cons ((A2 _ 1 rfl).2 bm) (arel_cons (.int _ _) arel_nil))))) (fun b => ?_)).mono ?_
  · obtain ⟨v, m, h, hv, _⟩ := spec_BitsMatrices (glob0 b _) ((A0 [a0, a2] 0 rfl).1 b).ints ((A2 [a0, a2] 1 rfl).1 b).ints
    exact ⟨v, m, h, hv⟩
  · rintro e W' ⟨rfl, bel⟩
    exact ⟨_, rfl, _, _, _, [], _, [], hW', trodAll_mk1 (shut_bool u4 _), (trodAll_cons_mk (Below.trod laidOut (by kernel_rfl) (of_decide_eq_true (by kernel_rfl)) h0 bel lt0) (trodAll_cons_mk (shut_int u3 w1) (trodAll_cons_mk (Below.trod laidOut (by kernel_rfl) (of_decide_eq_true (by kernel_rfl)) h2 bel lt2) (trodAll_cons_mk (shut_int u3 w3) trodAll_mk0)))), rfl, bel.frame _, fun h => by cases h⟩
theorem bitsMatrices_holds : Rows.BitsMatricesSaid :=
  OpenClaim.holds_of_wide 8 Tryd.f8 rfl rfl rfl rfl rfl rfl rfl ⟨rfl, rfl, rfl, rfl, rfl⟩ rfl rfl rfl rfl rfl (by kernel_rfl) Tryd.func8 (by kernel_rfl)
    (of_decide_eq_true (by kernel_rfl)) (by unfold Func.isWrapper; first | (rw [if_pos (by decide +kernel)]; kernel_rfl) | (rw [if_neg (by decide +kernel)]; exact ⟨rfl, rfl⟩))
    (fun os started H enc _ => lifted8 os started H enc)
theorem bitsMatricesCard_holds : Rows.BitsMatricesCardSaid :=
  Claim7.holds_tied_plain_at .later [] [.data, .data, .funcs] true (true, "4e90e708c3a0b8b9bd838c7bc74774a1a5a946fb69b32deeeece4d3212f6d5ce") false
    bitsMatrices_holds (fun _ h => by cases h) (by kernel_rfl) (fun _ h => by cases h) bitsMatrices_row_tie rfl ⟨rfl, rfl⟩ (by kernel_rfl) rfl
    (fun f fn hf hfn => by
      obtain rfl : f = 8 := Option.some.inj ((show Tryd.prog.funcNamed "spoondrift/spoondriftlaw02.BitsMatrices" = some 8 by kernel_rfl).symm.trans hf) |>.symm
      obtain rfl : fn = Tryd.f8 := (Option.some.inj (Tryd.func8.symm.trans hfn)).symm
      exact ⟨by kernel_rfl, fun j t ht => by
        have hm : t ∈ [22, 3, 22, 3] := by simpa using Array.mem_of_getElem? (show (#[22, 3, 22, 3] : Array Nat)[j]? = some t from ht)
        have hall : ([22, 3, 22, 3].all fun u => !Tryd.prog.wantsStandIn u) = true := by kernel_rfl
        exact (show Tryd.prog.wantsStandIn t = false by simpa using List.all_eq_true.1 hall t hm)⟩)
    (by kernel_rfl)
end Go.Proofs.YtgiidbomifmcaaaDoor
