/- Contracts of the reference (part 2). -/
import Derived.Test.YtgiidbomifmcaaaDoorRef
import Derived.Test.YtgiidbomifmcaaaDoorPlainC
set_option linter.unusedVariables false
set_option linter.unusedSimpArgs false
/-! ### E31 -/
namespace Go.AM
open Go.Proofs
set_option maxRecDepth 100000
set_option linter.unusedVariables false
set_option linter.unusedSimpArgs false
theorem call19 : callable Tryd.prog 19 = true := by kernel_rfl
theorem call20 : callable Tryd.prog 20 = true := by kernel_rfl
theorem call70' : callable Tryd.prog 70 = true := by kernel_rfl
theorem row_lt {row : Int} {N : Nat} (h : 0 ≤ row ∧ row < 2 ^ N) : ∃ r : Nat, row = Int.ofNat r ∧ r < 2 ^ N := by
  refine ⟨row.toNat, by simp; omega, ?_⟩
  have h1 : row < ((2 ^ N : Nat) : Int) := by exact_mod_cast h.2
  omega
theorem lt62' {x n : Nat} (hx : x < 2 ^ n) (hn : n ≤ 62) : x < 2 ^ 62 := Nat.lt_of_lt_of_le hx (Nat.pow_le_pow_right (by omega) hn)
theorem sol_some {o : Option Nat} {w : Nat × Nat} (h : o = if w.1 = 0 then some w.2 else none) : o.isSome = decide (w.1 = 0) ∧ o.getD 0 = if w.1 = 0 then w.2 else 0 := by
  subst h; by_cases e : w.1 = 0 <;> simp [e]
theorem imgP_testBit (l : List Nat) (x j : Nat) : ∀ i, (imgP l x i).testBit j = (decide (j < i) && dot (l.getD j 0) x)
  | 0 => by simp [imgP]
  | i + 1 => by
    rw [imgP, Nat.testBit_or, imgP_testBit l x j i]
    have hp := parity_lt (l.getD i 0 &&& x)
    have e : (parity (l.getD i 0 &&& x) <<< i).testBit j = (decide (j = i) && dot (l.getD i 0) x) := by
      unfold dot
      have h2 : parity (l.getD i 0 &&& x) = 0 ∨ parity (l.getD i 0 &&& x) = 1 := by omega
      rcases h2 with h2 | h2 <;> rw [h2]
      · simp
      · rw [Nat.shiftLeft_eq, Nat.one_mul, Nat.testBit_two_pow, decide_eq_true rfl, Bool.and_true]
        exact decide_eq_decide.2 ⟨fun h => h.symm, fun h => h.symm⟩
    rw [e]
    by_cases h : j = i
    · subst h; simp
    · rw [decide_eq_false h, show decide (j < i + 1) = decide (j < i) from decide_eq_decide.2 (by omega)]; simp
theorem imgP_total {l : List Nat} {n x : Nat} (hx : x < 2 ^ n) : imgP l x l.length = total (turnedM l n) x := by
  apply Nat.eq_of_testBit_eq; intro j
  rw [imgP_testBit, total_turned hx]
  by_cases h : j < l.length
  · simp [h]
  · rw [getD_out (by omega), zero_dot]; simp

theorem okf19 : okF Tryd.prog H0 19 32 = true := by kernel_rfl
theorem spec_refSolve {m : Mem} {a : Value} {l : List Int} {n b : Int} (ha : IntsAt m a l) (hl : l.length < 4611686018427387904) : ∃ v m', ACalls Tryd.prog 19 #[a, .int .i64 n, .int .i64 b] m v m' ∧ (v = .tuple #[nv (ifOk (solveE l n b) (whichM (turnedM (nats l) n.toNat) b.toNat).2 0), nv (solveE l n b)] ∧ Ext m m') := by
  have h9 := spec_refCheck (n := n) ha hl
  obtain ⟨q, cap, rfl⟩ := ha.len
  unfold solveE
  refine wpF (args := [_, _, _]) mixed okf19 (fn := Tryd.f19) rfl rfl rfl (by simp) ?_
  refine cSeq ?_
  refine cRegion ?_
  refine sAs (v := nv 0) rfl ?_
  refine sAs (v := nv 0) rfl ?_
  refine sNil (kSeqN ?_)
  refine cSeq ?_
  refine cSeq ?_
  refine cRegion ?_
  refine sMv (v := .slice _ _ _) rfl ?_
  refine sMv (v := .int _ _) rfl ?_
  refine sCall2 rfl call61 rfl rfl h9 ?_
  refine sAs (v := nv _) rfl ?_
  refine sNil (kSeqN ?_)
  refine cSeq ?_
  refine cRegion ?_
  refine sMv (v := nv _) rfl ?_
  refine sBin (a := checkF l n) rfl rfl (aInt_neq (b := 0)) ?_
  refine sNil (kSeqN ?_)
  refine cCond rfl (fun c0 => ?_) (fun c0 => ?_)
  ·
    refine cSeq ?_
    refine cRegion ?_
    refine sMv (v := nv _) rfl ?_
    refine sAs (v := nv 0) rfl ?_
    refine sAs (v := nv _) rfl ?_
    refine sNil (kSeqN ?_)
    refine cRet (kSeqR ?_)
    exact ⟨.inr rfl, _, rfl, by rw [if_neg c0, ifOk_n c0]; rfl, .refl _⟩
  ·
    have h0 := Decidable.not_not.1 c0
    rw [if_pos h0]
    obtain ⟨N, L, rfl, rfl, hN1, hN2, hL1, hL2⟩ := checkF_nat h0
    refine cSkip (kSeqN ?_)
    refine cSeq ?_   -- seq 5
    refine cSeq ?_
    refine cRegion ?_
    refine sMv (v := .int _ _) rfl ?_
    refine sMv (v := .slice _ _ _) rfl ?_
    refine sLen T22 rfl ?_
    refine sCall2 (v := .bool (decide (0 ≤ b ∧ b < 2 ^ (ofs L).length))) rfl call70' rfl rfl (spec_row (by rw [ofs_length]; omega)) ?_
    refine sP (v := .bool (!decide (0 ≤ b ∧ b < 2 ^ (ofs L).length))) rfl ?_
    refine sNil (kSeqN ?_)
    refine cCond (p := ¬ (0 ≤ b ∧ b < 2 ^ (ofs L).length)) (by show Value.bool (!decide _) = _; rw [← decide_not]) (fun c1 => ?_) (fun c1 => ?_)
    ·
      refine cSeq ?_
      refine cRegion ?_
      refine sAs (v := nv 0) rfl ?_
      refine sAs (v := nv 4) rfl ?_
      refine sNil (kSeqN ?_)
      refine cRet (kSeqR ?_)
      exact ⟨.inr rfl, _, rfl, by rw [if_pos c1]; rfl, .refl _⟩
    ·
      have hr := Decidable.not_not.1 c1
      rw [if_neg c1, nats_ofs]
      obtain ⟨r, rfl, hr2⟩ := row_lt hr
      rw [ofs_length] at hr2
      obtain ⟨hs1, hs2⟩ := sol_some (solM_which hL2 hL1 hr2)
      rw [show (Int.ofNat N).toNat = N from rfl, show (Int.ofNat r).toNat = r from rfl]
      refine cSkip (kSeqN ?_)
      refine cSeq ?_
      refine cRegion ?_
      refine sMv (v := .slice _ _ _) rfl ?_
      refine sMv (v := nv N) rfl ?_
      refine sMv (v := nv r) rfl ?_
      obtain ⟨v26, m26, h26, rfl, e26⟩ := spec_Solution (n := N) (b := r) ha (by omega) (by omega) hL2 (lt62' hr2 (by omega))
      rw [hs1, hs2] at h26
      generalize whichM (turnedM L N) r = W at *
      refine sCall3 rfl call71 rfl rfl rfl h26 ?_
      refine sMv (v := .tuple _) rfl ?_
      refine sP (v := nv _) rfl ?_   -- extract ['t22', '0']
      refine sP (v := .bool _) rfl ?_   -- extract ['t22', '1']
      refine sAs (v := nv _) rfl ?_
      refine sAs (v := .bool _) rfl ?_
      refine sNil (kSeqN ?_)
      refine cSeq ?_   -- seq 9
      refine cSeq ?_
      refine cRegion ?_
      refine sMv (v := .bool _) rfl ?_
      refine sP (v := .bool (!decide (W.1 = 0))) rfl ?_
      refine sNil (kSeqN ?_)
      refine cCond (p := ¬ W.1 = 0) (by show Value.bool (!decide _) = _; rw [← decide_not]) (fun c2 => ?_) (fun c2 => ?_)
      ·
        refine cSeq ?_
        refine cRegion ?_
        refine sAs (v := nv 0) rfl ?_
        refine sAs (v := nv 6) rfl ?_
        refine sNil (kSeqN ?_)
        refine cRet (kSeqR ?_)
        exact ⟨.inr rfl, _, rfl, by rw [if_pos c2]; rfl, e26⟩
      ·
        refine cSkip (kSeqN ?_)
        refine cSeq ?_
        refine cRegion ?_
        refine sMv (v := nv _) rfl ?_
        refine sAs (v := nv _) rfl ?_
        refine sAs (v := nv 0) rfl ?_
        refine sNil (kSeqN ?_)
        refine cRet ?_
        exact ⟨.inr rfl, _, rfl, by rw [if_neg c2, ifOk_0 rfl]; show Value.tuple #[nv (if W.1 = 0 then W.2 else 0), nv 0] = _; rw [if_pos (Decidable.not_not.1 c2)], e26⟩

theorem okf20 : okF Tryd.prog H0 20 22 = true := by kernel_rfl
theorem spec_refApply {m : Mem} {a : Value} {l : List Int} {n row : Int} (ha : IntsAt m a l) (hl : l.length < 4611686018427387904) : ∃ v m', ACalls Tryd.prog 20 #[a, .int .i64 n, .int .i64 row] m v m' ∧ (v = .tuple #[nv (ifOk (oneF l n row) (total (turnedM (nats l) n.toNat) row.toNat) 0), nv (oneF l n row)] ∧ Ext m m') := by
  have h9 := spec_refCheck (n := n) ha hl
  obtain ⟨q, cap, rfl⟩ := ha.len
  unfold oneF
  refine wpF (args := [_, _, _]) mixed okf20 (fn := Tryd.f20) rfl rfl rfl (by simp) ?_
  refine cSeq ?_
  refine cRegion ?_
  refine sAs (v := nv 0) rfl ?_
  refine sAs (v := nv 0) rfl ?_
  refine sNil (kSeqN ?_)
  refine cSeq ?_
  refine cSeq ?_
  refine cRegion ?_
  refine sMv (v := .slice _ _ _) rfl ?_
  refine sMv (v := .int _ _) rfl ?_
  refine sCall2 rfl call61 rfl rfl h9 ?_
  refine sAs (v := nv _) rfl ?_
  refine sNil (kSeqN ?_)
  refine cSeq ?_
  refine cRegion ?_
  refine sMv (v := nv _) rfl ?_
  refine sBin (a := checkF l n) rfl rfl (aInt_neq (b := 0)) ?_
  refine sNil (kSeqN ?_)
  refine cCond rfl (fun c0 => ?_) (fun c0 => ?_)
  ·
    refine cSeq ?_
    refine cRegion ?_
    refine sMv (v := nv _) rfl ?_
    refine sAs (v := nv 0) rfl ?_
    refine sAs (v := nv _) rfl ?_
    refine sNil (kSeqN ?_)
    refine cRet (kSeqR ?_)
    exact ⟨.inr rfl, _, rfl, by rw [if_neg (fun h => c0 h.1), ifOk_n c0]; rfl, .refl _⟩
  ·
    have h0 := Decidable.not_not.1 c0
    obtain ⟨N, L, rfl, rfl, hN1, hN2, hL1, hL2⟩ := checkF_nat h0
    refine cSkip (kSeqN ?_)
    refine cSeq ?_   -- seq 5
    refine cSeq ?_
    refine cRegion ?_
    refine sMv (v := .int _ _) rfl ?_
    refine sMv (v := nv N) rfl ?_
    refine sCall2 (v := .bool (decide (0 ≤ row ∧ row < 2 ^ N))) rfl call70' rfl rfl (spec_row (by omega)) ?_
    refine sP (v := .bool (!decide (0 ≤ row ∧ row < 2 ^ N))) rfl ?_
    refine sNil (kSeqN ?_)
    refine cCond (p := ¬ (0 ≤ row ∧ row < 2 ^ N)) (by show Value.bool (!decide _) = _; rw [← decide_not]) (fun c1 => ?_) (fun c1 => ?_)
    ·
      refine cSeq ?_
      refine cRegion ?_
      refine sAs (v := nv 0) rfl ?_
      refine sAs (v := nv 4) rfl ?_
      refine sNil (kSeqN ?_)
      refine cRet (kSeqR ?_)
      exact ⟨.inr rfl, _, rfl, by rw [if_pos ⟨h0, c1⟩]; rfl, .refl _⟩
    ·
      have hr := Decidable.not_not.1 c1
      rw [if_neg (fun h => h.2 hr), h0, nats_ofs, ifOk_0 rfl]
      obtain ⟨r, rfl, hr2⟩ := row_lt hr
      rw [show (Int.ofNat N).toNat = N from rfl, show (Int.ofNat r).toNat = r from rfl]
      refine cSkip (kSeqN ?_)
      refine cSeq ?_
      refine cRegion ?_
      refine sMv (v := .slice _ _ _) rfl ?_
      refine sMv (v := nv r) rfl ?_
      obtain ⟨v21, m21, h21, rfl, k21⟩ := spec_Image (x := r) ha (by omega) (fun y hy => Nat.lt_of_lt_of_le (hL2 y hy) (Nat.pow_le_pow_right (by omega) (by omega))) (Nat.lt_of_lt_of_le hr2 (Nat.pow_le_pow_right (by omega) (by omega)))
      rw [imgP_total hr2] at h21
      subst k21
      refine sCall2 rfl call72 rfl rfl h21 ?_
      refine sAs (v := nv _) rfl ?_
      refine sAs (v := nv 0) rfl ?_
      refine sNil (kSeqN ?_)
      refine cRet ?_
      exact ⟨.inr rfl, _, rfl, rfl, .refl _⟩

end Go.AM
