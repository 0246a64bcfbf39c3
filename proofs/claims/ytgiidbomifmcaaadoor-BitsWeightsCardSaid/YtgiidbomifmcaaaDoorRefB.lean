/- Contracts of the reference (part 2). -/
import Derived.Test.YtgiidbomifmcaaaDoorRef
import Derived.Test.YtgiidbomifmcaaaDoorPlainC
set_option linter.unusedVariables false
set_option linter.unusedSimpArgs false
/-! ### E31 -/
namespace Go.AM
open Go.Proofs
set_option maxRecDepth 100000
set_option linter.unusedVariables false
set_option linter.unusedSimpArgs false
theorem call19 : callable Tryd.prog 19 = true := by kernel_rfl
theorem call20 : callable Tryd.prog 20 = true := by kernel_rfl
theorem call70' : callable Tryd.prog 70 = true := by kernel_rfl
theorem row_lt {row : Int} {N : Nat} (h : 0 ≤ row ∧ row < 2 ^ N) : ∃ r : Nat, row = Int.ofNat r ∧ r < 2 ^ N := by
  refine ⟨row.toNat, by simp; omega, ?_⟩
  have h1 : row < ((2 ^ N : Nat) : Int) := by exact_mod_cast h.2
  omega
theorem lt62' {x n : Nat} (hx : x < 2 ^ n) (hn : n ≤ 62) : x < 2 ^ 62 := Nat.lt_of_lt_of_le hx (Nat.pow_le_pow_right (by omega) hn)
theorem sol_some {o : Option Nat} {w : Nat × Nat} (h : o = if w.1 = 0 then some w.2 else none) : o.isSome = decide (w.1 = 0) ∧ o.getD 0 = if w.1 = 0 then w.2 else 0 := by
  subst h; by_cases e : w.1 = 0 <;> simp [e]
theorem imgP_testBit (l : List Nat) (x j : Nat) : ∀ i, (imgP l x i).testBit j = (decide (j < i) && dot (l.getD j 0) x)
  | 0 => by simp [imgP]
  | i + 1 => by
    rw [imgP, Nat.testBit_or, imgP_testBit l x j i]
    have hp := parity_lt (l.getD i 0 &&& x)
    have e : (parity (l.getD i 0 &&& x) <<< i).testBit j = (decide (j = i) && dot (l.getD i 0) x) := by
      unfold dot
      have h2 : parity (l.getD i 0 &&& x) = 0 ∨ parity (l.getD i 0 &&& x) = 1 := by omega
      rcases h2 with h2 | h2 <;> rw [h2]
      · simp
      · rw [Nat.shiftLeft_eq, Nat.one_mul, Nat.testBit_two_pow, decide_eq_true rfl, Bool.and_true]
        exact decide_eq_decide.2 ⟨fun h => h.symm, fun h => h.symm⟩
    rw [e]
    by_cases h : j = i
    · subst h; simp
    · rw [decide_eq_false h, show decide (j < i + 1) = decide (j < i) from decide_eq_decide.2 (by omega)]; simp
theorem imgP_total {l : List Nat} {n x : Nat} (hx : x < 2 ^ n) : imgP l x l.length = total (turnedM l n) x := by
  apply Nat.eq_of_testBit_eq; intro j
  rw [imgP_testBit, total_turned hx]
  by_cases h : j < l.length
  · simp [h]
  · rw [getD_out (by omega), zero_dot]; simp

theorem okf19 : okF Tryd.prog H0 19 32 = true := by kernel_rfl
theorem spec_refSolve {m : Mem} {a : Value} {l : List Int} {n b : Int} (ha : IntsAt m a l) (hl : l.length < 4611686018427387904) : ∃ v m', ACalls Tryd.prog 19 #[a, .int .i64 n, .int .i64 b] m v m' ∧ (v = .tuple #[nv (ifOk (solveE l n b) (whichM (turnedM (nats l) n.toNat) b.toNat).2 0), nv (solveE l n b)] ∧ Ext m m') := by
  have h9 := spec_refCheck (n := n) ha hl
  obtain ⟨q, cap, rfl⟩ := ha.len
  unfold solveE
  refine wpF (args := [_, _, _]) mixed okf19 (fn := Tryd.f19) rfl rfl rfl (by simp) ?_
  refine cSeq ?_
  refine cRegion ?_
  refine sAs (v := nv 0) rfl ?_
  refine sAs (v := nv 0) rfl ?_
  refine sNil (kSeqN ?_)
  refine cSeq ?_
  refine cSeq ?_
  refine cRegion ?_
  refine sMv (v := .slice _ _ _) rfl ?_
  refine sMv (v := .int _ _) rfl ?_
  refine sCall2 rfl call61 rfl rfl h9 ?_
  refine sAs (v := nv _) rfl ?_
  refine sNil (kSeqN ?_)
  refine cSeq ?_
  refine cRegion ?_
  refine sMv (v := nv _) rfl ?_
  refine sBin (a := checkF l n) rfl rfl (aInt_neq (b := 0)) ?_
  refine sNil (kSeqN ?_)
  refine cCond rfl (fun c0 => ?_) (fun c0 => ?_)
  ·
    refine cSeq ?_
    refine cRegion ?_
    refine sMv (v := nv _) rfl ?_
    refine sAs (v := nv 0) rfl ?_
    refine sAs (v := nv _) rfl ?_
    refine sNil (kSeqN ?_)
    refine cRet (kSeqR ?_)
    exact ⟨.inr rfl, _, rfl, by rw [if_neg c0, ifOk_n c0]; rfl, .refl _⟩
  ·
    have h0 := Decidable.not_not.1 c0
    rw [if_pos h0]
    obtain ⟨N, L, rfl, rfl, hN1, hN2, hL1, hL2⟩ := checkF_nat h0
    refine cSkip (kSeqN ?_)
    refine cSeq ?_   -- seq 5
    refine cSeq ?_
    refine cRegion ?_
    refine sMv (v := .int _ _) rfl ?_
    refine sMv (v := .slice _ _ _) rfl ?_
    refine sLen T22 rfl ?_
    refine sCall2 (v := .bool (decide (0 ≤ b ∧ b < 2 ^ (ofs L).length))) rfl call70' rfl rfl (spec_row (by rw [ofs_length]; omega)) ?_
    refine sP (v := .bool (!decide (0 ≤ b ∧ b < 2 ^ (ofs L).length))) rfl ?_
    refine sNil (kSeqN ?_)
    refine cCond (p := ¬ (0 ≤ b ∧ b < 2 ^ (ofs L).length)) (by show Value.bool (!decide _) = _; rw [← decide_not]) (fun c1 => ?_) (fun c1 => ?_)
    ·
      refine cSeq ?_
      refine cRegion ?_
      refine sAs (v := nv 0) rfl ?_
      refine sAs (v := nv 4) rfl ?_
      refine sNil (kSeqN ?_)
      refine cRet (kSeqR ?_)
      exact ⟨.inr rfl, _, rfl, by rw [if_pos c1]; rfl, .refl _⟩
    ·
      have hr := Decidable.not_not.1 c1
      rw [if_neg c1, nats_ofs]
      obtain ⟨r, rfl, hr2⟩ := row_lt hr
      rw [ofs_length] at hr2
      obtain ⟨hs1, hs2⟩ := sol_some (solM_which hL2 hL1 hr2)
      rw [show (Int.ofNat N).toNat = N from rfl, show (Int.ofNat r).toNat = r from rfl]
      refine cSkip (kSeqN ?_)
      refine cSeq ?_
      refine cRegion ?_
      refine sMv (v := .slice _ _ _) rfl ?_
      refine sMv (v := nv N) rfl ?_
      refine sMv (v := nv r) rfl ?_
      obtain ⟨v26, m26, h26, rfl, e26⟩ := spec_Solution (n := N) (b := r) ha (by omega) (by omega) hL2 (lt62' hr2 (by omega))
      rw [hs1, hs2] at h26
      generalize whichM (turnedM L N) r = W at *
      refine sCall3 rfl call71 rfl rfl rfl h26 ?_
      refine sMv (v := .tuple _) rfl ?_
      refine sP (v := nv _) rfl ?_   -- extract ['t22', '0']
      refine sP (v := .bool _) rfl ?_   -- extract ['t22', '1']
      refine sAs (v := nv _) rfl ?_
      refine sAs (v := .bool _) rfl ?_
      refine sNil (kSeqN ?_)
      refine cSeq ?_   -- seq 9
      refine cSeq ?_
      refine cRegion ?_
      refine sMv (v := .bool _) rfl ?_
      refine sP (v := .bool (!decide (W.1 = 0))) rfl ?_
      refine sNil (kSeqN ?_)
      refine cCond (p := ¬ W.1 = 0) (by show Value.bool (!decide _) = _; rw [← decide_not]) (fun c2 => ?_) (fun c2 => ?_)
      ·
        refine cSeq ?_
        refine cRegion ?_
        refine sAs (v := nv 0) rfl ?_
        refine sAs (v := nv 6) rfl ?_
        refine sNil (kSeqN ?_)
        refine cRet (kSeqR ?_)
        exact ⟨.inr rfl, _, rfl, by rw [if_pos c2]; rfl, e26⟩
      ·
        refine cSkip (kSeqN ?_)
        refine cSeq ?_
        refine cRegion ?_
        refine sMv (v := nv _) rfl ?_
        refine sAs (v := nv _) rfl ?_
        refine sAs (v := nv 0) rfl ?_
        refine sNil (kSeqN ?_)
        refine cRet ?_
        exact ⟨.inr rfl, _, rfl, by rw [if_neg c2, ifOk_0 rfl]; show Value.tuple #[nv (if W.1 = 0 then W.2 else 0), nv 0] = _; rw [if_pos (Decidable.not_not.1 c2)], e26⟩

theorem okf20 : okF Tryd.prog H0 20 22 = true := by kernel_rfl
theorem spec_refApply {m : Mem} {a : Value} {l : List Int} {n row : Int} (ha : IntsAt m a l) (hl : l.length < 4611686018427387904) : ∃ v m', ACalls Tryd.prog 20 #[a, .int .i64 n, .int .i64 row] m v m' ∧ (v = .tuple #[nv (ifOk (oneF l n row) (total (turnedM (nats l) n.toNat) row.toNat) 0), nv (oneF l n row)] ∧ Ext m m') := by
  have h9 := spec_refCheck (n := n) ha hl
  obtain ⟨q, cap, rfl⟩ := ha.len
  unfold oneF
  refine wpF (args := [_, _, _]) mixed okf20 (fn := Tryd.f20) rfl rfl rfl (by simp) ?_
  refine cSeq ?_
  refine cRegion ?_
  refine sAs (v := nv 0) rfl ?_
  refine sAs (v := nv 0) rfl ?_
  refine sNil (kSeqN ?_)
  refine cSeq ?_
  refine cSeq ?_
  refine cRegion ?_
  refine sMv (v := .slice _ _ _) rfl ?_
  refine sMv (v := .int _ _) rfl ?_
  refine sCall2 rfl call61 rfl rfl h9 ?_
  refine sAs (v := nv _) rfl ?_
  refine sNil (kSeqN ?_)
  refine cSeq ?_
  refine cRegion ?_
  refine sMv (v := nv _) rfl ?_
  refine sBin (a := checkF l n) rfl rfl (aInt_neq (b := 0)) ?_
  refine sNil (kSeqN ?_)
  refine cCond rfl (fun c0 => ?_) (fun c0 => ?_)
  ·
    refine cSeq ?_
    refine cRegion ?_
    refine sMv (v := nv _) rfl ?_
    refine sAs (v := nv 0) rfl ?_
    refine sAs (v := nv _) rfl ?_
    refine sNil (kSeqN ?_)
    refine cRet (kSeqR ?_)
    exact ⟨.inr rfl, _, rfl, by rw [if_neg (fun h => c0 h.1), ifOk_n c0]; rfl, .refl _⟩
  ·
    have h0 := Decidable.not_not.1 c0
    obtain ⟨N, L, rfl, rfl, hN1, hN2, hL1, hL2⟩ := checkF_nat h0
    refine cSkip (kSeqN ?_)
    refine cSeq ?_   -- seq 5
    refine cSeq ?_
    refine cRegion ?_
    refine sMv (v := .int _ _) rfl ?_
    refine sMv (v := nv N) rfl ?_
    refine sCall2 (v := .bool (decide (0 ≤ row ∧ row < 2 ^ N))) rfl call70' rfl rfl (spec_row (by omega)) ?_
    refine sP (v := .bool (!decide (0 ≤ row ∧ row < 2 ^ N))) rfl ?_
    refine sNil (kSeqN ?_)
    refine cCond (p := ¬ (0 ≤ row ∧ row < 2 ^ N)) (by show Value.bool (!decide _) = _; rw [← decide_not]) (fun c1 => ?_) (fun c1 => ?_)
    ·
      refine cSeq ?_
      refine cRegion ?_
      refine sAs (v := nv 0) rfl ?_
      refine sAs (v := nv 4) rfl ?_
      refine sNil (kSeqN ?_)
      refine cRet (kSeqR ?_)
      exact ⟨.inr rfl, _, rfl, by rw [if_pos ⟨h0, c1⟩]; rfl, .refl _⟩
    ·
      have hr := Decidable.not_not.1 c1
      rw [if_neg (fun h => h.2 hr), h0, nats_ofs, ifOk_0 rfl]
      obtain ⟨r, rfl, hr2⟩ := row_lt hr
      rw [show (Int.ofNat N).toNat = N from rfl, show (Int.ofNat r).toNat = r from rfl]
      refine cSkip (kSeqN ?_)
      refine cSeq ?_
      refine cRegion ?_
      refine sMv (v := .slice _ _ _) rfl ?_
      refine sMv (v := nv r) rfl ?_
      obtain ⟨v21, m21, h21, rfl, k21⟩ := spec_Image (x := r) ha (by omega) (fun y hy => Nat.lt_of_lt_of_le (hL2 y hy) (Nat.pow_le_pow_right (by omega) (by omega))) (Nat.lt_of_lt_of_le hr2 (Nat.pow_le_pow_right (by omega) (by omega)))
      rw [imgP_total hr2] at h21
      subst k21
      refine sCall2 rfl call72 rfl rfl h21 ?_
      refine sAs (v := nv _) rfl ?_
      refine sAs (v := nv 0) rfl ?_
      refine sNil (kSeqN ?_)
      refine cRet ?_
      exact ⟨.inr rfl, _, rfl, rfl, .refl _⟩

end Go.AM

/-! ### E33 -/
namespace Go.AM
open Go.Proofs
set_option maxRecDepth 100000
set_option linter.unusedVariables false
set_option linter.unusedSimpArgs false
theorem call102 : callable Tryd.prog 102 = true := by kernel_rfl
theorem bothF_ok {l r : List Int} {n : Int} (h0 : bothF l r n = 0) : checkF l n = 0 ∧ checkF r n = 0 := by
  unfold bothF at h0; split at h0
  · exact ⟨by assumption, h0⟩
  · exact absurd h0 (by assumption)
theorem take_eq {l r : List Nat} {i : Nat} (hl : l.length = r.length) (h : l.take i = r.take i) (hi : i < l.length) : l.take (i + 1) = r.take (i + 1) ↔ l[i] = r[i]'(by omega) := by
  rw [List.take_succ_eq_append_getElem hi, List.take_succ_eq_append_getElem (by omega : i < r.length), h]
  constructor
  · intro e; simpa using List.append_cancel_left e
  · intro e; rw [e]

theorem okf102 : okF Tryd.prog H0 102 17 = true := by kernel_rfl
theorem spec_refBoth {m : Mem} {a b : Value} {l r : List Int} {n : Int} (ha : IntsAt m a l) (hb : IntsAt m b r) (hl : l.length < 4611686018427387904) (hr : r.length < 4611686018427387904) : ∃ v m', ACalls Tryd.prog 102 #[a, b, .int .i64 n] m v m' ∧ (v = nv (bothF l r n) ∧ m' = m) := by
  obtain ⟨q, cap, rfl⟩ := ha.len
  obtain ⟨q2, cap2, rfl⟩ := hb.len
  refine wpF (args := [_, _, _]) mixed okf102 (fn := Tryd.f102) rfl rfl rfl (by simp) ?_
  refine cSeq ?_
  refine cRegion ?_
  refine sAs (v := nv 0) rfl ?_
  refine sNil (kSeqN ?_)
  refine cSeq ?_
  refine cSeq ?_
  refine cRegion ?_
  refine sMv (v := .slice _ _ _) rfl ?_
  refine sMv (v := .int _ _) rfl ?_
  refine sCall2 rfl call61 rfl rfl (spec_refCheck (n := n) ha hl) ?_
  refine sAs (v := nv _) rfl ?_
  refine sNil (kSeqN ?_)
  refine cSeq ?_
  refine cRegion ?_
  refine sMv (v := nv _) rfl ?_
  refine sBin (a := checkF l n) rfl rfl (aInt_neq (b := 0)) ?_
  refine sNil (kSeqN ?_)
  refine cCond rfl (fun c0 => ?_) (fun c0 => ?_)
  ·
    refine cSeq ?_
    refine cRegion ?_
    refine sMv (v := nv _) rfl ?_
    refine sAs (v := nv _) rfl ?_
    refine sNil (kSeqN ?_)
    refine cRet (kSeqR ?_)
    exact ⟨.inr rfl, _, rfl, by rw [bothF, if_neg c0]; rfl, rfl⟩
  ·
    refine cSkip (kSeqN ?_)
    refine cSeq ?_
    refine cRegion ?_
    refine sMv (v := .slice _ _ _) rfl ?_
    refine sMv (v := .int _ _) rfl ?_
    refine sCall2 rfl call61 rfl rfl (spec_refCheck (n := n) hb hr) ?_
    refine sAs (v := nv _) rfl ?_
    refine sNil (kSeqN ?_)
    refine cRet ?_
    exact ⟨.inr rfl, _, rfl, by rw [bothF, if_pos (Decidable.not_not.1 c0)]; rfl, rfl⟩

theorem okf63 : okF Tryd.prog H0 63 45 = true := by kernel_rfl
theorem spec_refSame {m : Mem} {a b : Value} {l r : List Int} {n : Int} (ha : IntsAt m a l) (hb : IntsAt m b r) (hl : l.length < 4611686018427387904) (hr : r.length < 4611686018427387904) : ∃ v m', ACalls Tryd.prog 63 #[a, b, .int .i64 n] m v m' ∧ (v = .tuple #[.bool (ifOk (bothF l r n) (decide (tableM (nats l) = tableM (nats r))) false), nv (bothF l r n)] ∧ Ext m m') := by
  obtain ⟨v9, m9, h9, rfl, k9⟩ := spec_refBoth (n := n) ha hb hl hr
  obtain rfl := k9.symm
  obtain ⟨q, cap, rfl⟩ := ha.len
  obtain ⟨q2, cap2, rfl⟩ := hb.len
  refine wpF (args := [_, _, _]) mixed okf63 (fn := Tryd.f63) rfl rfl rfl (by simp) ?_
  refine cSeq ?_
  refine cRegion ?_
  refine sAs (v := .bool _) rfl ?_
  refine sAs (v := nv 0) rfl ?_
  refine sNil (kSeqN ?_)
  refine cSeq ?_
  refine cSeq ?_
  refine cRegion ?_
  refine sMv (v := .slice _ _ _) rfl ?_
  refine sMv (v := .slice _ _ _) rfl ?_
  refine sMv (v := .int _ _) rfl ?_
  refine sCall3 rfl call102 rfl rfl rfl h9 ?_
  refine sAs (v := nv _) rfl ?_
  refine sNil (kSeqN ?_)
  refine cSeq ?_
  refine cRegion ?_
  refine sMv (v := nv _) rfl ?_
  refine sBin (a := bothF l r n) rfl rfl (aInt_neq (b := 0)) ?_
  refine sNil (kSeqN ?_)
  refine cCond rfl (fun c0 => ?_) (fun c0 => ?_)
  ·
    refine cSeq ?_
    refine cRegion ?_
    refine sMv (v := nv _) rfl ?_
    refine sAs (v := .bool _) rfl ?_
    refine sAs (v := nv _) rfl ?_
    refine sNil (kSeqN ?_)
    refine cRet (kSeqR ?_)
    exact ⟨.inr rfl, _, rfl, by rw [ifOk_n c0]; rfl, .refl _⟩
  ·
    have h0 := Decidable.not_not.1 c0
    have hcl := bothF_ok h0
    obtain ⟨N, L, rfl, rfl, hN1, hN2, hL1, hL2⟩ := checkF_nat hcl.1
    obtain ⟨N', R, hNN, rfl, _, _, hR1, hR2⟩ := checkF_nat hcl.2
    obtain rfl : N' = N := by have := Int.ofNat.inj hNN; omega
    obtain ⟨v21, m21, h21, k21, e21⟩ := spec_refReduced (n := N') ha (by omega) (lt62 (by omega) hL2) (by omega)
    rw [refRedM_eq (by omega) hL2] at k21
    have i21 := k21.ints
    obtain ⟨q21, c21, rfl⟩ := i21.lenN
    obtain ⟨v24, m24, h24, k24, e24⟩ := spec_refReduced (n := N') (hb.ext e21) (by omega) (lt62 (by omega) hR2) (by omega)
    rw [refRedM_eq (by omega) hR2] at k24
    have i24 := k24.ints
    obtain ⟨q24, c24, rfl⟩ := i24.lenN
    have i21' := i21.ext e24
    have hX1 := redM_lt' (n := N') (by omega) hL2
    have hX2 := redM_lt' (n := N') (by omega) hR2
    have hsame := same_red (lt24 (n := N') (by omega) hL2) (lt24 (n := N') (by omega) hR2)
    have hlen1 := redM_length L
    have hlen2 := redM_length R
    have hee : Ext m m24 := e21.trans e24
    rw [ifOk_0 h0, nats_ofs, nats_ofs, h0, show decide (tableM L = tableM R) = decide (redM L = redM R) from decide_eq_decide.2 hsame.symm]
    generalize redM L = A at *
    generalize redM R = B at *
    refine cSkip (kSeqN ?_)
    refine cSeq ?_
    refine cRegion ?_
    refine sMv (v := .slice _ _ _) rfl ?_
    refine sMv (v := nv N') rfl ?_
    refine sCall2 rfl call80 rfl rfl h21 ?_
    refine sMv (v := .slice _ _ _) rfl ?_
    refine sMv (v := nv N') rfl ?_
    refine sCall2 rfl call80 rfl rfl h24 ?_
    refine sAs (v := .slice _ _ _) rfl ?_
    refine sAs (v := .slice _ _ _) rfl ?_
    refine sNil (kSeqN ?_)
    refine cSeq ?_   -- seq 6
    refine cSeq ?_
    refine cRegion ?_
    refine sMv (v := .slice _ _ _) rfl ?_
    refine sLen T22 rfl ?_
    refine sMv (v := .slice _ _ _) rfl ?_
    refine sLen T22 rfl ?_
    refine sBin (a := A.length) (b := B.length) rfl rfl aInt_neq ?_
    refine sNil (kSeqN ?_)
    refine cCond rfl (fun c1 => ?_) (fun c1 => ?_)
    ·
      refine cSeq ?_
      refine cRegion ?_
      refine sAs (v := .bool _) rfl ?_
      refine sAs (v := nv 0) rfl ?_
      refine sNil (kSeqN ?_)
      refine cRet (kSeqR ?_)
      exact ⟨.inr rfl, _, rfl, by rw [decide_eq_false (show ¬ A = B from fun e => c1 (by rw [e]))]; rfl, hee⟩
    ·
      have hAB : A.length = B.length := Decidable.not_not.1 c1
      refine cSkip (kSeqN ?_)
      refine cSeq ?_
      refine cSeq ?_
      refine cRegion ?_
      refine sMv (v := .slice _ _ _) rfl ?_
      refine sLen T22 rfl ?_
      refine sMv (v := nv 0) rfl ?_
      refine sNil (kSeqN ?_)
      refine cBlock ?_
      refine wpC_loop (fun k ρ m' => ∃ i, k = A.length - i ∧ i ≤ A.length ∧ A.take i = B.take i ∧ m' = m24 ∧ Has ρ [(9, .slice q21 A.length c21), (10, .slice q24 B.length c24), (31, nv A.length), (32, nv i)]) ⟨0, rfl, Nat.zero_le _, rfl, rfl, rfl, rfl, rfl, rfl, trivial⟩ ?_
      rintro k ρ m' ⟨i, rfl, hi, htk, hm, hh⟩
      obtain rfl := hm.symm
      rw [hh.env]; clear hh
      refine cSeq ?_
      refine cRegion ?_
      refine sBin rfl rfl (aInt_lss) ?_
      refine sNil (kSeqN ?_)
      refine cSeq ?_   -- seq 12
      refine cCond rfl (fun c2 => ?_) (fun c2 => ?_)
      ·
        obtain ⟨b1, o1, p1, r1, c1', e1, g1, x1⟩ := i21'.atN (by omega)
        cases e1
        obtain ⟨b2, o2, p2, r2, c2', e2, g2, x2⟩ := i24.atN (by omega)
        cases e2
        have hA := hX1 _ (List.getElem_mem c2)
        have hB := hX2 _ (List.getElem_mem (show i < B.length by omega))
        have hte := take_eq hAB htk c2
        refine cSkip (kSeqN ?_)
        refine cSeq ?_
        refine cBlock ?_
        refine cSeq ?_
        refine cRegion ?_
        refine sMv (v := nv _) rfl ?_
        refine sAs (v := nv _) rfl ?_
        refine sNil (kSeqN ?_)
        refine cSeq ?_
        refine cDraw rfl ?_
        refine sMv (v := .slice _ _ _) rfl ?_
        refine sMv (v := nv _) rfl ?_
        refine sIx T22 S3 rfl rfl (by omega) ?_
        refine sLd (v := nv A[i]) A3 rfl g1 (x1 i _ (List.getElem?_eq_getElem c2)) ?_
        refine sMv (v := .slice _ _ _) rfl ?_
        refine sMv (v := nv _) rfl ?_
        refine sIx T22 S3 rfl rfl (by omega) ?_
        refine sLd (v := nv (B[i]'(by omega))) A3 rfl g2 (x2 i _ (List.getElem?_eq_getElem (by omega))) ?_
        refine sBin (a := A[i]) (b := B[i]'(by omega)) rfl rfl aInt_neq ?_
        refine sNil (kSeqN ?_)
        refine cCond rfl (fun c3 => ?_) (fun c3 => ?_)
        ·
          refine cSeq ?_
          refine cRegion ?_
          refine sAs (v := .bool _) rfl ?_
          refine sAs (v := nv 0) rfl ?_
          refine sNil (kSeqN ?_)
          refine cRet (kBlkR (kSeqR (kSeqR (kBlkR (kSeqR ?_)))))
          exact ⟨.inr rfl, _, rfl, by rw [decide_eq_false (show ¬ A = B from fun e => c3 (by subst e; rfl))]; rfl, hee⟩
        ·
          refine cSkip (kBlkN (kSeqN ?_))
          refine cRegion ?_
          refine sBin rfl rfl (aInt_add (b := 1) (by omega)) ?_
          refine sMv (v := nv _) rfl ?_
          refine sNil (kSeqN ?_)
          refine ⟨_, ?_, i + 1, rfl, by omega, hte.2 (Decidable.not_not.1 c3), rfl, rfl, rfl, rfl, rfl, trivial⟩
          omega
      ·
        obtain rfl : i = A.length := by omega
        rw [List.take_length, hAB, List.take_length] at htk
        refine cExit (kSeqE (kSeqE (kBlkS (kSeqN ?_))))
        refine cSeq ?_
        refine cRegion ?_
        refine sAs (v := .bool _) rfl ?_
        refine sAs (v := nv 0) rfl ?_
        refine sNil (kSeqN ?_)
        refine cRet ?_
        exact ⟨.inr rfl, _, rfl, by rw [decide_eq_true htk]; rfl, hee⟩

theorem okf64 : okF Tryd.prog H0 64 33 = true := by kernel_rfl
theorem spec_refMember {m : Mem} {a : Value} {l : List Int} {n row : Int} (ha : IntsAt m a l) (hl : l.length < 4611686018427387904) : ∃ v m', ACalls Tryd.prog 64 #[a, .int .i64 n, .int .i64 row] m v m' ∧ (v = .tuple #[.bool (ifOk (oneF l n row) (decide ((whichM (nats l) row.toNat).1 = 0)) false), nv (oneF l n row)] ∧ Ext m m') := by
  have h9 := spec_refCheck (n := n) ha hl
  obtain ⟨q, cap, rfl⟩ := ha.len
  unfold oneF
  refine wpF (args := [_, _, _]) mixed okf64 (fn := Tryd.f64) rfl rfl rfl (by simp) ?_
  refine cSeq ?_
  refine cRegion ?_
  refine sAs (v := .bool _) rfl ?_
  refine sAs (v := nv 0) rfl ?_
  refine sNil (kSeqN ?_)
  refine cSeq ?_
  refine cSeq ?_
  refine cRegion ?_
  refine sMv (v := .slice _ _ _) rfl ?_
  refine sMv (v := .int _ _) rfl ?_
  refine sCall2 rfl call61 rfl rfl h9 ?_
  refine sAs (v := nv _) rfl ?_
  refine sNil (kSeqN ?_)
  refine cSeq ?_
  refine cRegion ?_
  refine sMv (v := nv _) rfl ?_
  refine sBin (a := checkF l n) rfl rfl (aInt_neq (b := 0)) ?_
  refine sNil (kSeqN ?_)
  refine cCond rfl (fun c0 => ?_) (fun c0 => ?_)
  ·
    refine cSeq ?_
    refine cRegion ?_
    refine sMv (v := nv _) rfl ?_
    refine sAs (v := .bool _) rfl ?_
    refine sAs (v := nv _) rfl ?_
    refine sNil (kSeqN ?_)
    refine cRet (kSeqR ?_)
    exact ⟨.inr rfl, _, rfl, by rw [if_neg (fun h => c0 h.1), ifOk_n c0]; rfl, .refl _⟩
  ·
    have h0 := Decidable.not_not.1 c0
    obtain ⟨N, L, rfl, rfl, hN1, hN2, hL1, hL2⟩ := checkF_nat h0
    refine cSkip (kSeqN ?_)
    refine cSeq ?_   -- seq 5
    refine cSeq ?_
    refine cRegion ?_
    refine sMv (v := .int _ _) rfl ?_
    refine sMv (v := nv N) rfl ?_
    refine sCall2 (v := .bool (decide (0 ≤ row ∧ row < 2 ^ N))) rfl call70' rfl rfl (spec_row (by omega)) ?_
    refine sP (v := .bool (!decide (0 ≤ row ∧ row < 2 ^ N))) rfl ?_
    refine sNil (kSeqN ?_)
    refine cCond (p := ¬ (0 ≤ row ∧ row < 2 ^ N)) (by show Value.bool (!decide _) = _; rw [← decide_not]) (fun c1 => ?_) (fun c1 => ?_)
    ·
      refine cSeq ?_
      refine cRegion ?_
      refine sAs (v := .bool _) rfl ?_
      refine sAs (v := nv 4) rfl ?_
      refine sNil (kSeqN ?_)
      refine cRet (kSeqR ?_)
      exact ⟨.inr rfl, _, rfl, by rw [if_pos ⟨h0, c1⟩]; rfl, .refl _⟩
    ·
      have hr := Decidable.not_not.1 c1
      rw [if_neg (fun h => h.2 hr), h0, nats_ofs, ifOk_0 rfl]
      obtain ⟨r, rfl, hr2⟩ := row_lt hr
      rw [show (Int.ofNat r).toNat = r from rfl]
      have hLr : ∀ x ∈ L ++ [r], x < 2 ^ N := fun x hx => by
        rcases List.mem_append.1 hx with hx | hx
        · exact hL2 x hx
        · rw [List.mem_singleton.1 hx]; exact hr2
      rw [show decide ((whichM L r).1 = 0) = decide ((redM (L ++ [r])).length = (redM L).length) from decide_eq_decide.2 (member_rank (lt24 (n := N) (by omega) hL2) (Nat.lt_of_lt_of_le hr2 (Nat.pow_le_pow_right (by omega) (by omega)))).symm]
      refine cSkip (kSeqN ?_)
      refine cSeq ?_
      refine cRegion ?_
      refine sBuildS (c := #[]) T22 S3 Z3 (by decide) (by decide) (by decide) (by kernel_rfl) rfl rfl ?_
      refine sMv (v := .slice _ _ _) rfl ?_
      refine sApp App22 rfl rfl (N := m.size) (p := []) (.inr ⟨m.size, 0, #[], rfl, Nat.le_refl _, gP rfl, by simp, by simp, by simp⟩) (ha.ext (.push _ _)) (by simp) (by rw [ofs_length]; simp; omega) fun v3 m3 hO3 hL3 => ?_
      rw [List.nil_append] at hO3
      have e3 : Ext m m3 := hL3.to_ext (.push _ _) (Nat.le_refl _)
      obtain ⟨q3, cp3, rfl⟩ := hO3.ints.lenN
      refine sMv (v := nv r) rfl ?_
      refine sBuildS T22 S3 Z3 (by decide) (by decide) (by decide) (by kernel_rfl) fill1 rfl ?_
      refine sApp App22 rfl rfl (hO3.ext (.push _ _)) one_ints (by have := e3.1; simp; omega) (by rw [ofs_length]; simp; omega) fun v4 m4 hO4 hL4 => ?_
      have hO5 : OwnF m.size m4 v4 (ofs (L ++ [r])) := by rw [ofs_append]; exact hO4
      have e4 : Ext m m4 := hL4.to_ext (e3.trans (.push _ _)) (Nat.le_refl _)
      obtain ⟨q4, cp4, rfl⟩ := hO5.ints.lenN
      refine sMv (v := nv N) rfl ?_
      obtain ⟨v26, m26, h26, k26, e26⟩ := spec_refReduced (n := N) hO5.ints (by simp; omega) (lt62 (by omega) hLr) (by omega)
      rw [refRedM_eq (by omega) hLr] at k26
      obtain ⟨q26, c26, rfl⟩ := k26.ints.lenN
      refine sCall2 rfl call80 rfl rfl h26 ?_
      refine sLen T22 rfl ?_
      refine sMv (v := .slice _ _ _) rfl ?_
      refine sMv (v := nv N) rfl ?_
      obtain ⟨v30, m30, h30, k30, e30⟩ := spec_refReduced (n := N) (ha.ext (e4.trans e26)) (by omega) (lt62 (by omega) hL2) (by omega)
      rw [refRedM_eq (by omega) hL2] at k30
      obtain ⟨q30, c30, rfl⟩ := k30.ints.lenN
      refine sCall2 rfl call80 rfl rfl h30 ?_
      refine sLen T22 rfl ?_
      refine sBin (a := (redM (L ++ [r])).length) (b := (redM L).length) rfl rfl aInt_eql ?_
      refine sAs (v := .bool _) rfl ?_
      refine sAs (v := nv 0) rfl ?_
      refine sNil (kSeqN ?_)
      refine cRet ?_
      exact ⟨.inr rfl, _, rfl, rfl, (e4.trans e26).trans e30⟩

theorem okf65 : okF Tryd.prog H0 65 34 = true := by kernel_rfl
theorem spec_refWhich {m : Mem} {a : Value} {l : List Int} {n row : Int} (ha : IntsAt m a l) (hl : l.length < 4611686018427387904) : ∃ v m', ACalls Tryd.prog 65 #[a, .int .i64 n, .int .i64 row] m v m' ∧ (v = .tuple #[nv (ifOk (whichE l n row) (whichM (nats l) row.toNat).2 0), nv (whichE l n row)] ∧ Ext m m') := by
  have h9 := spec_refCheck (n := n) ha hl
  obtain ⟨q, cap, rfl⟩ := ha.len
  unfold whichE
  refine wpF (args := [_, _, _]) mixed okf65 (fn := Tryd.f65) rfl rfl rfl (by simp) ?_
  refine cSeq ?_
  refine cRegion ?_
  refine sAs (v := nv 0) rfl ?_
  refine sAs (v := nv 0) rfl ?_
  refine sNil (kSeqN ?_)
  refine cSeq ?_
  refine cSeq ?_
  refine cRegion ?_
  refine sMv (v := .slice _ _ _) rfl ?_
  refine sMv (v := .int _ _) rfl ?_
  refine sCall2 rfl call61 rfl rfl h9 ?_
  refine sAs (v := nv _) rfl ?_
  refine sNil (kSeqN ?_)
  refine cSeq ?_
  refine cRegion ?_
  refine sMv (v := nv _) rfl ?_
  refine sBin (a := checkF l n) rfl rfl (aInt_neq (b := 0)) ?_
  refine sNil (kSeqN ?_)
  refine cCond rfl (fun c0 => ?_) (fun c0 => ?_)
  ·
    refine cSeq ?_
    refine cRegion ?_
    refine sMv (v := nv _) rfl ?_
    refine sAs (v := nv 0) rfl ?_
    refine sAs (v := nv _) rfl ?_
    refine sNil (kSeqN ?_)
    refine cRet (kSeqR ?_)
    exact ⟨.inr rfl, _, rfl, by rw [show oneF l n row = checkF l n from if_neg (fun h => c0 h.1), if_neg (fun h => c0 h.1), ifOk_n c0]; rfl, .refl _⟩
  ·
    have h0 := Decidable.not_not.1 c0
    obtain ⟨N, L, rfl, rfl, hN1, hN2, hL1, hL2⟩ := checkF_nat h0
    refine cSkip (kSeqN ?_)
    refine cSeq ?_   -- seq 5
    refine cSeq ?_
    refine cRegion ?_
    refine sMv (v := .int _ _) rfl ?_
    refine sMv (v := nv N) rfl ?_
    refine sCall2 (v := .bool (decide (0 ≤ row ∧ row < 2 ^ N))) rfl call70' rfl rfl (spec_row (by omega)) ?_
    refine sP (v := .bool (!decide (0 ≤ row ∧ row < 2 ^ N))) rfl ?_
    refine sNil (kSeqN ?_)
    refine cCond (p := ¬ (0 ≤ row ∧ row < 2 ^ N)) (by show Value.bool (!decide _) = _; rw [← decide_not]) (fun c1 => ?_) (fun c1 => ?_)
    ·
      refine cSeq ?_
      refine cRegion ?_
      refine sAs (v := nv 0) rfl ?_
      refine sAs (v := nv 4) rfl ?_
      refine sNil (kSeqN ?_)
      refine cRet (kSeqR ?_)
      exact ⟨.inr rfl, _, rfl, by rw [show oneF (ofs L) (Int.ofNat N) row = 4 from if_pos ⟨h0, c1⟩]; rfl, .refl _⟩
    ·
      have hr := Decidable.not_not.1 c1
      have h1 : oneF (ofs L) (Int.ofNat N) row = 0 := by rw [oneF, if_neg (fun h => h.2 hr), h0]
      rw [h1, nats_ofs]
      obtain ⟨r, rfl, hr2⟩ := row_lt hr
      rw [show (Int.ofNat r).toNat = r from rfl]
      obtain ⟨hs1, hs2⟩ := sol_some (solM_rows hL2 (by omega) hr2)
      refine cSkip (kSeqN ?_)
      refine cSeq ?_
      refine cRegion ?_
      refine sMv (v := .slice _ _ _) rfl ?_
      refine sMv (v := nv N) rfl ?_
      obtain ⟨v24, m24, h24, k24, e24⟩ := spec_Turned (n := N) ha (by omega) (fun x hx => lt62' (hL2 x hx) (by omega)) (by omega)
      have i24 := k24.ints
      obtain ⟨q24, c24, rfl⟩ := i24.lenN
      refine sCall2 rfl call91 rfl rfl h24 ?_
      refine sMv (v := .slice _ _ _) rfl ?_
      refine sLen T22 rfl ?_
      refine sMv (v := nv r) rfl ?_
      obtain ⟨v26, m26, h26, rfl, e26⟩ := spec_Solution (n := L.length) (b := r) i24 (by rw [turnedM_length]; omega) (by omega) turnedM_lt' (lt62' hr2 (by omega))
      rw [hs1, hs2, ← ofs_length L] at h26
      generalize whichM L r = W at *
      refine sCall3 rfl call71 rfl rfl rfl h26 ?_
      refine sMv (v := .tuple _) rfl ?_
      refine sP (v := nv _) rfl ?_   -- extract ['t21', '0']
      refine sP (v := .bool _) rfl ?_   -- extract ['t21', '1']
      refine sAs (v := nv _) rfl ?_
      refine sAs (v := .bool _) rfl ?_
      refine sNil (kSeqN ?_)
      refine cSeq ?_   -- seq 9
      refine cSeq ?_
      refine cRegion ?_
      refine sMv (v := .bool _) rfl ?_
      refine sP (v := .bool (!decide (W.1 = 0))) rfl ?_
      refine sNil (kSeqN ?_)
      refine cCond (p := ¬ W.1 = 0) (by show Value.bool (!decide _) = _; rw [← decide_not]) (fun c2 => ?_) (fun c2 => ?_)
      ·
        refine cSeq ?_
        refine cRegion ?_
        refine sAs (v := nv 0) rfl ?_
        refine sAs (v := nv 6) rfl ?_
        refine sNil (kSeqN ?_)
        refine cRet (kSeqR ?_)
        exact ⟨.inr rfl, _, rfl, by rw [if_pos (show (0 : Nat) = 0 ∧ ¬ W.1 = 0 from ⟨rfl, c2⟩)]; rfl, e24.trans e26⟩
      ·
        refine cSkip (kSeqN ?_)
        refine cSeq ?_
        refine cRegion ?_
        refine sMv (v := nv _) rfl ?_
        refine sAs (v := nv _) rfl ?_
        refine sAs (v := nv 0) rfl ?_
        refine sNil (kSeqN ?_)
        refine cRet ?_
        exact ⟨.inr rfl, _, rfl, by rw [if_neg (show ¬ ((0 : Nat) = 0 ∧ ¬ W.1 = 0) from fun h => c2 h.2), ifOk_0 rfl]; show Value.tuple #[nv (if W.1 = 0 then W.2 else 0), nv 0] = _; rw [if_pos (Decidable.not_not.1 c2)], e24.trans e26⟩

theorem okf66 : okF Tryd.prog H0 66 25 = true := by kernel_rfl
theorem spec_refMeet {m : Mem} {a b : Value} {l r : List Int} {n : Int} (ha : IntsAt m a l) (hb : IntsAt m b r) (hl : l.length < 4611686018427387904) (hr : r.length < 4611686018427387904) : ∃ v m', ACalls Tryd.prog 66 #[a, b, .int .i64 n] m v m' ∧ (∃ w, v = .tuple #[w, nv (bothF l r n)] ∧ OwnF m.size m' w (ofs (ifOk (bothF l r n) (nullM (nullM (nats l) n.toNat ++ nullM (nats r) n.toNat) n.toNat) [])) ∧ Ext m m') := by
  obtain ⟨v9, m9, h9, rfl, k9⟩ := spec_refBoth (n := n) ha hb hl hr
  obtain rfl := k9.symm
  obtain ⟨q, cap, rfl⟩ := ha.len
  obtain ⟨q2, cap2, rfl⟩ := hb.len
  refine wpF (args := [_, _, _]) mixed okf66 (fn := Tryd.f66) rfl rfl rfl (by simp) ?_
  refine cSeq ?_
  refine cRegion ?_
  refine sAs (v := .slice _ _ _) rfl ?_
  refine sAs (v := nv 0) rfl ?_
  refine sNil (kSeqN ?_)
  refine cSeq ?_
  refine cSeq ?_
  refine cRegion ?_
  refine sMv (v := .slice _ _ _) rfl ?_
  refine sMv (v := .slice _ _ _) rfl ?_
  refine sMv (v := .int _ _) rfl ?_
  refine sCall3 rfl call102 rfl rfl rfl h9 ?_
  refine sAs (v := nv _) rfl ?_
  refine sNil (kSeqN ?_)
  refine cSeq ?_
  refine cRegion ?_
  refine sMv (v := nv _) rfl ?_
  refine sBin (a := bothF l r n) rfl rfl (aInt_neq (b := 0)) ?_
  refine sNil (kSeqN ?_)
  refine cCond rfl (fun c0 => ?_) (fun c0 => ?_)
  ·
    refine cSeq ?_
    refine cRegion ?_
    refine sMv (v := nv _) rfl ?_
    refine sAs (v := .slice _ _ _) rfl ?_
    refine sAs (v := nv _) rfl ?_
    refine sNil (kSeqN ?_)
    refine cRet (kSeqR ?_)
    exact ⟨.inr rfl, _, rfl, _, rfl, by rw [ifOk_n c0]; exact .nil _ _, .refl _⟩
  ·
    have h0 := Decidable.not_not.1 c0
    have hcl := bothF_ok h0
    obtain ⟨N, L, rfl, rfl, hN1, hN2, hL1, hL2⟩ := checkF_nat hcl.1
    obtain ⟨N', R, hNN, rfl, _, _, hR1, hR2⟩ := checkF_nat hcl.2
    obtain rfl : N' = N := by have := Int.ofNat.inj hNN; omega
    rw [ifOk_0 h0, nats_ofs, nats_ofs, h0, show (Int.ofNat N').toNat = N' from rfl]
    have hA2 : ∀ x ∈ nullM L N', x < 2 ^ N' := by rw [← orthM_eq (by omega) hL2]; exact orthM_lt hL2
    have hB2 : ∀ x ∈ nullM R N', x < 2 ^ N' := by rw [← orthM_eq (by omega) hR2]; exact orthM_lt hR2
    have hAl : (nullM L N').length ≤ N' := nullM_len _ _ (by omega)
    have hBl : (nullM R N').length ≤ N' := nullM_len _ _ (by omega)
    refine cSkip (kSeqN ?_)
    refine cSeq ?_
    refine cRegion ?_
    refine sMv (v := .slice _ _ _) rfl ?_
    refine sMv (v := nv N') rfl ?_
    obtain ⟨v18, m18, h18, k18, e18⟩ := spec_Orthogonal (n := N') ha (by omega) (by omega) hL2
    rw [orthM_eq (by omega) hL2] at k18
    obtain ⟨q18, c18, rfl⟩ := k18.ints.lenN
    refine sCall2 rfl call95 rfl rfl h18 ?_
    refine sMv (v := .slice _ _ _) rfl ?_
    refine sMv (v := nv N') rfl ?_
    obtain ⟨v21, m21, h21, k21, e21⟩ := spec_Orthogonal (n := N') (hb.ext e18) (by omega) (by omega) hR2
    rw [orthM_eq (by omega) hR2] at k21
    have i21 := k21.ints
    obtain ⟨q21, c21, rfl⟩ := i21.lenN
    refine sCall2 rfl call95 rfl rfl h21 ?_
    generalize nullM L N' = A at *
    generalize nullM R N' = B at *
    refine sApp App22 rfl rfl (k18.ext e21) i21 (by have := e18.1; have := e21.1; omega) (by rw [ofs_length, ofs_length]; omega) fun v4 m4 hO4 hL4 => ?_
    have hO5 : OwnF m.size m4 v4 (ofs (A ++ B)) := by rw [ofs_append]; exact hO4
    have e4 : Ext m m4 := hL4.to_ext (e18.trans e21) (Nat.le_refl _)
    obtain ⟨q4, cp4, rfl⟩ := hO5.ints.lenN
    have hAB : ∀ x ∈ A ++ B, x < 2 ^ N' := fun x hx => by
      rcases List.mem_append.1 hx with hx | hx
      · exact hA2 x hx
      · exact hB2 x hx
    refine sMv (v := nv N') rfl ?_
    obtain ⟨v24, m24, h24, k24, e24⟩ := spec_Orthogonal (n := N') hO5.ints (by simp; omega) (by omega) hAB
    rw [orthM_eq (by omega) hAB] at k24
    obtain ⟨q24, c24, rfl⟩ := k24.ints.lenN
    refine sCall2 rfl call95 rfl rfl h24 ?_
    refine sAs (v := .slice _ _ _) rfl ?_
    refine sAs (v := nv 0) rfl ?_
    refine sNil (kSeqN ?_)
    refine cRet ?_
    exact ⟨.inr rfl, _, rfl, _, rfl, k24.mono e4.1, e4.trans e24⟩

end Go.AM

/-! ### E34 -/
namespace Go.AM
open Go.Proofs
set_option maxRecDepth 100000
set_option linter.unusedVariables false
set_option linter.unusedSimpArgs false
theorem call92 : callable Tryd.prog 92 = true := by kernel_rfl

theorem okf47 : okF Tryd.prog H0 47 31 = true := by kernel_rfl
theorem spec_refMul {m : Mem} {a b : Value} {l r : List Int} {n k : Int} (ha : IntsAt m a l) (hb : IntsAt m b r) (hl : l.length < 4611686018427387904) (hr : r.length < 4611686018427387904) : ∃ v m', ACalls Tryd.prog 47 #[a, .int .i64 n, b, .int .i64 k] m v m' ∧ (∃ w, v = .tuple #[w, nv (mulE l n r k)] ∧ OwnF m.size m' w (ofs (ifOk (mulE l n r k) (mulM (nats l) (nats r)) [])) ∧ Ext m m') := by
  have h14 := spec_refCheck (n := n) ha hl
  have h20 := spec_refCheck (n := k) hb hr
  obtain ⟨q, cap, rfl⟩ := ha.len
  obtain ⟨q2, cap2, rfl⟩ := hb.len
  unfold mulE
  refine wpF (args := [_, _, _, _]) mixed okf47 (fn := Tryd.f47) rfl rfl rfl (by simp) ?_
  refine cSeq ?_
  refine cRegion ?_
  refine sAs (v := .slice _ _ _) rfl ?_
  refine sAs (v := nv 0) rfl ?_
  refine sNil (kSeqN ?_)
  refine cSeq ?_
  refine cSeq ?_
  refine cRegion ?_
  refine sMv (v := .slice _ _ _) rfl ?_
  refine sMv (v := .int _ _) rfl ?_
  refine sCall2 rfl call61 rfl rfl h14 ?_
  refine sAs (v := nv _) rfl ?_
  refine sNil (kSeqN ?_)
  refine cSeq ?_
  refine cRegion ?_
  refine sMv (v := nv _) rfl ?_
  refine sBin (a := checkF l n) rfl rfl (aInt_neq (b := 0)) ?_
  refine sNil (kSeqN ?_)
  refine cCond rfl (fun c0 => ?_) (fun c0 => ?_)
  ·
    refine cSeq ?_
    refine cRegion ?_
    refine sMv (v := nv _) rfl ?_
    refine sAs (v := .slice _ _ _) rfl ?_
    refine sAs (v := nv _) rfl ?_
    refine sNil (kSeqN ?_)
    refine cRet (kSeqR ?_)
    exact ⟨.inr rfl, _, rfl, _, by rw [if_neg c0]; rfl, by rw [if_neg c0, ifOk_n c0]; exact .nil _ _, .refl _⟩
  ·
    refine cSkip (kSeqN ?_)
    refine cSeq ?_
    refine cSeq ?_
    refine cRegion ?_
    refine sMv (v := .slice _ _ _) rfl ?_
    refine sMv (v := .int _ _) rfl ?_
    refine sCall2 rfl call61 rfl rfl h20 ?_
    refine sAs (v := nv _) rfl ?_
    refine sNil (kSeqN ?_)
    refine cSeq ?_
    refine cRegion ?_
    refine sMv (v := nv _) rfl ?_
    refine sBin (a := checkF r k) rfl rfl (aInt_neq (b := 0)) ?_
    refine sNil (kSeqN ?_)
    refine cCond rfl (fun c1 => ?_) (fun c1 => ?_)
    ·
      refine cSeq ?_
      refine cRegion ?_
      refine sMv (v := nv _) rfl ?_
      refine sAs (v := .slice _ _ _) rfl ?_
      refine sAs (v := nv _) rfl ?_
      refine sNil (kSeqN ?_)
      refine cRet (kSeqR ?_)
      exact ⟨.inr rfl, _, rfl, _, by rw [if_pos (Decidable.not_not.1 c0), if_neg c1]; rfl, by rw [if_pos (Decidable.not_not.1 c0), if_neg c1, ifOk_n c1]; exact .nil _ _, .refl _⟩
    ·
      rw [if_pos (Decidable.not_not.1 c0), if_pos (Decidable.not_not.1 c1)]
      refine cSkip (kSeqN ?_)
      refine cSeq ?_   -- seq 9
      refine cSeq ?_
      refine cRegion ?_
      refine sMv (v := .slice _ _ _) rfl ?_
      refine sLen T22 rfl ?_
      refine sMv (v := .int _ _) rfl ?_
      refine sBinI (a := Int.ofNat r.length) rfl rfl aInt_neqI ?_
      refine sNil (kSeqN ?_)
      refine cCond (p := Int.ofNat r.length ≠ n) rfl (fun c2 => ?_) (fun c2 => ?_)
      ·
        refine cSeq ?_
        refine cRegion ?_
        refine sAs (v := .slice _ _ _) rfl ?_
        refine sAs (v := nv 7) rfl ?_
        refine sNil (kSeqN ?_)
        refine cRet (kSeqR ?_)
        exact ⟨.inr rfl, _, rfl, _, by rw [if_pos c2]; rfl, by rw [if_pos c2, ifOk_n (by decide)]; exact .nil _ _, .refl _⟩
      ·
        rw [if_neg c2, ifOk_0 rfl]
        obtain ⟨N, L, rfl, rfl, hN1, hN2, hL1, hL2⟩ := checkF_nat (Decidable.not_not.1 c0)
        obtain ⟨N', R, rfl, rfl, hN1', hN2', hR1, hR2⟩ := checkF_nat (Decidable.not_not.1 c1)
        rw [nats_ofs, nats_ofs]
        refine cSkip (kSeqN ?_)
        refine cSeq ?_
        refine cRegion ?_
        refine sMv (v := .slice _ _ _) rfl ?_
        refine sMv (v := .slice _ _ _) rfl ?_
        obtain ⟨v30, m30, h30, k30, e30⟩ := spec_Product ha hb (by omega) (by omega) (fun x hx => lt62' (hL2 x hx) (by omega)) (fun x hx => lt62' (hR2 x hx) (by omega))
        obtain ⟨q30, c30, rfl⟩ := k30.ints.lenN
        refine sCall2 rfl call90 rfl rfl h30 ?_
        refine sAs (v := .slice _ _ _) rfl ?_
        refine sAs (v := nv 0) rfl ?_
        refine sNil (kSeqN ?_)
        refine cRet ?_
        exact ⟨.inr rfl, _, rfl, _, rfl, k30, e30⟩

theorem okf48 : okF Tryd.prog H0 48 24 = true := by kernel_rfl
theorem spec_refTranspose {m : Mem} {a : Value} {l : List Int} {n : Int} (ha : IntsAt m a l) (hl : l.length < 4611686018427387904) : ∃ v m', ACalls Tryd.prog 48 #[a, .int .i64 n] m v m' ∧ (∃ w, v = .tuple #[w, nv (turnE l n)] ∧ OwnF m.size m' w (ofs (ifOk (turnE l n) (turnedM (nats l) n.toNat) [])) ∧ Ext m m') := by
  have h9 := spec_refCheck (n := n) ha hl
  obtain ⟨q, cap, rfl⟩ := ha.len
  unfold turnE
  refine wpF (args := [_, _]) mixed okf48 (fn := Tryd.f48) rfl rfl rfl (by simp) ?_
  refine cSeq ?_
  refine cRegion ?_
  refine sAs (v := .slice _ _ _) rfl ?_
  refine sAs (v := nv 0) rfl ?_
  refine sNil (kSeqN ?_)
  refine cSeq ?_
  refine cSeq ?_
  refine cRegion ?_
  refine sMv (v := .slice _ _ _) rfl ?_
  refine sMv (v := .int _ _) rfl ?_
  refine sCall2 rfl call61 rfl rfl h9 ?_
  refine sAs (v := nv _) rfl ?_
  refine sNil (kSeqN ?_)
  refine cSeq ?_
  refine cRegion ?_
  refine sMv (v := nv _) rfl ?_
  refine sBin (a := checkF l n) rfl rfl (aInt_neq (b := 0)) ?_
  refine sNil (kSeqN ?_)
  refine cCond rfl (fun c0 => ?_) (fun c0 => ?_)
  ·
    refine cSeq ?_
    refine cRegion ?_
    refine sMv (v := nv _) rfl ?_
    refine sAs (v := .slice _ _ _) rfl ?_
    refine sAs (v := nv _) rfl ?_
    refine sNil (kSeqN ?_)
    refine cRet (kSeqR ?_)
    exact ⟨.inr rfl, _, rfl, _, by rw [if_neg c0]; rfl, by rw [if_neg c0, ifOk_n c0]; exact .nil _ _, .refl _⟩
  ·
    have h0 := Decidable.not_not.1 c0
    rw [if_pos h0]
    refine cSkip (kSeqN ?_)
    refine cSeq ?_   -- seq 5
    refine cSeq ?_
    refine cRegion ?_
    refine sMv (v := .slice _ _ _) rfl ?_
    refine sLen T22 rfl ?_
    refine sBin rfl rfl (aInt_eql (b := 0)) ?_
    refine sMv (v := .bool _) rfl ?_
    by_cases h1 : l.length = 0
    ·
      rw [decide_eq_true h1]
      refine sGno (q' := true) rfl rfl (by simp) ?_
      refine sGno (q' := true) rfl rfl (by simp) ?_
      refine sGno (q' := true) rfl rfl (by simp) ?_
      refine sP (v := .bool _) rfl ?_
      refine sNil (kSeqN ?_)
      refine cCondT rfl ?_
      refine cSeq ?_
      refine cRegion ?_
      refine sAs (v := .slice _ _ _) rfl ?_
      refine sAs (v := nv 7) rfl ?_
      refine sNil (kSeqN ?_)
      refine cRet (kSeqR ?_)
      exact ⟨.inr rfl, _, rfl, _, by rw [if_pos (.inl h1)]; rfl, by rw [if_pos (.inl h1), ifOk_n (by decide)]; exact .nil _ _, .refl _⟩
    ·
      rw [decide_eq_false h1]
      refine sG rfl rfl ?_
      refine sMv (v := .slice _ _ _) rfl ?_
      refine sG rfl rfl ?_
      refine sLen T22 rfl ?_
      refine sG rfl rfl ?_
      refine sBin rfl rfl (aInt_gtr (b := 16)) ?_
      refine sP (v := .bool _) rfl ?_
      refine sNil (kSeqN ?_)
      refine cCond rfl (fun c2 => ?_) (fun c2 => ?_)
      ·
        refine cSeq ?_
        refine cRegion ?_
        refine sAs (v := .slice _ _ _) rfl ?_
        refine sAs (v := nv 7) rfl ?_
        refine sNil (kSeqN ?_)
        refine cRet (kSeqR ?_)
        exact ⟨.inr rfl, _, rfl, _, by rw [if_pos (.inr c2)]; rfl, by rw [if_pos (.inr c2), ifOk_n (by decide)]; exact .nil _ _, .refl _⟩
      ·
        rw [if_neg (by omega)]
        obtain ⟨N, L, rfl, rfl, hN1, hN2, hL1, hL2⟩ := checkF_nat h0
        refine cSkip (kSeqN ?_)
        refine cSeq ?_
        refine cRegion ?_
        refine sMv (v := .slice _ _ _) rfl ?_
        refine sMv (v := nv N) rfl ?_
        obtain ⟨v27, m27, h27, k27, k27e⟩ := spec_Turned (n := N) ha (by omega) (fun x hx => lt62' (hL2 x hx) (by omega)) (by omega)
        obtain ⟨q27, c27, rfl⟩ := k27.ints.lenN
        refine sCall2 rfl call91 rfl rfl h27 ?_
        refine sAs (v := .slice _ _ _) rfl ?_
        refine sAs (v := nv 0) rfl ?_
        refine sNil (kSeqN ?_)
        refine cRet ?_
        exact ⟨.inr rfl, _, rfl, _, rfl, by rw [ifOk_0 rfl, nats_ofs]; exact k27, k27e⟩

theorem okf50 : okF Tryd.prog H0 50 12 = true := by kernel_rfl
theorem spec_refIdentity {m : Mem} {n : Int} : ∃ v m', ACalls Tryd.prog 50 #[.int .i64 n] m v m' ∧ (∃ w, v = .tuple #[w, nv (identE n)] ∧ OwnF m.size m' w (ofs (ifOk (identE n) (oneM n.toNat) [])) ∧ Ext m m') := by
  unfold identE
  refine wpF (args := [_]) mixed okf50 (fn := Tryd.f50) rfl rfl rfl (by simp) ?_
  refine cSeq ?_
  refine cRegion ?_
  refine sAs (v := .slice _ _ _) rfl ?_
  refine sAs (v := nv 0) rfl ?_
  refine sNil (kSeqN ?_)
  refine cSeq ?_   -- seq 1
  refine cSeq ?_
  refine cRegion ?_
  refine sMv (v := .int _ _) rfl ?_
  refine sBinI (v := .bool (decide (n < 1))) rfl rfl rfl ?_
  refine sMv (v := .bool _) rfl ?_
  by_cases h1 : n < 1
  ·
    rw [decide_eq_true h1]
    refine sGno (q' := true) rfl rfl (by simp) ?_
    refine sGno (q' := true) rfl rfl (by simp) ?_
    refine sP (v := .bool _) rfl ?_
    refine sNil (kSeqN ?_)
    refine cCondT rfl ?_
    refine cSeq ?_
    refine cRegion ?_
    refine sAs (v := .slice _ _ _) rfl ?_
    refine sAs (v := nv 3) rfl ?_
    refine sNil (kSeqN ?_)
    refine cRet (kSeqR ?_)
    exact ⟨.inr rfl, _, rfl, _, by rw [if_pos (.inl h1)]; rfl, by rw [if_pos (.inl h1), ifOk_n (by decide)]; exact .nil _ _, .refl _⟩
  ·
    rw [decide_eq_false h1]
    refine sG rfl rfl ?_
    refine sMv (v := .int _ _) rfl ?_
    refine sG rfl rfl ?_
    refine sBinI (v := .bool (decide (n > 16))) rfl rfl rfl ?_
    refine sP (v := .bool _) rfl ?_
    refine sNil (kSeqN ?_)
    refine cCond (p := n > 16) rfl (fun c1 => ?_) (fun c1 => ?_)
    ·
      refine cSeq ?_
      refine cRegion ?_
      refine sAs (v := .slice _ _ _) rfl ?_
      refine sAs (v := nv 3) rfl ?_
      refine sNil (kSeqN ?_)
      refine cRet (kSeqR ?_)
      exact ⟨.inr rfl, _, rfl, _, by rw [if_pos (.inr c1)]; rfl, by rw [if_pos (.inr c1), ifOk_n (by decide)]; exact .nil _ _, .refl _⟩
    ·
      rw [if_neg (by omega), ifOk_0 rfl]
      obtain ⟨N, rfl⟩ : ∃ N : Nat, n = Int.ofNat N := ⟨n.toNat, by simp; omega⟩
      have hN : N ≤ 16 := by simp at c1; omega
      refine cSkip (kSeqN ?_)
      refine cSeq ?_
      refine cRegion ?_
      refine sMv (v := nv N) rfl ?_
      obtain ⟨v11, m11, h11, k11, e11⟩ := spec_refOne (m := m) (n := N) (by omega)
      obtain ⟨q11, c11, rfl⟩ := k11.ints.lenN
      refine sCall1 rfl call93 rfl h11 ?_
      refine sAs (v := .slice _ _ _) rfl ?_
      refine sAs (v := nv 0) rfl ?_
      refine sNil (kSeqN ?_)
      refine cRet ?_
      exact ⟨.inr rfl, _, rfl, _, rfl, k11, e11⟩

theorem okf92 : okF Tryd.prog H0 92 36 = true := by kernel_rfl
theorem spec_refInverse {m : Mem} {a : Value} {L : List Nat} {N : Nat} (ha : IntsAt m a (ofs L)) (hLN : L.length = N) (hN : N ≤ 16) (hL2 : ∀ x ∈ L, x < 2 ^ N) : ∃ v m', ACalls Tryd.prog 92 #[a, nv N] m v m' ∧ (∃ w, v = .tuple #[w, .bool (invOk L N)] ∧ OwnF m.size m' w (ofs (if invOk L N then invL L N else [])) ∧ Ext m m') := by
  obtain ⟨v12, m12, h12, k12, e12⟩ := spec_refReduced (n := N) ha (by omega) (lt62 (by omega) hL2) (by omega)
  rw [refRedM_eq (by omega) hL2] at k12
  obtain ⟨q12, c12, rfl⟩ := k12.ints.lenN
  obtain ⟨q, cap, rfl⟩ := ha.lenN
  have hio := invOk_rank (n := N) (by omega) hL2
  refine wpF (args := [_, _]) mixed okf92 (fn := Tryd.f92) rfl rfl rfl (by simp) ?_
  refine cSeq ?_
  refine cRegion ?_
  refine sAs (v := .slice _ _ _) rfl ?_
  refine sAs (v := .bool _) rfl ?_
  refine sNil (kSeqN ?_)
  refine cSeq ?_   -- seq 1
  refine cSeq ?_
  refine cRegion ?_
  refine sMv (v := .slice _ _ _) rfl ?_
  refine sMv (v := nv _) rfl ?_
  refine sCall2 rfl call80 rfl rfl h12 ?_
  refine sLen T22 rfl ?_
  refine sMv (v := nv _) rfl ?_
  refine sBin (a := (redM L).length) (b := N) rfl rfl aInt_lss ?_
  refine sNil (kSeqN ?_)
  refine cCond rfl (fun c0 => ?_) (fun c0 => ?_)
  ·
    refine cSeq ?_
    refine cRegion ?_
    refine sAs (v := .slice _ _ _) rfl ?_
    refine sAs (v := .bool _) rfl ?_
    refine sNil (kSeqN ?_)
    refine cRet (kSeqR ?_)
    have hf : invOk L N = false := by rw [hio]; exact decide_eq_false (fun h => h c0)
    exact ⟨.inr rfl, _, rfl, _, by rw [hf]; rfl, by rw [hf]; exact .nil _ _, e12⟩
  ·
    have hf : invOk L N = true := by rw [hio]; exact decide_eq_true c0
    rw [hf]
    have hok : ∀ k, k < N → (whichM L (2 ^ k)).1 = 0 := fun k hk => by
      unfold invOk at hf
      exact of_decide_eq_true (List.all_eq_true.1 hf k (List.mem_range.2 hk))
    refine cSkip (kSeqN ?_)
    refine cSeq ?_
    refine cRegion ?_
    refine sAs (v := .slice _ _ _) rfl ?_
    refine sNil (kSeqN ?_)
    refine cSeq ?_
    refine cSeq ?_
    refine cRegion ?_
    refine sAs (v := nv 0) rfl ?_
    refine sNil (kSeqN ?_)
    refine cBlock ?_
    refine wpC_loop (fun k ρ m' => ∃ i v, k = N - i ∧ i ≤ N ∧ Low m.size m m' ∧ OwnF m.size m' v (ofs ((List.range i).map fun k => (whichM L (2 ^ k)).2)) ∧ Has ρ [(0, .slice q L.length cap), (1, nv N), (6, v), (7, nv i)]) ⟨0, _, rfl, Nat.zero_le _, e12, .nil _ _, rfl, rfl, rfl, rfl, trivial⟩ ?_
    rintro k ρ m' ⟨i, v, rfl, hi, hLo, hO, hh⟩
    obtain ⟨qv, cv, rfl⟩ := hO.ints.lenN
    rw [hh.env]; clear hh
    refine cSeq ?_   -- seq 7
    refine cSeq ?_
    refine cRegion ?_
    refine sMv (v := nv _) rfl ?_
    refine sMv (v := nv _) rfl ?_
    refine sBin rfl rfl (aInt_lss) ?_
    refine sNil (kSeqN ?_)
    refine cCond rfl (fun c1 => ?_) (fun c1 => ?_)
    ·
      have h2i : 2 ^ i < 2 ^ N := Nat.pow_lt_pow_right (by omega) c1
      have h2N : 2 ^ N ≤ 2 ^ 16 := Nat.pow_le_pow_right (by omega) hN
      obtain ⟨hs1, hs2⟩ := sol_some (solM_rows hL2 (by omega) h2i)
      rw [hLN, hok i c1] at hs1
      rw [hLN, hok i c1] at hs2
      refine cSkip (kSeqN ?_)
      refine cSeq ?_
      refine cBlock ?_
      refine cSeq ?_
      refine cDraw rfl ?_
      refine sMv (v := .slice _ _ _) rfl ?_
      refine sMv (v := nv _) rfl ?_
      obtain ⟨v24, m24, h24, k24, e24⟩ := spec_Turned (n := N) (hLo.ints ha (Nat.le_refl _)) (by omega) (fun x hx => lt62' (hL2 x hx) (by omega)) (by omega)
      have i24 := k24.ints
      obtain ⟨q24, c24, rfl⟩ := i24.lenN
      refine sCall2 rfl call91 rfl rfl h24 ?_
      refine sMv (v := nv _) rfl ?_
      refine sMv (v := nv _) rfl ?_
      refine sBin (v := nv (2 ^ i)) rfl rfl (by rw [← show 1 <<< i = 2 ^ i by rw [Nat.shiftLeft_eq, Nat.one_mul]]; exact aInt_shl (a := 1) (by omega)) ?_
      obtain ⟨v28, m28, h28, rfl, e28⟩ := spec_Solution (n := N) (b := 2 ^ i) i24 (by rw [turnedM_length]; omega) (by omega) (fun x hx => by have := turnedM_lt' x hx; rwa [hLN] at this) (lt62' h2i (by omega))
      rw [hs1, hs2] at h28
      have e28' := e24.trans e28
      refine sCall3 rfl call71 rfl rfl rfl h28 ?_
      refine sMv (v := .tuple _) rfl ?_
      refine sP (v := nv (whichM L (2 ^ i)).2) rfl ?_
      refine sP (v := .bool _) rfl ?_   -- extract ['t21', '1']
      refine sAs (v := nv _) rfl ?_
      refine sAs (v := .bool _) rfl ?_
      refine sNil (kSeqN ?_)
      refine cRegion ?_
      refine sMv (v := .slice _ _ _) rfl ?_
      refine sMv (v := nv _) rfl ?_
      refine sBuildS T22 S3 Z3 (by decide) (by decide) (by decide) (by kernel_rfl) fill1 rfl ?_
      refine sApp App22 rfl rfl ((hO.ext e28').ext (.push _ _)) one_ints (by have := hLo.1; have := e28'.1; simp; omega) (by simp; omega) fun v3 m3 hO3 hL3 => ?_
      have hO4 : OwnF m.size m3 v3 (ofs ((List.range (i + 1)).map fun k => (whichM L (2 ^ k)).2)) := by
        rw [List.range_succ, List.map_append, ofs_append]; exact hO3
      obtain ⟨q3, cp3, rfl⟩ := hO4.ints.lenN
      refine sAs (v := .slice _ _ _) rfl ?_
      refine sNil (kBlkN (kSeqN ?_))
      refine cRegion ?_
      refine sMv (v := nv _) rfl ?_
      refine sBin rfl rfl (aInt_add (b := 1) (by omega)) ?_
      refine sAs (v := nv _) rfl ?_
      refine sNil (kSeqN ?_)
      refine ⟨_, ?_, i + 1, _, rfl, by omega, (hLo.trans_ext (e28'.push' _) hLo.1).trans hL3, hO4, rfl, rfl, rfl, rfl, trivial⟩
      omega
    ·
      obtain rfl : i = N := by omega
      refine cExit (kSeqE (kSeqE (kBlkS (kSeqN ?_))))
      refine cSeq ?_
      refine cRegion ?_
      refine sMv (v := .slice _ _ _) rfl ?_
      refine sAs (v := .slice _ _ _) rfl ?_
      refine sAs (v := .bool _) rfl ?_
      refine sNil (kSeqN ?_)
      refine cRet ?_
      exact ⟨.inr rfl, _, rfl, _, rfl, hO, hLo⟩

theorem okf49 : okF Tryd.prog H0 49 28 = true := by kernel_rfl
theorem spec_refInvert {m : Mem} {a : Value} {l : List Int} {n : Int} (ha : IntsAt m a l) (hl : l.length < 4611686018427387904) : ∃ v m', ACalls Tryd.prog 49 #[a, .int .i64 n] m v m' ∧ (∃ w, v = .tuple #[w, nv (invE l n)] ∧ OwnF m.size m' w (ofs (ifOk (invE l n) (invL (nats l) n.toNat) [])) ∧ Ext m m') := by
  have h11 := spec_refCheck (n := n) ha hl
  obtain ⟨q, cap, rfl⟩ := ha.len
  unfold invE
  refine wpF (args := [_, _]) mixed okf49 (fn := Tryd.f49) rfl rfl rfl (by simp) ?_
  refine cSeq ?_
  refine cRegion ?_
  refine sAs (v := .slice _ _ _) rfl ?_
  refine sAs (v := nv 0) rfl ?_
  refine sNil (kSeqN ?_)
  refine cSeq ?_
  refine cSeq ?_
  refine cRegion ?_
  refine sMv (v := .slice _ _ _) rfl ?_
  refine sMv (v := .int _ _) rfl ?_
  refine sCall2 rfl call61 rfl rfl h11 ?_
  refine sAs (v := nv _) rfl ?_
  refine sNil (kSeqN ?_)
  refine cSeq ?_
  refine cRegion ?_
  refine sMv (v := nv _) rfl ?_
  refine sBin (a := checkF l n) rfl rfl (aInt_neq (b := 0)) ?_
  refine sNil (kSeqN ?_)
  refine cCond rfl (fun c0 => ?_) (fun c0 => ?_)
  ·
    refine cSeq ?_
    refine cRegion ?_
    refine sMv (v := nv _) rfl ?_
    refine sAs (v := .slice _ _ _) rfl ?_
    refine sAs (v := nv _) rfl ?_
    refine sNil (kSeqN ?_)
    refine cRet (kSeqR ?_)
    exact ⟨.inr rfl, _, rfl, _, by rw [if_neg c0]; rfl, by rw [if_neg c0, ifOk_n c0]; exact .nil _ _, .refl _⟩
  ·
    have h0 := Decidable.not_not.1 c0
    rw [if_pos h0]
    refine cSkip (kSeqN ?_)
    refine cSeq ?_   -- seq 5
    refine cSeq ?_
    refine cRegion ?_
    refine sMv (v := .slice _ _ _) rfl ?_
    refine sLen T22 rfl ?_
    refine sMv (v := .int _ _) rfl ?_
    refine sBinI (a := Int.ofNat l.length) rfl rfl aInt_neqI ?_
    refine sNil (kSeqN ?_)
    refine cCond (p := Int.ofNat l.length ≠ n) rfl (fun c1 => ?_) (fun c1 => ?_)
    ·
      refine cSeq ?_
      refine cRegion ?_
      refine sAs (v := .slice _ _ _) rfl ?_
      refine sAs (v := nv 7) rfl ?_
      refine sNil (kSeqN ?_)
      refine cRet (kSeqR ?_)
      exact ⟨.inr rfl, _, rfl, _, by rw [if_pos c1]; rfl, by rw [if_pos c1, ifOk_n (by decide)]; exact .nil _ _, .refl _⟩
    ·
      rw [if_neg c1]
      obtain ⟨N, L, rfl, rfl, hN1, hN2, hL1, hL2⟩ := checkF_nat h0
      rw [nats_ofs, show (Int.ofNat N).toNat = N from rfl]
      have hLN : L.length = N := by have := Decidable.not_not.1 c1; rw [ofs_length] at this; exact Int.ofNat.inj this
      refine cSkip (kSeqN ?_)
      refine cSeq ?_
      refine cRegion ?_
      refine sMv (v := .slice _ _ _) rfl ?_
      refine sMv (v := nv N) rfl ?_
      obtain ⟨v22, m22, h22, w22, rfl, o22, e22⟩ := spec_refInverse ha hLN hN2 hL2
      generalize invOk L N = ok at *
      obtain ⟨q22, c22, rfl⟩ := o22.ints.lenN
      refine sCall2 rfl call92 rfl rfl h22 ?_
      refine sMv (v := .tuple _) rfl ?_
      refine sP (v := .slice _ _ _) rfl ?_   -- extract ['t19', '0']
      refine sP (v := .bool _) rfl ?_   -- extract ['t19', '1']
      refine sAs (v := .slice _ _ _) rfl ?_
      refine sAs (v := .bool _) rfl ?_
      refine sNil (kSeqN ?_)
      refine cSeq ?_   -- seq 9
      refine cSeq ?_
      refine cRegion ?_
      refine sMv (v := .bool _) rfl ?_
      refine sP (v := .bool (!ok)) rfl ?_
      refine sNil (kSeqN ?_)
      refine cCond (p := ¬ ok = true) (by show Value.bool (!ok) = Value.bool (decide (¬ ok = true)); cases ok <;> rfl) (fun c2 => ?_) (fun c2 => ?_)
      ·
        refine cSeq ?_
        refine cRegion ?_
        refine sAs (v := .slice _ _ _) rfl ?_
        refine sAs (v := nv 6) rfl ?_
        refine sNil (kSeqN ?_)
        refine cRet (kSeqR ?_)
        have c2f : ok = false := by simpa using c2
        subst c2f
        exact ⟨.inr rfl, _, rfl, _, rfl, .nil _ _, e22⟩
      ·
        have c2' := Decidable.not_not.1 c2
        subst c2'
        refine cSkip (kSeqN ?_)
        refine cSeq ?_
        refine cRegion ?_
        refine sMv (v := .slice _ _ _) rfl ?_
        refine sAs (v := .slice _ _ _) rfl ?_
        refine sAs (v := nv 0) rfl ?_
        refine sNil (kSeqN ?_)
        refine cRet ?_
        exact ⟨.inr rfl, _, rfl, _, rfl, o22, e22⟩

end Go.AM
