/- The weights of a span tell those of what is orthogonal to it. -/
import Derived.Test.YtgiidbomifmcaaaDoorMade
import Derived.Test.YtgiidbomifmcaaaDoorEntryB
import Derived.Carry
import Derived.Test.YtgiidbomifmcaaaDoorTie
import Derived.Test.YtgiidbomifmcaaaDoorCards
set_option linter.unusedVariables false
set_option linter.unusedSimpArgs false
/-! ### E44 -/
namespace Go.AM
open Go.Proofs
set_option maxRecDepth 100000
set_option linter.unusedVariables false
set_option linter.unusedSimpArgs false
theorem kall40 : callable Tryd.prog 40 = true := by kernel_rfl
theorem kall28 : callable Tryd.prog 28 = true := by kernel_rfl
theorem kall42 : callable Tryd.prog 42 = true := by kernel_rfl
theorem kall88 : callable Tryd.prog 88 = true := by kernel_rfl
def chooseI (n : Nat) : Nat → Nat
  | 0 => 1
  | i + 1 => chooseI n i * (n - i) / (i + 1)
def chooseN (n k : Nat) : Nat := if n < k then 0 else chooseI n k
theorem choose_all : ∀ n : Fin 11, ∀ i : Fin 12, chooseI n.val i.val ≤ 1000 := by decide +kernel
theorem chooseI_le {n i : Nat} (hn : n ≤ 10) (hi : i ≤ 11) : chooseI n i ≤ 1000 := choose_all ⟨n, by omega⟩ ⟨i, by omega⟩
theorem chooseN_le {n i : Nat} (hn : n ≤ 10) (hi : i ≤ 11) : chooseN n i ≤ 1000 := by
  unfold chooseN; split
  · omega
  · exact chooseI_le hn hi

theorem okf88 : okF Tryd.prog H0 88 28 = true := by kernel_rfl
theorem spec_choose {m : Mem} {n k : Nat} (hn : n ≤ 10) (hk : k ≤ 10) : ∃ v m', ACalls Tryd.prog 88 #[nv n, nv k] m v m' ∧ (v = nv (chooseN n k) ∧ m' = m) := by
  refine wpF (args := [_, _]) mixed okf88 (fn := Tryd.f88) rfl rfl rfl (by simp) ?_
  refine cSeq ?_
  refine cRegion ?_
  refine sAs (v := nv 0) rfl ?_
  refine sNil (kSeqN ?_)
  refine cSeq ?_   -- seq 1
  refine cSeq ?_
  refine cRegion ?_
  refine sMv (v := nv _) rfl ?_
  refine sBin (v := .bool false) (b := 0) rfl rfl (lssF (by omega)) ?_
  refine sMv (v := .bool _) rfl ?_
  refine sG rfl rfl ?_
  refine sMv (v := nv _) rfl ?_
  refine sG rfl rfl ?_
  refine sMv (v := nv _) rfl ?_
  refine sG rfl rfl ?_
  refine sBin rfl rfl (aInt_gtr) ?_
  refine sP (v := .bool _) rfl ?_   -- t13 pick ['t9', '(bool true)', 't12']
  refine sNil (kSeqN ?_)
  refine cCond (p := n < k) rfl (fun c0 => ?_) (fun c0 => ?_)
  ·
    refine cSeq ?_
    refine cRegion ?_
    refine sAs (v := nv 0) rfl ?_
    refine sNil (kSeqN ?_)
    refine cRet (kSeqR ?_)
    exact ⟨.inr rfl, _, rfl, by rw [chooseN, if_pos c0]; rfl, rfl⟩
  ·
    refine cSkip (kSeqN ?_)
    refine cSeq ?_
    refine cRegion ?_
    refine sAs (v := nv 1) rfl ?_
    refine sNil (kSeqN ?_)
    refine cSeq ?_
    refine cSeq ?_
    refine cRegion ?_
    refine sMv (v := nv _) rfl ?_
    refine sMv (v := nv 0) rfl ?_
    refine sNil (kSeqN ?_)
    refine cBlock ?_
    refine wpC_loop (fun q ρ m' => ∃ i, q = k - i ∧ i ≤ k ∧ m = m' ∧ Has ρ [(0, nv n), (5, nv (chooseI n i)), (14, nv k), (15, nv i)]) ⟨0, rfl, by omega, rfl, rfl, rfl, rfl, rfl, trivial⟩ ?_
    rintro q ρ m' ⟨i, rfl, hi, rfl, hh⟩
    rw [hh.env]; clear hh
    refine cSeq ?_
    refine cRegion ?_
    refine sBin rfl rfl (aInt_lss) ?_
    refine sNil (kSeqN ?_)
    refine cSeq ?_   -- seq 8
    refine cCond rfl (fun c1 => ?_) (fun c1 => ?_)
    ·
      have hle := chooseI_le (n := n) (i := i) hn (by omega)
      have hmul : chooseI n i * (n - i) ≤ 1000 * 10 := Nat.mul_le_mul hle (by omega)
      refine cSkip (kSeqN ?_)
      refine cSeq ?_
      refine cBlock ?_
      refine cSeq ?_
      refine cRegion ?_
      refine sMv (v := nv _) rfl ?_
      refine sAs (v := nv _) rfl ?_
      refine sNil (kSeqN ?_)
      refine cRegion ?_
      refine sMv (v := nv _) rfl ?_
      refine sMv (v := nv _) rfl ?_
      refine sMv (v := nv _) rfl ?_
      refine sBin rfl rfl (aInt_sub (by omega)) ?_
      refine sBin rfl rfl (aInt_mul (by omega)) ?_
      refine sMv (v := nv _) rfl ?_
      refine sBin (b := 1) rfl rfl (aInt_add (by omega)) ?_
      refine sBin rfl rfl (aInt_quo (by omega)) ?_
      refine sAs (v := nv _) rfl ?_
      refine sNil (kBlkN (kSeqN ?_))
      refine cRegion ?_
      refine sBin rfl rfl (aInt_add (b := 1) (by omega)) ?_
      refine sMv (v := nv _) rfl ?_
      refine sNil (kSeqN ?_)
      refine ⟨_, ?_, i + 1, rfl, by omega, rfl, rfl, rfl, rfl, rfl, trivial⟩
      omega
    ·
      refine cExit (kSeqE (kSeqE (kBlkS (kSeqN ?_))))
      refine cSeq ?_
      refine cRegion ?_
      refine sMv (v := nv _) rfl ?_
      refine sAs (v := nv _) rfl ?_
      refine sNil (kSeqN ?_)
      refine cRet ?_
      obtain rfl : i = k := by omega
      exact ⟨.inr rfl, _, rfl, by rw [chooseN, if_neg c0]; rfl, rfl⟩

/-- The sum that the law adds up, so far. -/
def krawI (n j k : Nat) : Nat → Int
  | 0 => 0
  | i + 1 => krawI n j k i + (if i % 2 = 1 then -((chooseN k i * chooseN (n - k) (j - i) : Nat) : Int) else ((chooseN k i * chooseN (n - k) (j - i) : Nat) : Int))
def krOk (n j k : Nat) : Bool := decide (krawI n j k (j + 1) = Kr n j k) && (List.range (j + 2)).all fun i => decide (-100000 ≤ krawI n j k i) && decide (krawI n j k i ≤ 100000)
theorem kr_all : ((List.range 11).all fun n => (List.range (n + 1)).all fun j => (List.range (n + 1)).all fun k => krOk n j k) = true := by decide +kernel
theorem kr_ok {n j k : Nat} (hn : n ≤ 10) (hj : j ≤ n) (hk : k ≤ n) : krawI n j k (j + 1) = Kr n j k ∧ ∀ i, i ≤ j + 1 → -100000 ≤ krawI n j k i ∧ krawI n j k i ≤ 100000 := by
  have h1 := List.all_eq_true.1 kr_all n (List.mem_range.2 (by omega))
  have h2 := List.all_eq_true.1 h1 j (List.mem_range.2 (by omega))
  have h3 := List.all_eq_true.1 h2 k (List.mem_range.2 (by omega))
  unfold krOk at h3
  simp only [Bool.and_eq_true, decide_eq_true_eq] at h3
  refine ⟨h3.1, fun i hi => ?_⟩
  have := List.all_eq_true.1 h3.2 i (List.mem_range.2 (by omega))
  simpa only [Bool.and_eq_true, decide_eq_true_eq] using this
theorem negN {a : Nat} (h : a < 9223372036854775808) : aUn .neg (nv a) = some (.int .i64 (-(a : Int))) := by
  show aInt .sub .i64 0 (Int.ofNat a) = _
  rw [aInt_subI (by simp; omega)]
  congr 2
  simp
theorem aInt_mulI {a b : Int} (h : -9223372036854775808 ≤ a * b ∧ a * b ≤ 9223372036854775807) : aInt .mul .i64 a b = some (.int .i64 (a * b)) := by
  simp only [aInt]; rw [IntWalk.i64_in _ h]
theorem mul_bound {a : Nat} {x : Int} (ha : a ≤ 1024) (h1 : -100000 ≤ x) (h2 : x ≤ 100000) : -102400000 ≤ (a : Int) * x ∧ (a : Int) * x ≤ 102400000 := by
  have e1 := Int.mul_le_mul_of_nonneg_left h2 (Int.natCast_nonneg a)
  have e2 := Int.mul_le_mul_of_nonneg_left h1 (Int.natCast_nonneg a)
  omega
theorem ssum_bound {f : Nat → Int} {c : Int} : ∀ l : List Nat, (∀ x ∈ l, -c ≤ f x ∧ f x ≤ c) → -(c * l.length) ≤ ssum l f ∧ ssum l f ≤ c * l.length
  | [], _ => by simp [ssum_nil]
  | a :: l, h => by
    have h1 := h a (by simp)
    have h2 := ssum_bound l fun x hx => h x (by simp [hx])
    rw [ssum_cons, List.length_cons]
    have : c * ((l.length + 1 : Nat) : Int) = c * l.length + c := by rw [Int.natCast_add, Int.mul_add]; simp
    omega
theorem weights_len (L : List Nat) (n : Nat) : (weightsM L n).length = n + 1 := by rw [weightsM_eq, cntL_length]
theorem weights_le {L : List Nat} {n k : Nat} (h : Right L n) (hk : k ≤ n) : (weightsM L n).getD k 0 ≤ 2 ^ n := by
  rw [weightsM_eq, cntL_getD _ hk]
  refine Nat.le_trans List.countP_le_length ?_
  rw [sumsM_length]
  have := nullM_len_eq h.n24 h.lt
  exact Nat.pow_le_pow_right (by omega) (by omega)
theorem popc_zero_iff {x : Nat} : popc x = 0 ↔ x = 0 := by
  constructor
  · intro h
    rcases Nat.eq_zero_or_pos x with h0 | h0
    · exact h0
    · exfalso
      have : ∀ k x, x < 2 ^ k → 0 < x → 0 < popc x := by
        intro k
        induction k with
        | zero => intro x h1 h2; simp at h1; omega
        | succ k ih =>
          intro x h1 h2
          rw [popc_pos h2]
          by_cases hp : x % 2 = 1
          · omega
          · have := ih (x / 2) (by rw [Nat.pow_succ] at h1; omega) (by omega)
            omega
      have := this x x Nat.lt_two_pow_self h0
      omega
  · rintro rfl; rfl
theorem weights_zero {L : List Nat} {n : Nat} (h : Right L n) : (weightsM L n).getD 0 0 = 1 := by
  rw [weightsM_eq, cntL_getD _ (Nat.zero_le _)]
  have e : (fun x => decide (popc x = 0)) = fun x => x == 0 := by
    funext x
    rw [Bool.eq_iff_iff, decide_eq_true_eq, popc_zero_iff]; simp
  rw [e]
  show List.count 0 _ = 1
  rw [(redM_rref h.lt24).1.indep.nodup.count, if_pos (mem_sums.2 (.zero _))]

theorem okf42 : okF Tryd.prog H0 42 36 = true := by kernel_rfl
theorem spec_kraw {m : Mem} {n j k : Nat} (hn : n ≤ 10) (hj : j ≤ n) (hk : k ≤ n) : ∃ v m', ACalls Tryd.prog 42 #[nv n, nv j, nv k] m v m' ∧ (v = .int .i64 (Kr n j k) ∧ m' = m) := by
  obtain ⟨hkr, hbd⟩ := kr_ok hn hj hk
  refine wpF (args := [_, _, _]) mixed okf42 (fn := Tryd.f42) rfl rfl rfl (by simp) ?_
  refine cSeq ?_
  refine cRegion ?_
  refine sAs (v := .int .i64 _) rfl ?_
  refine sNil (kSeqN ?_)
  refine cSeq ?_
  refine cRegion ?_
  refine sAs (v := .int .i64 _) rfl ?_
  refine sNil (kSeqN ?_)
  refine cSeq ?_
  refine cSeq ?_
  refine cRegion ?_
  refine sMv (v := nv _) rfl ?_
  refine sBin rfl rfl (aInt_add (b := 1) (by omega)) ?_
  refine sMv (v := nv 0) rfl ?_
  refine sNil (kSeqN ?_)
  refine cBlock ?_
  refine wpC_loop (fun q ρ m' => ∃ i, q = j + 1 - i ∧ i ≤ j + 1 ∧ m = m' ∧ Has ρ [(0, nv n), (1, nv j), (2, nv k), (7, .int .i64 (krawI n j k i)), (11, nv (j + 1)), (12, nv i)]) ⟨0, rfl, by omega, rfl, rfl, rfl, rfl, rfl, rfl, rfl, trivial⟩ ?_
  rintro q ρ m' ⟨i, rfl, hi, rfl, hh⟩
  rw [hh.env]; clear hh
  refine cSeq ?_
  refine cRegion ?_
  refine sBin rfl rfl (aInt_lss) ?_
  refine sNil (kSeqN ?_)
  refine cSeq ?_   -- seq 5
  refine cCond rfl (fun c0 => ?_) (fun c0 => ?_)
  ·
    have hb1 := hbd i (by omega)
    have hb2 := hbd (i + 1) (by omega)
    rw [krawI] at hb2
    refine cSkip (kSeqN ?_)
    refine cSeq ?_
    refine cBlock ?_
    refine cSeq ?_
    refine cRegion ?_
    refine sMv (v := nv _) rfl ?_
    refine sAs (v := nv _) rfl ?_
    refine sNil (kSeqN ?_)
    refine cSeq ?_
    refine cRegion ?_
    refine sMv (v := nv _) rfl ?_
    refine sMv (v := nv _) rfl ?_
    obtain ⟨v17, m17, h17, rfl, k17⟩ := spec_choose (m := m) (n := k) (k := i) (by omega) (by omega)
    rw [k17] at h17
    have hc1 := chooseN_le (n := k) (i := i) (by omega) (by omega)
    refine sCall2 rfl kall88 rfl rfl h17 ?_
    refine sMv (v := nv _) rfl ?_
    refine sMv (v := nv _) rfl ?_
    refine sBin rfl rfl (aInt_sub (by omega)) ?_
    refine sMv (v := nv _) rfl ?_
    refine sMv (v := nv _) rfl ?_
    refine sBin rfl rfl (aInt_sub (by omega)) ?_
    obtain ⟨v24, m24, h24, rfl, k24⟩ := spec_choose (m := m) (n := n - k) (k := j - i) (by omega) (by omega)
    rw [k24] at h24
    have hc2 := chooseN_le (n := n - k) (i := j - i) (by omega) (by omega)
    have hm12 : chooseN k i * chooseN (n - k) (j - i) ≤ 1000 * 1000 := Nat.mul_le_mul hc1 hc2
    refine sCall2 rfl kall88 rfl rfl h24 ?_
    refine sBin rfl rfl (aInt_mul (by omega)) ?_
    refine sAs (v := nv _) rfl ?_
    refine sNil (kSeqN ?_)
    refine cSeq ?_   -- seq 9
    refine cSeq ?_
    refine cRegion ?_
    refine sMv (v := nv _) rfl ?_
    refine sBin (b := 2) rfl rfl (aInt_rem (by omega)) ?_
    refine sBin rfl rfl (aInt_eql (b := 1)) ?_
    refine sNil (kSeqN ?_)
    refine cCond rfl (fun c1 => ?_) (fun c1 => ?_)
    ·
      rw [if_pos c1] at hb2
      refine cRegion ?_
      refine sMv (v := nv _) rfl ?_
      refine sP (v := .int .i64 (-((chooseN k i * chooseN (n - k) (j - i) : Nat) : Int))) (negN (by omega)) ?_
      refine sAs (v := .int .i64 _) rfl ?_
      refine sNil (kSeqN ?_)
      refine cRegion ?_
      refine sMv (v := .int .i64 (krawI n j k i)) rfl ?_
      refine sMv (v := .int .i64 _) rfl ?_
      refine sBinI rfl rfl (aInt_addI (by first | omega | (simp only [Int.ofNat_eq_natCast]; omega))) ?_
      refine sAs (v := .int .i64 _) rfl ?_
      refine sNil (kBlkN (kSeqN ?_))
      refine cRegion ?_
      refine sBin rfl rfl (aInt_add (b := 1) (by omega)) ?_
      refine sMv (v := nv _) rfl ?_
      refine sNil (kSeqN ?_)
      refine ⟨_, ?_, i + 1, rfl, by omega, rfl, rfl, rfl, rfl, by rw [krawI, if_pos c1]; rfl, rfl, rfl, trivial⟩
      omega
    ·
      rw [if_neg c1] at hb2
      refine cSkip (kSeqN ?_)
      refine cRegion ?_
      refine sMv (v := .int .i64 (krawI n j k i)) rfl ?_
      refine sMv (v := .int .i64 _) rfl ?_
      refine sBinI rfl rfl (aInt_addI (by first | omega | (simp only [Int.ofNat_eq_natCast]; omega))) ?_
      refine sAs (v := .int .i64 _) rfl ?_
      refine sNil (kBlkN (kSeqN ?_))
      refine cRegion ?_
      refine sBin rfl rfl (aInt_add (b := 1) (by omega)) ?_
      refine sMv (v := nv _) rfl ?_
      refine sNil (kSeqN ?_)
      refine ⟨_, ?_, i + 1, rfl, by omega, rfl, rfl, rfl, rfl, by rw [krawI, if_neg c1]; rfl, rfl, rfl, trivial⟩
      omega
  ·
    refine cExit (kSeqE (kSeqE (kBlkS (kSeqN ?_))))
    refine cSeq ?_
    refine cRegion ?_
    refine sMv (v := .int .i64 _) rfl ?_
    refine sAs (v := .int .i64 _) rfl ?_
    refine sNil (kSeqN ?_)
    refine cRet ?_
    obtain rfl : i = j + 1 := by omega
    exact ⟨.inr rfl, _, rfl, by rw [← hkr]; rfl, rfl⟩

theorem okf6 : okF Tryd.prog H0 6 163 = true := by kernel_rfl
theorem spec_BitsDual {m : Mem} {a : Value} {l : List Int} {c : Nat} (hG : Glob m) (ha : BytesAt m a l) (hc : c < 256) : ∃ v m', ACalls Tryd.prog 6 #[a, .int .u8 (Int.ofNat c)] m v m' ∧ (v = .bool true ∧ True) := by
  obtain ⟨q, cap, rfl⟩ := ha.len
  have hn1 : 1 ≤ 1 + c % 10 := by omega
  have hn2 : 1 + c % 10 ≤ 10 := by omega
  refine wpF (args := [_, _]) mixed okf6 (fn := Tryd.f6) rfl rfl rfl (by simp) ?_
  refine cSeq ?_
  refine cRegion ?_
  refine sAs (v := .bool _) rfl ?_
  refine sNil (kSeqN ?_)
  refine cSeq ?_
  refine cRegion ?_
  refine sMv (v := .int .u8 _) rfl ?_
  refine sP (v := nv c) (conv5_3 hc) ?_
  refine sBin (b := 10) rfl rfl (aInt_rem (by omega)) ?_
  refine sBin (a := 1) rfl rfl (aInt_add (by omega)) ?_
  generalize 1 + c % 10 = n at *
  have h2n : 2 ^ n ≤ 2 ^ 10 := Nat.pow_le_pow_right (by omega) hn2
  have h2p : 0 < 2 ^ n := Nat.two_pow_pos n
  refine sAs (v := nv _) rfl ?_
  refine sNil (kSeqN ?_)
  refine cSeq ?_
  refine cRegion ?_
  refine sMv (v := .slice _ _ _) rfl ?_
  obtain ⟨v22, m22, h22, b, rfl, hb, hS22, e22⟩ := spec_Of ha
  refine sCall1 rfl call31 rfl h22 ?_
  refine sMv (v := nv _) rfl ?_
  obtain ⟨v24, m24, h24, L, oL, hLl, hLx, hS24, x24⟩ := spec_Made (n := n) (most := 8) hS22 (by omega) hb (by omega) (by omega)
  obtain ⟨qL, cL, rfl⟩ := oL.ints.lenN
  have hR : Right L n := made_right hn1 (by omega) (by omega) hLl hLx
  have y24 : Ext m m24 := e22.lowx x24 hb
  have hNle := hR.null.len
  have hsum := nullM_len_eq hR.n24 hR.lt
  have hdual := fun j (hj : j ≤ n) => dual_weights (j := j) hR.n24 hR.lt hj
  have hA0 := weights_zero hR
  have hB0 := weights_zero hR.null
  have hAn := weights_len L n
  have hBn := weights_len (nullM L n) n
  have hAl := fun k (hk : k ≤ n) => weights_le hR hk
  have hBl := fun k (hk : k ≤ n) => weights_le hR.null hk
  refine sCall3 rfl call32 rfl rfl rfl h24 ?_
  refine sAs (v := .slice _ _ _) rfl ?_
  refine sNil (kSeqN ?_)
  refine cSeq ?_
  refine cRegion ?_
  refine sMv (v := .slice _ _ _) rfl ?_
  refine sMv (v := nv _) rfl ?_
  obtain ⟨v28, m28, h28, w28, rfl, oN, e28⟩ := sp_Null (hG.ext y24) hR oL.ints
  obtain ⟨qN, cN, rfl⟩ := oN.ints.lenN
  have y28 := y24.trans e28
  refine sCall2 rfl call39 rfl rfl h28 ?_
  refine sMv (v := .tuple _) rfl ?_
  refine sP (v := .slice _ _ _) rfl ?_   -- extract ['t25', '0']
  refine sP (v := nv _) rfl ?_   -- extract ['t25', '1']
  refine sAs (v := .slice _ _ _) rfl ?_
  refine sAs (v := nv _) rfl ?_
  refine sNil (kSeqN ?_)
  refine cSeq ?_
  refine cRegion ?_
  refine sMv (v := .slice _ _ _) rfl ?_
  refine sMv (v := nv _) rfl ?_
  obtain ⟨v34, m34, h34, rfl, e34⟩ := sp_Rank hR (oL.ext e28).ints
  have y34 := y28.trans e34
  refine sCall2 rfl kall40 rfl rfl h34 ?_
  refine sMv (v := .tuple _) rfl ?_
  refine sP (v := nv _) rfl ?_   -- extract ['t31', '0']
  refine sP (v := nv _) rfl ?_   -- extract ['t31', '1']
  refine sAs (v := nv _) rfl ?_
  refine sAs (v := nv _) rfl ?_
  refine sNil (kSeqN ?_)
  refine cSeq ?_   -- seq 5
  refine cSeq ?_
  refine cRegion ?_
  refine sMv (v := nv _) rfl ?_
  refine sBin (v := .bool false) (a := 0) (b := 0) rfl rfl (neqF rfl) ?_
  refine sMv (v := .bool _) rfl ?_
  refine sG rfl rfl ?_
  refine sMv (v := nv _) rfl ?_
  refine sG rfl rfl ?_
  refine sBin (v := .bool false) (a := 0) (b := 0) rfl rfl (neqF rfl) ?_
  refine sP (v := .bool _) rfl ?_   -- t42 pick ['t39', '(bool true)', 't41']
  refine sMv (v := .bool _) rfl ?_
  refine sG rfl rfl ?_
  refine sMv (v := nv _) rfl ?_
  refine sG rfl rfl ?_
  refine sBin (v := .bool false) (b := 0) rfl rfl (lssF (by omega)) ?_
  refine sP (v := .bool _) rfl ?_   -- t46 pick ['t43', '(bool true)', 't45']
  refine sMv (v := .bool _) rfl ?_
  refine sG rfl rfl ?_
  refine sMv (v := nv _) rfl ?_
  refine sG rfl rfl ?_
  refine sMv (v := nv _) rfl ?_
  refine sG rfl rfl ?_
  refine sBin (v := .bool false) rfl rfl (gtrF (by omega)) ?_
  refine sP (v := .bool _) rfl ?_   -- t51 pick ['t47', '(bool true)', 't50']
  refine sMv (v := .bool _) rfl ?_
  refine sG rfl rfl ?_
  refine sMv (v := .slice _ _ _) rfl ?_
  refine sG rfl rfl ?_
  refine sMv (v := nv _) rfl ?_
  refine sG rfl rfl ?_
  obtain ⟨v55, m55, h55, rfl, e55⟩ := spec_rows (oN.ext e34).ints (by omega) hR.n24 hR.null.lt
  have y55 := y34.trans e55
  refine sCall2 rfl call41 rfl rfl h55 ?_
  refine sG rfl rfl ?_
  refine sP (v := .bool false) rfl ?_
  refine sP (v := .bool _) rfl ?_   -- t57 pick ['t52', '(bool true)', 't56']
  refine sMv (v := .bool _) rfl ?_
  refine sG rfl rfl ?_
  refine sMv (v := .slice _ _ _) rfl ?_
  refine sG rfl rfl ?_
  refine sLen T22 rfl ?_
  refine sG rfl rfl ?_
  refine sMv (v := nv _) rfl ?_
  refine sG rfl rfl ?_
  refine sBin (v := .bool false) rfl rfl (gtrF (by omega)) ?_
  refine sP (v := .bool _) rfl ?_   -- t63 pick ['t58', '(bool true)', 't62']
  refine sNil (kSeqN ?_)
  refine cCondF rfl ?_
  refine cSkip (kSeqN ?_)
  refine cSeq ?_
  refine cRegion ?_
  refine sMv (v := .slice _ _ _) rfl ?_
  refine sMv (v := nv _) rfl ?_
  obtain ⟨v67, m67, h67, w67, rfl, oA, e67⟩ := sp_Weights (hG.ext y55) hR (((oL.ext e28).ext e34).ext e55).ints
  obtain ⟨qA, cA, rfl⟩ := oA.ints.lenN
  have y67 := y55.trans e67
  refine sCall2 rfl kall28 rfl rfl h67 ?_
  refine sMv (v := .tuple _) rfl ?_
  refine sP (v := .slice _ _ _) rfl ?_   -- extract ['t64', '0']
  refine sP (v := nv _) rfl ?_   -- extract ['t64', '1']
  refine sAs (v := .slice _ _ _) rfl ?_
  refine sAs (v := nv _) rfl ?_
  refine sNil (kSeqN ?_)
  refine cSeq ?_
  refine cRegion ?_
  refine sMv (v := .slice _ _ _) rfl ?_
  refine sMv (v := nv _) rfl ?_
  obtain ⟨v73, m73, h73, w73, rfl, oB, e73⟩ := sp_Weights (hG.ext y67) hR.null (((oN.ext e34).ext e55).ext e67).ints
  obtain ⟨qB, cB, rfl⟩ := oB.ints.lenN
  have y73 := y67.trans e73
  have iA := (oA.ext e73).ints
  have iB := oB.ints
  generalize weightsM L n = A at *
  generalize weightsM (nullM L n) n = B at *
  obtain ⟨bA, ofA, pA, rA, ccA, eA, gA, xA⟩ := iA.atN (by omega)
  obtain ⟨rfl, rfl, rfl⟩ := eA
  obtain ⟨bB, ofB, pB, rB, ccB, eB, gB, xB⟩ := iB.atN (by omega)
  obtain ⟨rfl, rfl, rfl⟩ := eB
  have lA : ∀ k, k < A.length → A[k]? = some (A.getD k 0) := fun k hk => by rw [List.getD_eq_getElem?_getD, List.getElem?_eq_getElem hk]; rfl
  have lB : ∀ k, k < B.length → B[k]? = some (B.getD k 0) := fun k hk => by rw [List.getD_eq_getElem?_getD, List.getElem?_eq_getElem hk]; rfl
  refine sCall2 rfl kall28 rfl rfl h73 ?_
  refine sMv (v := .tuple _) rfl ?_
  refine sP (v := .slice _ _ _) rfl ?_   -- extract ['t70', '0']
  refine sP (v := nv _) rfl ?_   -- extract ['t70', '1']
  refine sAs (v := .slice _ _ _) rfl ?_
  refine sAs (v := nv _) rfl ?_
  refine sNil (kSeqN ?_)
  refine cSeq ?_   -- seq 9
  refine cSeq ?_
  refine cRegion ?_
  refine sMv (v := nv _) rfl ?_
  refine sBin (v := .bool false) (a := 0) (b := 0) rfl rfl (neqF rfl) ?_
  refine sMv (v := .bool _) rfl ?_
  refine sG rfl rfl ?_
  refine sMv (v := nv _) rfl ?_
  refine sG rfl rfl ?_
  refine sBin (v := .bool false) (a := 0) (b := 0) rfl rfl (neqF rfl) ?_
  refine sP (v := .bool _) rfl ?_   -- t81 pick ['t78', '(bool true)', 't80']
  refine sMv (v := .bool _) rfl ?_
  refine sG rfl rfl ?_
  refine sMv (v := .slice _ _ _) rfl ?_
  refine sG rfl rfl ?_
  refine sLen T22 rfl ?_
  refine sG rfl rfl ?_
  refine sMv (v := nv _) rfl ?_
  refine sG rfl rfl ?_
  refine sBin (b := 1) rfl rfl (aInt_add (by omega)) ?_
  refine sG rfl rfl ?_
  refine sBin (v := .bool false) rfl rfl (neqF (by omega)) ?_
  refine sP (v := .bool _) rfl ?_   -- t88 pick ['t82', '(bool true)', 't87']
  refine sMv (v := .bool _) rfl ?_
  refine sG rfl rfl ?_
  refine sMv (v := .slice _ _ _) rfl ?_
  refine sG rfl rfl ?_
  refine sLen T22 rfl ?_
  refine sG rfl rfl ?_
  refine sMv (v := nv _) rfl ?_
  refine sG rfl rfl ?_
  refine sBin (b := 1) rfl rfl (aInt_add (by omega)) ?_
  refine sG rfl rfl ?_
  refine sBin (v := .bool false) rfl rfl (neqF (by omega)) ?_
  refine sP (v := .bool _) rfl ?_   -- t95 pick ['t89', '(bool true)', 't94']
  refine sMv (v := .bool _) rfl ?_
  refine sG rfl rfl ?_
  refine sMv (v := .slice _ _ _) rfl ?_
  refine sG rfl rfl ?_
  refine sIx (i := 0) T22 S3 rfl rfl (by omega) ?_
  refine sG rfl rfl ?_
  refine sLd (v := nv 1) A3 rfl gA (by have h0 := xA 0 _ (lA 0 (by omega)); rw [hA0] at h0; exact h0) ?_
  refine sG rfl rfl ?_
  refine sBin (v := .bool false) (b := 1) rfl rfl (neqF rfl) ?_
  refine sP (v := .bool _) rfl ?_   -- t101 pick ['t96', '(bool true)', 't100']
  refine sMv (v := .bool _) rfl ?_
  refine sG rfl rfl ?_
  refine sMv (v := .slice _ _ _) rfl ?_
  refine sG rfl rfl ?_
  refine sIx (i := 0) T22 S3 rfl rfl (by omega) ?_
  refine sG rfl rfl ?_
  refine sLd (v := nv 1) A3 rfl gB (by have h0 := xB 0 _ (lB 0 (by omega)); rw [hB0] at h0; exact h0) ?_
  refine sG rfl rfl ?_
  refine sBin (v := .bool false) (b := 1) rfl rfl (neqF rfl) ?_
  refine sP (v := .bool _) rfl ?_   -- t107 pick ['t102', '(bool true)', 't106']
  refine sNil (kSeqN ?_)
  refine cCondF rfl ?_
  refine cSkip (kSeqN ?_)
  refine cSeq ?_
  refine cSeq ?_
  refine cRegion ?_
  refine sMv (v := nv _) rfl ?_
  refine sBin (b := 1) rfl rfl (aInt_add (by omega)) ?_
  refine sMv (v := nv 0) rfl ?_
  refine sNil (kSeqN ?_)
  refine cBlock ?_
  refine wpC_loop (fun k ρ m' => ∃ j, k = n + 1 - j ∧ j ≤ n + 1 ∧ m73 = m' ∧ Has ρ [(5, nv n), (9, nv (redM L).length), (11, .slice (some ⟨bA, ofA, some 1⟩) A.length cA), (12, .slice (some ⟨bB, ofB, some 1⟩) B.length cB), (109, nv (n + 1)), (110, nv j)]) ⟨0, rfl, by omega, rfl, rfl, rfl, rfl, rfl, rfl, rfl, trivial⟩ ?_
  rintro k ρ m' ⟨j, rfl, hj, rfl, hh⟩
  rw [hh.env]; clear hh
  refine cSeq ?_
  refine cRegion ?_
  refine sBin rfl rfl (aInt_lss) ?_
  refine sNil (kSeqN ?_)
  refine cSeq ?_   -- seq 14
  refine cCond rfl (fun c2 => ?_) (fun c2 => ?_)
  ·
    refine cSkip (kSeqN ?_)
    refine cSeq ?_
    refine cBlock ?_
    refine cSeq ?_
    refine cRegion ?_
    refine sMv (v := nv _) rfl ?_
    refine sAs (v := nv _) rfl ?_
    refine sNil (kSeqN ?_)
    refine cSeq ?_
    refine cRegion ?_
    refine sAs (v := .int .i64 0) rfl ?_
    refine sNil (kSeqN ?_)
    refine cSeq ?_
    refine cSeq ?_
    refine cRegion ?_
    refine sMv (v := .slice _ _ _) rfl ?_
    refine sLen T22 rfl ?_
    refine sMv (v := nv 0) rfl ?_
    refine sNil (kSeqN ?_)
    refine cBlock ?_
    refine wpC_loop (fun q ρ m' => ∃ k, q = A.length - k ∧ k ≤ A.length ∧ m73 = m' ∧ Has ρ [(5, nv n), (9, nv (redM L).length), (11, .slice (some ⟨bA, ofA, some 1⟩) A.length cA), (12, .slice (some ⟨bB, ofB, some 1⟩) B.length cB), (109, nv (n + 1)), (110, nv j), (13, nv j), (14, .int .i64 (ssum (List.range k) fun k => (A.getD k 0 : Int) * Kr n j k)), (113, .slice (some ⟨bA, ofA, some 1⟩) A.length cA), (114, nv A.length), (115, nv k)]) ⟨0, rfl, by omega, rfl, rfl, rfl, rfl, rfl, rfl, rfl, rfl, rfl, rfl, rfl, rfl, trivial⟩ ?_
    rintro q ρ m' ⟨k, rfl, hk, rfl, hh⟩
    rw [hh.env]; clear hh
    refine cSeq ?_
    refine cRegion ?_
    refine sBin rfl rfl (aInt_lss) ?_
    refine sNil (kSeqN ?_)
    refine cSeq ?_   -- seq 21
    refine cCond rfl (fun c3 => ?_) (fun c3 => ?_)
    ·
      have hak := hAl k (by omega)
      have hkr := kr_ok hn2 (j := j) (k := k) (by omega) (by omega)
      have hkb := hkr.2 (j + 1) (Nat.le_refl _)
      rw [hkr.1] at hkb
      have hmb := mul_bound (a := A.getD k 0) (by omega) hkb.1 hkb.2
      have hsb := ssum_bound (f := fun k => (A.getD k 0 : Int) * Kr n j k) (c := 102400000) (List.range k) (fun x hx => by
        have hx' := List.mem_range.1 hx
        have h1 := kr_ok hn2 (j := j) (k := x) (by omega) (by omega)
        have h2 := h1.2 (j + 1) (Nat.le_refl _)
        rw [h1.1] at h2
        exact mul_bound (by have := hAl x (by omega); omega) h2.1 h2.2)
      rw [List.length_range] at hsb
      refine cSkip (kSeqN ?_)
      refine cSeq ?_
      refine cBlock ?_
      refine cSeq ?_
      refine cRegion ?_
      refine sMv (v := nv _) rfl ?_
      refine sIx T22 S3 rfl rfl (by omega) ?_
      refine sLd (v := nv (A.getD k 0)) A3 rfl gA (xA _ _ (lA k c3)) ?_
      refine sAs (v := nv _) rfl ?_
      refine sAs (v := nv _) rfl ?_
      refine sNil (kSeqN ?_)
      refine cSeq ?_   -- seq 24
      refine cSeq ?_
      refine cRegion ?_
      refine sMv (v := nv _) rfl ?_
      refine sBin (v := .bool false) (b := 0) rfl rfl (lssF (by omega)) ?_
      refine sMv (v := .bool _) rfl ?_
      refine sG rfl rfl ?_
      refine sMv (v := nv _) rfl ?_
      refine sG rfl rfl ?_
      refine sMv (v := nv _) rfl ?_
      refine sG rfl rfl ?_
      refine sBin rfl rfl (aInt_shl (a := 1) (by omega)) ?_
      rw [Nat.shiftLeft_eq, Nat.one_mul]
      refine sG rfl rfl ?_
      refine sBin (v := .bool false) rfl rfl (gtrF (by omega)) ?_
      refine sP (v := .bool _) rfl ?_   -- t127 pick ['t122', '(bool true)', 't126']
      refine sNil (kSeqN ?_)
      refine cCondF rfl ?_
      refine cSkip (kSeqN ?_)
      refine cRegion ?_
      refine sMv (v := .int .i64 _) rfl ?_
      refine sMv (v := nv _) rfl ?_
      refine sMv (v := nv _) rfl ?_
      refine sMv (v := nv _) rfl ?_
      refine sMv (v := nv _) rfl ?_
      obtain ⟨v133, m133, h133, rfl, k133⟩ := spec_kraw (m := m73) (n := n) (j := j) (k := k) hn2 (by omega) (by omega)
      rw [k133] at h133
      refine sCall3 rfl kall42 rfl rfl rfl h133 ?_
      refine sBinI rfl rfl (aInt_mulI (by first | omega | (simp only [Int.ofNat_eq_natCast]; omega))) ?_
      refine sBinI rfl rfl (aInt_addI (by first | omega | (simp only [Int.ofNat_eq_natCast]; omega))) ?_
      refine sAs (v := .int .i64 _) rfl ?_
      refine sNil (kBlkN (kSeqN ?_))
      refine cRegion ?_
      refine sBin rfl rfl (aInt_add (b := 1) (by omega)) ?_
      refine sMv (v := nv _) rfl ?_
      refine sNil (kSeqN ?_)
      refine ⟨_, ?_, k + 1, rfl, by omega, rfl, rfl, rfl, rfl, rfl, rfl, rfl, rfl, ?_, rfl, rfl, rfl, trivial⟩
      · omega
      · rw [List.range_succ, ssum_append, ssum_cons, ssum_nil, Int.add_zero]; rfl
    ·
      obtain rfl : k = A.length := by omega
      have hd := hdual j (by omega)
      rw [← hAn] at hd
      have hbj := hBl j (by omega)
      have hrk : 2 ^ (redM L).length ≤ 2 ^ 10 := Nat.pow_le_pow_right (by omega) (by omega)
      have hprod : B.getD j 0 * 2 ^ (redM L).length ≤ 1024 * 1024 := Nat.mul_le_mul (by omega) (by omega)
      refine cExit (kSeqE (kSeqE (kBlkS (kSeqN ?_))))
      refine cSeq ?_
      refine cDraw rfl ?_
      refine sMv (v := .slice _ _ _) rfl ?_
      refine sMv (v := nv _) rfl ?_
      refine sIx T22 S3 rfl rfl (by omega) ?_
      refine sLd (v := nv (B.getD j 0)) A3 rfl gB (xB _ _ (lB j (by omega))) ?_
      refine sBin (v := .bool false) (b := 0) rfl rfl (lssF (by omega)) ?_
      refine sMv (v := .bool _) rfl ?_
      refine sG rfl rfl ?_
      refine sMv (v := .slice _ _ _) rfl ?_
      refine sG rfl rfl ?_
      refine sMv (v := nv _) rfl ?_
      refine sG rfl rfl ?_
      refine sIx T22 S3 rfl rfl (by omega) ?_
      refine sG rfl rfl ?_
      refine sLd (v := nv (B.getD j 0)) A3 rfl gB (xB _ _ (lB j (by omega))) ?_
      refine sG rfl rfl ?_
      refine sMv (v := nv _) rfl ?_
      refine sG rfl rfl ?_
      refine sBin rfl rfl (aInt_shl (a := 1) (by omega)) ?_
      rw [Nat.shiftLeft_eq, Nat.one_mul]
      refine sG rfl rfl ?_
      refine sBin (v := .bool false) rfl rfl (gtrF (by omega)) ?_
      refine sP (v := .bool _) rfl ?_   -- t150 pick ['t142', '(bool true)', 't149']
      refine sMv (v := .bool _) rfl ?_
      refine sG rfl rfl ?_
      refine sMv (v := .slice _ _ _) rfl ?_
      refine sG rfl rfl ?_
      refine sMv (v := nv _) rfl ?_
      refine sG rfl rfl ?_
      refine sIx T22 S3 rfl rfl (by omega) ?_
      refine sG rfl rfl ?_
      refine sLd (v := nv (B.getD j 0)) A3 rfl gB (xB _ _ (lB j (by omega))) ?_
      refine sG rfl rfl ?_
      refine sMv (v := nv _) rfl ?_
      refine sG rfl rfl ?_
      refine sBin rfl rfl (aInt_shl (by omega)) ?_
      rw [Nat.shiftLeft_eq]
      refine sG rfl rfl ?_
      refine sMv (v := .int .i64 _) rfl ?_
      refine sG rfl rfl ?_
      refine sBinI (v := .bool false) rfl rfl (by rw [aInt_neqI, decide_eq_false]; rw [← hd]; simp) ?_
      refine sP (v := .bool _) rfl ?_   -- t160 pick ['t151', '(bool true)', 't159']
      refine sNil (kSeqN ?_)
      refine cCondF rfl ?_
      refine cSkip (kBlkN (kSeqN ?_))
      refine cRegion ?_
      refine sBin rfl rfl (aInt_add (b := 1) (by omega)) ?_
      refine sMv (v := nv _) rfl ?_
      refine sNil (kSeqN ?_)
      refine ⟨_, ?_, j + 1, rfl, by omega, rfl, rfl, rfl, rfl, rfl, rfl, rfl, trivial⟩
      omega
  ·
    refine cExit (kSeqE (kSeqE (kBlkS (kSeqN ?_))))
    refine cSeq ?_
    refine cRegion ?_
    obtain ⟨v162, m162, h162, rfl, e162⟩ := spec_awake (hG.ext y73)
    refine sCall0 rfl call17 h162 ?_
    refine sAs (v := .bool _) rfl ?_
    refine sNil (kSeqN ?_)
    refine cRet ?_
    exact ⟨.inr rfl, _, rfl, rfl, trivial⟩

end Go.AM

/-! ### F11 -/
namespace Go.Proofs.YtgiidbomifmcaaaDoor
open Go Go.AM Go.ChangeShapes Go.WideShapes Go.ChangeAt Go.WideMaps Go.WideElems Go.RowKit
set_option maxRecDepth 100000
set_option linter.unusedVariables false
theorem own : ownKnob Tryd.prog.godebug = none := by kernel_rfl
/-- The door's own heap meets the condition: three closed facts. -/
theorem door_met (os : Os) (args : Array Value) : laidMetH Tryd.prog laid3 ((World.doorLaid Tryd.prog 400 os).forCall (fun _ _ => 0) ⟨#[], args, []⟩).memory :=
  laidMetH_of_parts3 (fuel := 8) (laidMet_of_run' 8 (by kernel_rfl) (by kernel_rfl)) (by kernel_rfl) (by kernel_rfl)
theorem lifted6 (os : Os) (started : os.Started) (H : Type) (enc : TypeId × Value → H) :
    ReturnsInHanded {} Tryd.checked os 6 .any (fun w args => (Rows.bitsDualSpec.pre enc Tryd.prog Tryd.f6 [] false w args ∧ laidMetH Tryd.prog laid3 w) ∧ sizedMet enc Tryd.prog Tryd.f6 (OpenSpec.ofChange Rows.bitsDualSpec) false w args)
      (Rows.bitsDualSpec.post enc Tryd.prog Tryd.f6 false true false false) := by
  refine returnsInHanded_of_change_and (C := Tryd.checked) (X := fun w _ => laidMetH Tryd.prog laid3 w) (fun _ _ _ hh h => h.of_heap hh) own started (by kernel_rfl) Tryd.func6
    (ChangeSpec.witness_shaped (enc := enc) (C := Tryd.checked) (os := os) (X := fun w _ => laidMetH Tryd.prog laid3 w) false (World.doorLaid Tryd.prog 400 os) #[.slice none 0 0, .int .u8 0] 8 rfl (World.shaped_of_RefB (by kernel_rfl) (by kernel_rfl)) (by kernel_rfl) (by kernel_rfl) (by kernel_rfl) (door_met os _)) ?_
  intro W base args ds gs before hval0 hW _ _ hL _
  have hval : ∀ (j : Nat) t v, Tryd.f6.params[j]? = some t → args[j]? = some v → Value.okWide Tryd.prog W .any base t v := hval0
  have hW' := hW
  obtain ⟨p, q, hA0, hV, rfl, hfz, hnd⟩ := hW
  have hA : DataW.TrodAll enc Tryd.prog W 0 (fun _ => true) true [35, 5] args.toList ds p := hA0
  obtain ⟨v0, vs0, d0, ds0, p0, q0, hargs, rfl, rfl, h0, r0⟩ := trodAll_cons hA
  obtain ⟨v1, vs1, d1, ds1, p1, q1, rfl, rfl, rfl, h1, r1⟩ := trodAll_cons r0
  obtain ⟨rfl, rfl, rfl⟩ := trodAll_nil r1
  obtain rfl : args = #[v0, v1] := by cases args; simp_all
  obtain ⟨rfl, rfl⟩ := trodVars_none hV
  obtain ⟨a0, l0, f0, ok0, wf0, A0⟩ := ints_arg hL u35 u5 c5 (hval 0 35 v0 rfl rfl) h0
  have lt0 : ∀ x ∈ p0, x.block < W.heap.size := by obtain ⟨m, hm⟩ := h0; exact DataW.trod_lt m _ _ _ hm
  obtain ⟨n1, rfl, rfl, rfl, w1⟩ := open_int u5 (hval 1 5 v1 rfl rfl) h1
  obtain ⟨c1, hc1, rfl⟩ := u8_nat w1
  refine (entry (args := #[f0 0, .int .u8 (Int.ofNat c1)]) (A := [a0]) hL (by intro a ha; simp only [List.mem_cons, List.not_mem_nil, or_false] at ha; rcases ha with rfl <;> assumption) (fun bm => (arel_cons ((A0 _ 0 rfl).2 bm) (arel_cons (.int _ _) arel_nil))) (fun b => ?_)).mono ?_
  · obtain ⟨v, m, h, hv, _⟩ := spec_BitsDual (glob0 b _) ((A0 [a0] 0 rfl).1 b) hc1
    exact ⟨v, m, h, hv⟩
  · rintro e W' ⟨rfl, bel⟩
    exact ⟨_, rfl, _, _, _, [], _, [], hW', trodAll_mk1 (shut_bool u4 _), (trodAll_cons_mk (Below.trod laidOut (by kernel_rfl) (of_decide_eq_true (by kernel_rfl)) h0 bel lt0) (trodAll_cons_mk (shut_int u5 w1) trodAll_mk0)), rfl, bel.frame _, fun h => by cases h⟩
theorem bitsDual_holds : Rows.BitsDualSaid :=
  OpenClaim.holds_of_wide 6 Tryd.f6 rfl rfl rfl rfl rfl rfl rfl ⟨rfl, rfl, rfl, rfl, rfl⟩ rfl rfl rfl rfl rfl (by kernel_rfl) Tryd.func6 (by kernel_rfl)
    (of_decide_eq_true (by kernel_rfl)) (by unfold Func.isWrapper; first | (rw [if_pos (by decide +kernel)]; kernel_rfl) | (rw [if_neg (by decide +kernel)]; exact ⟨rfl, rfl⟩))
    (fun os started H enc _ => lifted6 os started H enc)
theorem bitsDualCard_holds : Rows.BitsDualCardSaid :=
  Claim7.holds_tied_plain_at .later [] [.data, .data, .funcs] true (true, "4e90e708c3a0b8b9bd838c7bc74774a1a5a946fb69b32deeeece4d3212f6d5ce") false
    bitsDual_holds (fun _ h => by cases h) (by kernel_rfl) (fun _ h => by cases h) bitsDual_row_tie rfl ⟨rfl, rfl⟩ (by kernel_rfl) rfl
    (fun f fn hf hfn => by
      obtain rfl : f = 6 := Option.some.inj ((show Tryd.prog.funcNamed "spoondrift/spoondriftlaw02.BitsDual" = some 6 by kernel_rfl).symm.trans hf) |>.symm
      obtain rfl : fn = Tryd.f6 := (Option.some.inj (Tryd.func6.symm.trans hfn)).symm
      exact ⟨by kernel_rfl, fun j t ht => by
        have hm : t ∈ [35, 5] := by simpa using Array.mem_of_getElem? (show (#[35, 5] : Array Nat)[j]? = some t from ht)
        have hall : ([35, 5].all fun u => !Tryd.prog.wantsStandIn u) = true := by kernel_rfl
        exact (show Tryd.prog.wantsStandIn t = false by simpa using List.all_eq_true.1 hall t hm)⟩)
    (by kernel_rfl)
end Go.Proofs.YtgiidbomifmcaaaDoor
