/- Closed facts on the program, and the first contracts. -/
import Derived.Test.YtgiidbomifmcaaaDoorWalks
import Derived.Test.YtgiidbomifmcaaaDoorProg
import Derived.KernelRfl
import Derived.Test.YtgiidbomifmcaaaDoorPlain
set_option linter.unusedVariables false
set_option linter.unusedSimpArgs false
/-! ### D0 -/
namespace Go.AM
open Go.Proofs
set_option maxRecDepth 100000
theorem mixed : Tryd.prog.follows .mixedOrders = true := by kernel_rfl
def H0 : Nat → List (Nat × Nat) := fun _ => []
theorem T22 : undOf Tryd.prog 22 = some (.slice 3) := by kernel_rfl
theorem T35 : undOf Tryd.prog 35 = some (.slice 5) := by kernel_rfl
theorem T90 : undOf Tryd.prog 90 = some (.slice 22) := by kernel_rfl
theorem T112 : undOf Tryd.prog 112 = some (.slice 94) := by kernel_rfl
theorem T84 : undOf Tryd.prog 84 = some (.array 24 3) := by kernel_rfl
theorem T85 : undOf Tryd.prog 85 = some (.array 24 3) := by kernel_rfl
theorem T105 : undOf Tryd.prog 105 = some (.array 24 94) := by kernel_rfl
theorem T113 : undOf Tryd.prog 113 = some (.array 32 5) := by kernel_rfl
theorem T114 : undOf Tryd.prog 114 = some (.array 64 5) := by kernel_rfl
theorem S2 : szOf Tryd.prog 2 = some 1 := by kernel_rfl
theorem S3 : szOf Tryd.prog 3 = some 1 := by kernel_rfl
theorem S4 : szOf Tryd.prog 4 = some 1 := by kernel_rfl
theorem S5 : szOf Tryd.prog 5 = some 1 := by kernel_rfl
theorem S22 : szOf Tryd.prog 22 = some 1 := by kernel_rfl
theorem S26 : szOf Tryd.prog 26 = some 1 := by kernel_rfl
theorem S35 : szOf Tryd.prog 35 = some 1 := by kernel_rfl
theorem S36 : szOf Tryd.prog 36 = some 1 := by kernel_rfl
theorem S55 : szOf Tryd.prog 55 = some 1 := by kernel_rfl
theorem S73 : szOf Tryd.prog 73 = some 1 := by kernel_rfl
theorem S98 : szOf Tryd.prog 98 = some 1 := by kernel_rfl
theorem S84 : szOf Tryd.prog 84 = some 24 := by kernel_rfl
theorem S85 : szOf Tryd.prog 85 = some 24 := by kernel_rfl
theorem S86 : szOf Tryd.prog 86 = some 1 := by kernel_rfl
theorem S93 : szOf Tryd.prog 93 = some 2 := by kernel_rfl
theorem S94 : szOf Tryd.prog 94 = some 2 := by kernel_rfl
theorem S102 : szOf Tryd.prog 102 = some 1 := by kernel_rfl
theorem S105 : szOf Tryd.prog 105 = some 48 := by kernel_rfl
theorem S107 : szOf Tryd.prog 107 = some 49 := by kernel_rfl
theorem S103 : szOf Tryd.prog 103 = some 1 := by kernel_rfl
theorem S104 : szOf Tryd.prog 104 = some 1 := by kernel_rfl
theorem S75 : szOf Tryd.prog 75 = some 3 := by kernel_rfl
theorem S61 : szOf Tryd.prog 61 = some 1 := by kernel_rfl
theorem S95 : szOf Tryd.prog 95 = some 1 := by kernel_rfl
theorem A2 : isAggT Tryd.prog 2 = some false := by kernel_rfl
theorem A3 : isAggT Tryd.prog 3 = some false := by kernel_rfl
theorem A4 : isAggT Tryd.prog 4 = some false := by kernel_rfl
theorem A5 : isAggT Tryd.prog 5 = some false := by kernel_rfl
theorem A22 : isAggT Tryd.prog 22 = some false := by kernel_rfl
theorem A26 : isAggT Tryd.prog 26 = some false := by kernel_rfl
theorem A35 : isAggT Tryd.prog 35 = some false := by kernel_rfl
theorem A36 : isAggT Tryd.prog 36 = some false := by kernel_rfl
theorem A55 : isAggT Tryd.prog 55 = some false := by kernel_rfl
theorem A73 : isAggT Tryd.prog 73 = some false := by kernel_rfl
theorem A98 : isAggT Tryd.prog 98 = some false := by kernel_rfl
theorem A84 : isAggT Tryd.prog 84 = some true := by kernel_rfl
theorem A85 : isAggT Tryd.prog 85 = some true := by kernel_rfl
theorem A86 : isAggT Tryd.prog 86 = some false := by kernel_rfl
theorem A94 : isAggT Tryd.prog 94 = some true := by kernel_rfl
theorem A102 : isAggT Tryd.prog 102 = some false := by kernel_rfl
theorem A105 : isAggT Tryd.prog 105 = some true := by kernel_rfl
theorem A107 : isAggT Tryd.prog 107 = some true := by kernel_rfl
theorem A104 : isAggT Tryd.prog 104 = some true := by kernel_rfl
theorem A75 : isAggT Tryd.prog 75 = some true := by kernel_rfl
theorem A48 : isAggT Tryd.prog 48 = some false := by kernel_rfl
theorem A40 : isAggT Tryd.prog 40 = some false := by kernel_rfl
theorem A95 : isAggT Tryd.prog 95 = some false := by kernel_rfl
theorem A108 : isAggT Tryd.prog 108 = some false := by kernel_rfl
theorem A100 : isAggT Tryd.prog 100 = some false := by kernel_rfl
end Go.AM

/-! ### D8 -/
namespace Go.AM
open Go.Proofs
set_option maxRecDepth 100000
theorem F94_0 {b o : Nat} : aFieldAddr Tryd.prog 94 (.pointer (some ⟨b, o, none⟩)) 0 = some (.pointer (some ⟨b, o, none⟩)) := by kernel_rfl
theorem F94_1 {b o : Nat} : aFieldAddr Tryd.prog 94 (.pointer (some ⟨b, o, none⟩)) 1 = some (.pointer (some ⟨b, o + 1, none⟩)) := by kernel_rfl
theorem F107_0 {b o : Nat} : aFieldAddr Tryd.prog 107 (.pointer (some ⟨b, o, none⟩)) 0 = some (.pointer (some ⟨b, o, none⟩)) := by kernel_rfl
theorem F107_1 {b o : Nat} : aFieldAddr Tryd.prog 107 (.pointer (some ⟨b, o, none⟩)) 1 = some (.pointer (some ⟨b, o + 1, none⟩)) := by kernel_rfl
theorem F104_0 {b o : Nat} : aFieldAddr Tryd.prog 104 (.pointer (some ⟨b, o, none⟩)) 0 = some (.pointer (some ⟨b, o, none⟩)) := by kernel_rfl
theorem Z3 : zeroOf Tryd.prog 3 = some (nv 0) := by kernel_rfl
theorem Z94 : zeroOf Tryd.prog 94 = some (.agg #[nv 0, nv 0]) := by kernel_rfl
theorem Z84 : zeroOf Tryd.prog 84 = some (.agg (Array.replicate 24 (nv 0))) := by kernel_rfl
theorem Z85 : zeroOf Tryd.prog 85 = some (.agg (Array.replicate 24 (nv 0))) := by kernel_rfl
theorem Z86 : zeroOf Tryd.prog 86 = some (.pointer none) := by kernel_rfl
theorem Z95 : zeroOf Tryd.prog 95 = some .nilFunc := by kernel_rfl
theorem Z22 : zeroOf Tryd.prog 22 = some (.slice none 0 0) := by kernel_rfl
theorem B94_0 {a : Int} : aBuild Tryd.prog 94 [(0, .int .i64 a)] = some (.agg #[.int .i64 a, nv 0]) := by kernel_rfl
theorem B94 {a b : Int} : aBuild Tryd.prog 94 [(0, .int .i64 a), (1, .int .i64 b)] = some (.agg #[.int .i64 a, .int .i64 b]) := by kernel_rfl
theorem B104 {q : Option Addr} {n c : Nat} : aBuild Tryd.prog 104 [(0, .slice q n c)] = some (.agg #[.slice q n c]) := by kernel_rfl
theorem B107 {q : Option Addr} {n c : Nat} : aBuild Tryd.prog 107 [(0, .agg #[.slice q n c])] = some (.agg (#[.slice q n c] ++ Array.replicate 48 (nv 0))) := by kernel_rfl
theorem App22 : AppT Tryd.prog 22 22 := ⟨_, _, _, T22, T22, rfl, S3, Z3, rfl, by kernel_rfl⟩
end Go.AM

/-! ### D1 -/
namespace Go.AM
open Go.Proofs
set_option maxRecDepth 100000
set_option linter.unusedVariables false

theorem okf23 : okF Tryd.prog H0 23 26 = true := by kernel_rfl
theorem spec_Equal {m : Mem} {a b : Value} {l r : List Int} (ha : IntsAt m a l) (hb : IntsAt m b r) (hl : l.length < 4611686018427387904) : ACalls Tryd.prog 23 #[a, b] m (.bool (decide (l = r))) m := by
  suffices h : ∃ v m', ACalls Tryd.prog 23 #[a, b] m v m' ∧ (v = .bool (decide (l = r)) ∧ m' = m) by
    obtain ⟨v, m', h, rfl, rfl⟩ := h; exact h
  obtain ⟨qa, ca, rfl⟩ := ha.len
  obtain ⟨qb, cb, rfl⟩ := hb.len
  refine wpF (args := [_, _]) mixed okf23 (fn := Tryd.f23) rfl rfl rfl (by simp) ?_
  refine cSeq (cRegion ?_)
  refine sAs (v := .bool _) rfl ?_
  refine sNil (kSeqN (cSeq ?_))
  refine cSeq (cRegion ?_)
  refine sMv (v := .slice _ _ _) rfl ?_
  refine sLen T22 rfl ?_
  refine sMv (v := .slice _ _ _) rfl ?_
  refine sLen T22 rfl ?_
  refine sBin rfl rfl aInt_neq ?_
  refine sNil (kSeqN ?_)
  refine cCond rfl (fun hc => ?_) (fun hc => ?_)
  · refine cSeq (cRegion ?_)
    refine sAs (v := .bool _) rfl ?_
    refine sNil (kSeqN (cRet ?_))
    refine ⟨.inr rfl, _, rfl, ?_, rfl⟩
    have : l ≠ r := fun e => hc (by rw [e])
    simp [oneOf, this, updO]
  have hlen : l.length = r.length := Decidable.not_not.1 hc
  refine cSkip (kSeqN (cSeq ?_))
  refine cSeq (cRegion ?_)
  refine sMv (v := .slice _ _ _) rfl ?_
  refine sLen T22 rfl ?_
  refine sMv (v := nv _) rfl ?_
  refine sNil (kSeqN (cBlock ?_))
  refine wpC_loop (fun k ρ m' => ∃ i, k = l.length - i ∧ i ≤ l.length ∧ m' = m ∧ (∀ j, j < i → l[j]? = r[j]?) ∧ Has ρ [(0, .slice qa l.length ca), (1, .slice qb r.length cb), (12, nv l.length), (13, nv i)]) ⟨0, rfl, by omega, rfl, by omega, rfl, rfl, rfl, rfl, trivial⟩ ?_
  rintro k ρ _ ⟨i, rfl, hi, rfl, hj, hh⟩
  rw [hh.env]; clear hh
  refine cSeq (cRegion ?_)
  refine sBin rfl rfl aInt_lss ?_
  refine sNil (kSeqN (cSeq ?_))
  refine cCond rfl (fun hc => ?_) (fun hc => ?_)
  rotate_left
  · have hil : i = l.length := by omega
    subst hil
    have he : l = r := by
      apply List.ext_getElem? fun j => ?_
      by_cases h : j < l.length
      · exact hj j h
      · rw [List.getElem?_eq_none (by omega), List.getElem?_eq_none (by omega)]
    refine cExit (kSeqE (kSeqE (kBlkS (kSeqN (cSeq (cRegion ?_))))))
    refine sAs (v := .bool _) rfl ?_
    refine sNil (kSeqN (cRet ?_))
    exact ⟨.inr rfl, _, rfl, by simp [oneOf, he, updO], rfl⟩
  refine cSkip (kSeqN (cSeq (cBlock ?_)))
  obtain ⟨b1, o1, p1, r1, c1, e1, g1, x1⟩ := ha.at (by omega)
  obtain ⟨b2, o2, p2, r2, c2, e2, g2, x2⟩ := hb.at (by omega)
  cases e1; cases e2
  refine cSeq (cRegion ?_)
  refine sMv (v := nv _) rfl ?_
  refine sAs (v := nv _) rfl ?_
  refine sNil (kSeqN (cSeq (cDraw rfl ?_)))
  refine sMv (v := .slice _ _ _) rfl ?_
  refine sMv (v := nv _) rfl ?_
  refine sIx T22 S3 rfl rfl (by omega) ?_
  refine sLd A3 rfl g1 (x1 i l[i] (by simp)) ?_
  refine sMv (v := .slice _ _ _) rfl ?_
  refine sMv (v := nv _) rfl ?_
  refine sIx T22 S3 rfl rfl (by omega) ?_
  refine sLd A3 rfl g2 (x2 i (r[i]'(by omega)) (by simp)) ?_
  refine sBinI rfl rfl aInt_neqI ?_
  refine sNil (kSeqN ?_)
  refine cCond rfl (fun hd => ?_) (fun hd => ?_)
  · refine cSeq (cRegion ?_)
    refine sAs (v := .bool _) rfl ?_
    refine sNil (kSeqN (cRet (kBlkR (kSeqR (kSeqR (kBlkR (kSeqR ?_)))))))
    have : l ≠ r := fun e => hd (by subst e; rfl)
    exact ⟨.inr rfl, _, rfl, by simp [oneOf, this, updO], rfl⟩
  refine cSkip (kBlkN (kSeqN (cRegion ?_)))
  refine sBin rfl rfl (aInt_add (b := 1) (by omega)) ?_
  refine sMv (v := nv _) rfl ?_
  refine sNil (kSeqN ⟨_, ?_, i + 1, rfl, by omega, rfl, ?_, rfl, rfl, rfl, rfl, trivial⟩)
  · omega
  · intro j hji
    by_cases h : j < i
    · exact hj j h
    · obtain rfl : j = i := by omega
      rw [List.getElem?_eq_getElem (by omega), List.getElem?_eq_getElem (by omega), Decidable.not_not.1 hd]
end Go.AM

/-! ### D2 -/
namespace Go.AM
open Go.Proofs
set_option maxRecDepth 100000
set_option linter.unusedVariables false

theorem okf73 : okF Tryd.prog H0 73 13 = true := by kernel_rfl
theorem spec_fits {m : Mem} {row : Int} {n : Nat} (hn : n ≤ 24) : ACalls Tryd.prog 73 #[.int .i64 row, nv n] m (.bool (decide (0 ≤ row ∧ row < 2 ^ n))) m := by
  suffices h : ∃ v m', ACalls Tryd.prog 73 #[.int .i64 row, nv n] m v m' ∧ (v = .bool (decide (0 ≤ row ∧ row < 2 ^ n)) ∧ m' = m) by
    obtain ⟨v, m', h, rfl, rfl⟩ := h; exact h
  have h2 : 2 ^ n ≤ 2 ^ 24 := Nat.pow_le_pow_right (by omega) hn
  cases row with
  | ofNat r =>
    refine wpF (args := [_, _]) mixed okf73 (fn := Tryd.f73) rfl rfl rfl (by simp) ?_
    refine cSeq ?_
    refine cRegion ?_
    refine sAs (v := .bool _) rfl ?_
    refine sNil (kSeqN ?_)
    refine cSeq ?_
    refine cRegion ?_
    refine sMv (v := nv _) rfl ?_
    refine sBin rfl rfl (aInt_geq (b := 0)) ?_
    refine sMv (v := .bool _) rfl ?_
    refine sG (q := true) rfl (by simp [updO]) ?_
    refine sMv (v := nv _) rfl ?_
    refine sG rfl (by simp [updO]) ?_
    refine sMv (v := nv _) rfl ?_
    refine sG rfl (by simp [updO]) ?_
    refine sBin rfl rfl (aInt_shl (a := 1) (by omega)) ?_
    refine sG rfl (by simp [updO]) ?_
    refine sBin rfl rfl (aInt_lss) ?_
    refine sP (v := .bool _) rfl ?_
    refine sAs (v := .bool _) rfl ?_
    refine sNil (kSeqN ?_)
    refine cRet ?_
    refine ⟨.inr rfl, _, rfl, ?_, rfl⟩
    have e : (Int.ofNat r < 2 ^ n) ↔ r < 2 ^ n := by
      rw [show (2 : Int) ^ n = Int.ofNat (2 ^ n) by simp]; exact Int.ofNat_lt
    simp [oneOf, updO, Nat.shiftLeft_eq]
    simpa using e.symm
  | negSucc r =>
    refine wpF (args := [_, _]) mixed okf73 (fn := Tryd.f73) rfl rfl rfl (by simp) ?_
    refine cSeq ?_
    refine cRegion ?_
    refine sAs (v := .bool _) rfl ?_
    refine sNil (kSeqN ?_)
    refine cSeq ?_
    refine cRegion ?_
    refine sMv (v := .int _ _) rfl ?_
    refine sP (v := .bool _) rfl ?_
    refine sMv (v := .bool _) rfl ?_
    refine sGno (q' := false) rfl (by simp [updO]) (by simp) ?_
    refine sGno (q' := false) rfl (by simp [updO]) (by simp) ?_
    refine sGno (q' := false) rfl (by simp [updO]) (by simp) ?_
    refine sGno (q' := false) rfl (by simp [updO]) (by simp) ?_
    refine sP (v := .bool false) (by simp [aPure, evR, updO]) ?_
    refine sAs (v := .bool _) rfl ?_
    refine sNil (kSeqN ?_)
    refine cRet ?_
    exact ⟨.inr rfl, _, rfl, by simp [oneOf, updO], rfl⟩
theorem okf70 : okF Tryd.prog H0 70 13 = true := by kernel_rfl
theorem spec_row {m : Mem} {row : Int} {n : Nat} (hn : n ≤ 24) : ACalls Tryd.prog 70 #[.int .i64 row, nv n] m (.bool (decide (0 ≤ row ∧ row < 2 ^ n))) m := by
  suffices h : ∃ v m', ACalls Tryd.prog 70 #[.int .i64 row, nv n] m v m' ∧ (v = .bool (decide (0 ≤ row ∧ row < 2 ^ n)) ∧ m' = m) by
    obtain ⟨v, m', h, rfl, rfl⟩ := h; exact h
  have h2 : 2 ^ n ≤ 2 ^ 24 := Nat.pow_le_pow_right (by omega) hn
  cases row with
  | ofNat r =>
    refine wpF (args := [_, _]) mixed okf70 (fn := Tryd.f70) rfl rfl rfl (by simp) ?_
    refine cSeq ?_
    refine cRegion ?_
    refine sAs (v := .bool _) rfl ?_
    refine sNil (kSeqN ?_)
    refine cSeq ?_
    refine cRegion ?_
    refine sMv (v := nv _) rfl ?_
    refine sBin rfl rfl (aInt_geq (b := 0)) ?_
    refine sMv (v := .bool _) rfl ?_
    refine sG (q := true) rfl (by simp [updO]) ?_
    refine sMv (v := nv _) rfl ?_
    refine sG rfl (by simp [updO]) ?_
    refine sMv (v := nv _) rfl ?_
    refine sG rfl (by simp [updO]) ?_
    refine sBin rfl rfl (aInt_shl (a := 1) (by omega)) ?_
    refine sG rfl (by simp [updO]) ?_
    refine sBin rfl rfl (aInt_lss) ?_
    refine sP (v := .bool _) rfl ?_
    refine sAs (v := .bool _) rfl ?_
    refine sNil (kSeqN ?_)
    refine cRet ?_
    refine ⟨.inr rfl, _, rfl, ?_, rfl⟩
    have e : (Int.ofNat r < 2 ^ n) ↔ r < 2 ^ n := by
      rw [show (2 : Int) ^ n = Int.ofNat (2 ^ n) by simp]; exact Int.ofNat_lt
    simp [oneOf, updO, Nat.shiftLeft_eq]
    simpa using e.symm
  | negSucc r =>
    refine wpF (args := [_, _]) mixed okf70 (fn := Tryd.f70) rfl rfl rfl (by simp) ?_
    refine cSeq ?_
    refine cRegion ?_
    refine sAs (v := .bool _) rfl ?_
    refine sNil (kSeqN ?_)
    refine cSeq ?_
    refine cRegion ?_
    refine sMv (v := .int _ _) rfl ?_
    refine sP (v := .bool _) rfl ?_
    refine sMv (v := .bool _) rfl ?_
    refine sGno (q' := false) rfl (by simp [updO]) (by simp) ?_
    refine sGno (q' := false) rfl (by simp [updO]) (by simp) ?_
    refine sGno (q' := false) rfl (by simp [updO]) (by simp) ?_
    refine sGno (q' := false) rfl (by simp [updO]) (by simp) ?_
    refine sP (v := .bool false) (by simp [aPure, evR, updO]) ?_
    refine sAs (v := .bool _) rfl ?_
    refine sNil (kSeqN ?_)
    refine cRet ?_
    exact ⟨.inr rfl, _, rfl, by simp [oneOf, updO], rfl⟩

theorem okf16 : okF Tryd.prog H0 16 6 = true := by kernel_rfl
theorem spec_great {m : Mem} {a : Value} {l : List Int} (ha : IntsAt m a l) : ACalls Tryd.prog 16 #[a] m (.bool (decide (40 < l.length))) m := by
  suffices h : ∃ v m', ACalls Tryd.prog 16 #[a] m v m' ∧ (v = .bool (decide (40 < l.length)) ∧ m' = m) by
    obtain ⟨v, m', h, rfl, rfl⟩ := h; exact h
  obtain ⟨q, cap, rfl⟩ := ha.len
  refine wpF (args := [_]) mixed okf16 (fn := Tryd.f16) rfl rfl rfl (by simp) ?_
  refine cSeq ?_
  refine cRegion ?_
  refine sAs (v := .bool _) rfl ?_
  refine sNil (kSeqN ?_)
  refine cSeq ?_
  refine cRegion ?_
  refine sMv (v := .slice _ _ _) rfl ?_
  refine sLen T22 rfl ?_
  refine sBin rfl rfl (aInt_gtr (b := 40)) ?_
  refine sAs (v := .bool _) rfl ?_
  refine sNil (kSeqN ?_)
  refine cRet ?_   -- END
  exact ⟨.inr rfl, _, rfl, rfl, rfl⟩
end Go.AM

/-! ### D3 -/
namespace Go.AM
open Go.Proofs
set_option maxRecDepth 100000
set_option linter.unusedVariables false

theorem okf105 : okF Tryd.prog H0 105 13 = true := by kernel_rfl
theorem spec_Odd {m : Mem} {x : Nat} (hx : x < 4611686018427387904) : ACalls Tryd.prog 105 #[nv x] m (nv (parity x)) m := by
  suffices h : ∃ v m', ACalls Tryd.prog 105 #[nv x] m v m' ∧ (v = nv (parity x) ∧ m' = m) by
    obtain ⟨v, m', h, rfl, rfl⟩ := h; exact h
  refine wpF (args := [_]) mixed okf105 (fn := Tryd.f105) rfl rfl rfl (by simp) ?_
  refine cSeq ?_
  refine cRegion ?_
  refine sAs (v := nv _) rfl ?_
  refine sNil (kSeqN ?_)
  refine cSeq ?_
  refine cRegion ?_
  refine sAs (v := nv _) rfl ?_
  refine sNil (kSeqN ?_)
  refine cSeq ?_
  refine cBlock ?_   -- 0
  refine wpC_loop (fun k ρ m' => ∃ y o, k = y ∧ y ≤ x ∧ o < 2 ∧ o ^^^ parity y = parity x ∧ m' = m ∧ Has ρ [(0, nv y), (3, nv o)]) ⟨x, 0, rfl, Nat.le_refl _, by omega, by simp, rfl, rfl, rfl, trivial⟩ ?_
  rintro k ρ _ ⟨y, o, rfl, hy, ho, hp, rfl, hh⟩
  rw [hh.env]; clear hh
  refine cSeq ?_
  refine cSeq ?_
  refine cRegion ?_
  refine sMv (v := nv _) rfl ?_
  refine sBin rfl rfl (aInt_gtr (b := 0)) ?_
  refine sNil (kSeqN ?_)
  refine cCond rfl (fun hc => ?_) (fun hc => ?_)
  · refine cSkip (kSeqN ?_)
    refine cSeq ?_
    refine cBlock ?_   -- 1
    refine cRegion ?_
    refine sMv (v := nv _) rfl ?_
    refine sMv (v := nv _) rfl ?_
    refine sBin rfl rfl (aInt_rem (b := 2) (by omega)) ?_
    refine sBin rfl rfl (aInt_xor (by omega)) ?_
    refine sAs (v := nv _) rfl ?_
    refine sNil (kBlkN (kSeqN ?_))
    refine cRegion ?_
    refine sMv (v := nv _) rfl ?_
    refine sBin rfl rfl (aInt_quo (b := 2) (by omega)) ?_
    refine sAs (v := nv _) rfl ?_
    refine sNil (kSeqN ?_)   -- END
    refine ⟨_, ?_, _, _, rfl, ?_, ?_, ?_, rfl, rfl, rfl, trivial⟩
    · omega
    · omega
    · exact Nat.xor_lt_two_pow (n := 1) ho (by omega)
    · rw [← hp, parity_pos hc, Nat.xor_assoc]
  · refine cExit (kSeqE (kSeqE (kBlkS (kSeqN ?_))))
    obtain rfl : k = 0 := by omega
    refine cSeq ?_
    refine cRegion ?_
    refine sMv (v := nv _) rfl ?_
    refine sAs (v := nv _) rfl ?_
    refine sNil (kSeqN ?_)
    refine cRet ?_   -- END
    refine ⟨.inr rfl, _, rfl, ?_, rfl⟩
    simp [oneOf, updO, ← hp, parity]
theorem okf78 : okF Tryd.prog H0 78 13 = true := by kernel_rfl
theorem spec_Ones {m : Mem} {x : Nat} (hx : x < 9223372036854775808) : ACalls Tryd.prog 78 #[nv x] m (nv (popc x)) m := by
  suffices h : ∃ v m', ACalls Tryd.prog 78 #[nv x] m v m' ∧ (v = nv (popc x) ∧ m' = m) by
    obtain ⟨v, m', h, rfl, rfl⟩ := h; exact h
  refine wpF (args := [_]) mixed okf78 (fn := Tryd.f78) rfl rfl rfl (by simp) ?_
  refine cSeq ?_
  refine cRegion ?_
  refine sAs (v := nv _) rfl ?_
  refine sNil (kSeqN ?_)
  refine cSeq ?_
  refine cRegion ?_
  refine sAs (v := nv _) rfl ?_
  refine sNil (kSeqN ?_)
  refine cSeq ?_
  refine cBlock ?_   -- 0
  refine wpC_loop (fun k ρ m' => ∃ y o, k = y ∧ y ≤ x ∧ o + popc y = popc x ∧ m' = m ∧ Has ρ [(0, nv y), (3, nv o)]) ⟨x, 0, rfl, Nat.le_refl _, by simp, rfl, rfl, rfl, trivial⟩ ?_
  rintro k ρ _ ⟨y, o, rfl, hy, hp, rfl, hh⟩
  rw [hh.env]; clear hh
  refine cSeq ?_
  refine cSeq ?_
  refine cRegion ?_
  refine sMv (v := nv _) rfl ?_
  refine sBin rfl rfl (aInt_gtr (b := 0)) ?_
  refine sNil (kSeqN ?_)
  refine cCond rfl (fun hc => ?_) (fun hc => ?_)
  · refine cSkip (kSeqN ?_)
    refine cSeq ?_
    refine cBlock ?_   -- 1
    refine cRegion ?_
    refine sMv (v := nv _) rfl ?_
    refine sMv (v := nv _) rfl ?_
    refine sBin rfl rfl (aInt_rem (b := 2) (by omega)) ?_
    refine sBin rfl rfl (aInt_add (by have := popc_le x; have := popc_pos hc; omega)) ?_
    refine sAs (v := nv _) rfl ?_
    refine sNil (kBlkN (kSeqN ?_))
    refine cRegion ?_
    refine sMv (v := nv _) rfl ?_
    refine sBin rfl rfl (aInt_quo (b := 2) (by omega)) ?_
    refine sAs (v := nv _) rfl ?_
    refine sNil (kSeqN ?_)   -- END
    refine ⟨_, ?_, _, _, rfl, ?_, ?_, rfl, rfl, rfl, trivial⟩
    · omega
    · omega
    · have := popc_pos hc; omega
  · refine cExit (kSeqE (kSeqE (kBlkS (kSeqN ?_))))
    obtain rfl : k = 0 := by omega
    refine cSeq ?_
    refine cRegion ?_
    refine sMv (v := nv _) rfl ?_
    refine sAs (v := nv _) rfl ?_
    refine sNil (kSeqN ?_)
    refine cRet ?_   -- END
    refine ⟨.inr rfl, _, rfl, ?_, rfl⟩
    have e0 : popc 0 = 0 := rfl
    rw [e0, Nat.add_zero] at hp
    simp [oneOf, updO, hp]
theorem okf94 : okF Tryd.prog H0 94 11 = true := by kernel_rfl
theorem spec_Lead {m : Mem} {x : Nat} (hx : x < 4611686018427387904) : ACalls Tryd.prog 94 #[nv x] m (.int .i64 ((blen x : Int) - 1)) m := by
  suffices h : ∃ v m', ACalls Tryd.prog 94 #[nv x] m v m' ∧ (v = .int .i64 ((blen x : Int) - 1) ∧ m' = m) by
    obtain ⟨v, m', h, rfl, rfl⟩ := h; exact h
  refine wpF (args := [_]) mixed okf94 (fn := Tryd.f94) rfl rfl rfl (by simp) ?_
  refine cSeq ?_
  refine cRegion ?_
  refine sAs (v := nv _) rfl ?_
  refine sNil (kSeqN ?_)
  refine cSeq ?_
  refine cRegion ?_
  refine sAs (v := .int _ _) rfl ?_
  refine sNil (kSeqN ?_)
  refine cSeq ?_
  refine cBlock ?_   -- 0
  refine wpC_loop (fun k ρ m' => ∃ y, ∃ o : Int, k = y ∧ y ≤ x ∧ o + blen y = blen x - 1 ∧ -1 ≤ o ∧ m' = m ∧ Has ρ [(0, nv y), (3, .int .i64 o)]) ⟨x, -1, rfl, Nat.le_refl _, by omega, by omega, rfl, rfl, rfl, trivial⟩ ?_
  rintro k ρ _ ⟨y, o, rfl, hy, hp, ho, rfl, hh⟩
  rw [hh.env]; clear hh
  refine cSeq ?_
  refine cSeq ?_
  refine cRegion ?_
  refine sMv (v := nv _) rfl ?_
  refine sBin rfl rfl (aInt_gtr (b := 0)) ?_
  refine sNil (kSeqN ?_)
  refine cCond rfl (fun hc => ?_) (fun hc => ?_)
  · refine cSkip (kSeqN ?_)
    refine cSeq ?_
    refine cBlock ?_   -- 1
    refine cRegion ?_
    refine sMv (v := .int _ _) rfl ?_
    refine sBinI rfl rfl (aInt_addI (b := 1) (by have := blen_le x; omega)) ?_
    refine sAs (v := .int _ _) rfl ?_
    refine sNil (kBlkN (kSeqN ?_))
    refine cRegion ?_
    refine sMv (v := nv _) rfl ?_
    refine sBin rfl rfl (aInt_quo (b := 2) (by omega)) ?_
    refine sAs (v := nv _) rfl ?_
    refine sNil (kSeqN ?_)   -- END
    refine ⟨_, ?_, _, _, rfl, ?_, ?_, ?_, rfl, rfl, rfl, trivial⟩
    · omega
    · omega
    · have := blen_pos hc; omega
    · omega
  · refine cExit (kSeqE (kSeqE (kBlkS (kSeqN ?_))))
    obtain rfl : k = 0 := by omega
    refine cSeq ?_
    refine cRegion ?_
    refine sMv (v := .int _ _) rfl ?_
    refine sAs (v := .int _ _) rfl ?_
    refine sNil (kSeqN ?_)
    refine cRet ?_   -- END
    refine ⟨.inr rfl, _, rfl, ?_, rfl⟩
    have e0 : blen 0 = 0 := rfl
    rw [e0] at hp
    simp [oneOf, updO]; omega
end Go.AM

/-! ### D4 -/
namespace Go.AM
open Go.Proofs
set_option maxRecDepth 100000
set_option linter.unusedVariables false

theorem okf89 : okF Tryd.prog H0 89 19 = true := by kernel_rfl
theorem spec_IndexFunc {m : Mem} {a : Value} {l : List Int} {g : FuncId} {cp : Array Value} {p : Int → Bool} (ha : IntsAt m a l) (hl : l.length < 4611686018427387904) (hk : callable Tryd.prog g = true)
    (hp : ∀ x, x ∈ l → ACalls Tryd.prog g (#[.int .i64 x] ++ cp) m (.bool (p x)) m) : ∃ i : Int, ACalls Tryd.prog 89 #[a, .func (.func g) #[] cp] m (.int .i64 i) m ∧ (0 ≤ i ↔ l.any p = true) := by
  suffices h : ∃ v m', ACalls Tryd.prog 89 #[a, .func (.func g) #[] cp] m v m' ∧ (∃ i : Int, v = .int .i64 i ∧ m' = m ∧ (0 ≤ i ↔ l.any p = true)) by
    obtain ⟨v, m', h, i, rfl, rfl, h2⟩ := h; exact ⟨i, h, h2⟩
  obtain ⟨q, cap, rfl⟩ := ha.len
  refine wpF (args := [_, _]) mixed okf89 (fn := Tryd.f89) rfl rfl rfl (by simp) ?_
  refine cSeq ?_
  refine cRegion ?_
  refine sAs (v := nv _) rfl ?_
  refine sNil (kSeqN ?_)
  refine cSeq ?_
  refine cSeq ?_
  refine cRegion ?_
  refine sMv (v := .slice _ _ _) rfl ?_
  refine sLen T22 rfl ?_
  refine sMv (v := nv _) rfl ?_
  refine sNil (kSeqN ?_)
  refine cBlock ?_   -- 0
  refine wpC_loop (fun k ρ m' => ∃ i, k = l.length - i ∧ i ≤ l.length ∧ (∀ j x, j < i → l[j]? = some x → p x = false) ∧ m' = m ∧ Has ρ [(0, .slice q l.length cap), (1, .func (.func g) #[] cp), (7, nv l.length), (8, nv i)]) ⟨0, rfl, by omega, by omega, rfl, rfl, rfl, rfl, rfl, trivial⟩ ?_
  rintro k ρ _ ⟨i, rfl, hi, hj, rfl, hh⟩
  rw [hh.env]; clear hh
  refine cSeq ?_
  refine cRegion ?_
  refine sBin rfl rfl (aInt_lss) ?_
  refine sNil (kSeqN ?_)
  refine cSeq ?_
  refine cCond rfl (fun hc => ?_) (fun hc => ?_)
  · refine cSkip (kSeqN ?_)
    obtain ⟨b1, o1, p1, r1, c1, e1, g1, x1⟩ := ha.at (by omega)
    cases e1
    refine cSeq ?_
    refine cBlock ?_   -- 1
    refine cSeq ?_
    refine cRegion ?_
    refine sMv (v := nv _) rfl ?_
    refine sAs (v := nv _) rfl ?_
    refine sNil (kSeqN ?_)
    refine cSeq ?_
    refine cRegion ?_
    refine sMv (v := .func _ _ _) rfl ?_
    refine sMv (v := .slice _ _ _) rfl ?_
    refine sMv (v := nv _) rfl ?_
    refine sIx T22 S3 rfl rfl (by omega) ?_
    refine sLd A3 rfl g1 (x1 i l[i] (by simp)) ?_
    refine sCall rfl hk (by simpa [evR, updO] using hp l[i] (by simp)) ?_
    refine sNil (kSeqN ?_)
    refine cCond (p := p l[i] = true) (by simp [evR, updO]) (fun hd => ?_) (fun hd => ?_)
    · refine cSeq ?_
      refine cRegion ?_
      refine sMv (v := nv _) rfl ?_
      refine sAs (v := nv _) rfl ?_
      refine sNil (kSeqN ?_)
      refine cRet (kBlkR (kSeqR (kSeqR (kBlkR (kSeqR ?_)))))
      refine ⟨.inr rfl, _, rfl, Int.ofNat i, by simp [oneOf, updO], rfl, ?_⟩
      have : l.any p = true := List.any_eq_true.2 ⟨l[i], by simp, hd⟩
      simp [this]
    · refine cSkip (kBlkN (kSeqN ?_))
      refine cRegion ?_
      refine sBin rfl rfl (aInt_add (b := 1) (by omega)) ?_
      refine sMv (v := nv _) rfl ?_
      refine sNil (kSeqN ?_)   -- END
      refine ⟨_, ?_, i + 1, rfl, by omega, ?_, rfl, rfl, rfl, rfl, rfl, trivial⟩
      · omega
      · intro j x hji hx
        by_cases h : j < i
        · exact hj j x h hx
        · obtain rfl : j = i := by omega
          rw [List.getElem?_eq_getElem (by omega)] at hx
          cases hx
          simpa using hd
  · refine cExit (kSeqE (kSeqE (kBlkS (kSeqN ?_))))
    refine cSeq ?_
    refine cRegion ?_
    refine sAs (v := .int _ _) rfl ?_
    refine sNil (kSeqN ?_)
    refine cRet ?_   -- END
    refine ⟨.inr rfl, _, rfl, Int.negSucc 0, rfl, rfl, ?_⟩
    have : l.any p = false := by
      rw [Bool.eq_false_iff]
      intro h
      obtain ⟨x, hx, hpx⟩ := List.any_eq_true.1 h
      obtain ⟨j, hjl, rfl⟩ := List.getElem_of_mem hx
      have := hj j l[j] (by omega) (by simp)
      rw [this] at hpx; cases hpx
    simp [this]

theorem okf44 : okF Tryd.prog H0 44 9 = true := by kernel_rfl
theorem call89 : callable Tryd.prog 89 = true := by kernel_rfl
theorem spec_ContainsFunc {m : Mem} {a : Value} {l : List Int} {g : FuncId} {cp : Array Value} {p : Int → Bool} (ha : IntsAt m a l) (hl : l.length < 4611686018427387904) (hk : callable Tryd.prog g = true)
    (hp : ∀ x, x ∈ l → ACalls Tryd.prog g (#[.int .i64 x] ++ cp) m (.bool (p x)) m) : ACalls Tryd.prog 44 #[a, .func (.func g) #[] cp] m (.bool (l.any p)) m := by
  suffices h : ∃ v m', ACalls Tryd.prog 44 #[a, .func (.func g) #[] cp] m v m' ∧ (v = .bool (l.any p) ∧ m' = m) by
    obtain ⟨v, m', h, rfl, rfl⟩ := h; exact h
  obtain ⟨i, hi, hi2⟩ := spec_IndexFunc ha hl hk hp
  obtain ⟨q, cap, rfl⟩ := ha.len
  refine wpF (args := [_, _]) mixed okf44 (fn := Tryd.f44) rfl rfl rfl (by simp) ?_
  refine cSeq ?_
  refine cRegion ?_
  refine sAs (v := .bool _) rfl ?_
  refine sNil (kSeqN ?_)
  refine cSeq ?_
  refine cRegion ?_
  refine sMv (v := .slice _ _ _) rfl ?_
  refine sMv (v := .func _ _ _) rfl ?_
  refine sCall rfl call89 (by simpa [evR, updO] using hi) ?_
  refine sP (v := .bool (l.any p)) ?_ ?_
  · have : (decide (i ≥ 0)) = l.any p := by rw [Bool.eq_iff_iff, ← hi2]; simp
    simp [aPure, evR, updO, aBin, aInt]
    simpa using this
  refine sAs (v := .bool _) rfl ?_
  refine sNil (kSeqN ?_)
  refine cRet ?_   -- END
  exact ⟨.inr rfl, _, rfl, rfl, rfl⟩
end Go.AM

/-! ### D5 -/
namespace Go.AM
open Go.Proofs
set_option maxRecDepth 100000
set_option linter.unusedVariables false

theorem ACalls.callee {P : Program} {f : FuncId} {x : Array Value} {m : Mem} {v : Value} (h : ∃ w m', ACalls P f x m w m' ∧ (w = v ∧ m' = m)) : ACalls P f x m v m := by
  obtain ⟨w, m', h, rfl, rfl⟩ := h; exact h
theorem call44 : callable Tryd.prog 44 = true := by kernel_rfl
theorem call99 : callable Tryd.prog 99 = true := by kernel_rfl
theorem call100 : callable Tryd.prog 100 = true := by kernel_rfl
theorem call114 : callable Tryd.prog 114 = true := by kernel_rfl
theorem call73 : callable Tryd.prog 73 = true := by kernel_rfl

theorem okf114 : okF Tryd.prog H0 114 8 = true := by kernel_rfl
theorem spec_every1 {m : Mem} {b : Nat} {x : Int} {g : FuncId} {cp : Array Value} {p : Int → Bool} {r : Bool} (hb : Mem.get m b = .cells r #[.func (.func g) #[] cp]) (hk : callable Tryd.prog g = true)
    (hp : ACalls Tryd.prog g (#[.int .i64 x] ++ cp) m (.bool (p x)) m) : ACalls Tryd.prog 114 #[.int .i64 x, .pointer (some ⟨b, 0, none⟩)] m (.bool (!p x)) m := by
  refine ACalls.callee (wpF (args := [_, _]) mixed okf114 (fn := Tryd.f114) rfl rfl rfl (by simp) ?_)
  refine cSeq ?_
  refine cRegion ?_
  refine sAs (v := .bool _) rfl ?_
  refine sNil (kSeqN ?_)
  refine cSeq ?_
  refine cRegion ?_
  refine sLd (v := .func _ _ _) A40 rfl hb rfl ?_
  refine sMv (v := .int _ _) rfl ?_
  refine sCall rfl hk (by simpa [evR, updO] using hp) ?_
  refine sP (v := .bool (!p x)) rfl ?_
  refine sAs (v := .bool _) rfl ?_
  refine sNil (kSeqN ?_)
  refine cRet ?_   -- END
  exact ⟨.inr rfl, _, rfl, rfl, rfl⟩

theorem okf99 : okF Tryd.prog H0 99 9 = true := by kernel_rfl
theorem spec_every {m : Mem} {a : Value} {l : List Int} {g : FuncId} {cp : Array Value} {p : Int → Bool} (ha : IntsAt m a l) (hl : l.length < 4611686018427387904) (hk : callable Tryd.prog g = true)
    (hp : ∀ m', Ext m m' → ∀ x, x ∈ l → ACalls Tryd.prog g (#[.int .i64 x] ++ cp) m' (.bool (p x)) m') : ∃ m', ACalls Tryd.prog 99 #[a, .func (.func g) #[] cp] m (.bool (l.all p)) m' ∧ Ext m m' := by
  suffices h : ∃ v m', ACalls Tryd.prog 99 #[a, .func (.func g) #[] cp] m v m' ∧ (v = .bool (l.all p) ∧ Ext m m') by
    obtain ⟨v, m', h, rfl, h2⟩ := h; exact ⟨m', h, h2⟩
  have he : Ext m (m.push (.cells true #[.func (.func g) #[] cp])) := .push _ _
  have hc := spec_ContainsFunc (g := 114) (cp := #[.pointer (some ⟨m.size, 0, none⟩)]) (p := fun x => !p x) (ha.ext he) hl call114 (fun x hx => by
    refine spec_every1 (r := true) ?_ hk (hp _ he x hx)
    rw [get_push, if_pos rfl])
  obtain ⟨q, cap, rfl⟩ := ha.len
  refine wpF (args := [_, _]) mixed okf99 (fn := Tryd.f99) rfl rfl rfl (by simp) ?_
  refine cSeq ?_
  refine cRegion ?_
  refine sBox (v := .func _ _ _) rfl ?_
  refine sAs (v := .bool _) rfl ?_
  refine sNil (kSeqN ?_)
  refine cSeq ?_
  refine cRegion ?_
  refine sMv (v := .slice _ _ _) rfl ?_
  refine sP (v := .func (.func 114) #[] #[.pointer (some ⟨m.size, 0, none⟩)]) (by simp [aPure, evR, updO]) ?_
  refine sCall rfl call44 (by simpa [evR, updO, Value.cells] using hc) ?_
  refine sP (v := .bool _) rfl ?_
  refine sAs (v := .bool _) rfl ?_
  refine sNil (kSeqN ?_)
  refine cRet ?_   -- END
  refine ⟨.inr rfl, _, rfl, ?_, he⟩
  simp [oneOf, updO, List.not_all_eq_any_not]

theorem okf100 : okF Tryd.prog H0 100 7 = true := by kernel_rfl
theorem spec_Check1 {m : Mem} {b : Nat} {x : Int} {n : Nat} {r : Bool} (hb : Mem.get m b = .cells r #[nv n]) (hn : n ≤ 24) : ACalls Tryd.prog 100 #[.int .i64 x, .pointer (some ⟨b, 0, none⟩)] m (.bool (decide (0 ≤ x ∧ x < 2 ^ n))) m := by
  refine ACalls.callee (wpF (args := [_, _]) mixed okf100 (fn := Tryd.f100) rfl rfl rfl (by simp) ?_)
  refine cSeq ?_
  refine cRegion ?_
  refine sAs (v := .bool _) rfl ?_
  refine sNil (kSeqN ?_)
  refine cSeq ?_
  refine cRegion ?_
  refine sMv (v := .int _ _) rfl ?_
  refine sLd (v := nv n) A3 rfl hb rfl ?_
  refine sCall (v := .bool (decide (0 ≤ x ∧ x < 2 ^ n))) rfl call73 (by simpa [evR, updO] using spec_fits (m := m) (row := x) hn) ?_
  refine sAs (v := .bool _) rfl ?_
  refine sNil (kSeqN ?_)
  refine cRet ?_   -- END
  exact ⟨.inr rfl, _, rfl, rfl, rfl⟩

/-- The error of rows. -/
def checkF (l : List Int) (n : Int) : Nat :=
  if n < 1 ∨ 16 < n then 3 else if 24 < l.length then 2 else if l.all (fun x => decide (0 ≤ x ∧ x < 2 ^ n.toNat)) then 0 else 4
end Go.AM

/-! ### D6 -/
namespace Go.AM
open Go.Proofs
set_option maxRecDepth 100000
set_option linter.unusedVariables false
theorem okf60 : okF Tryd.prog H0 60 21 = true := by kernel_rfl
theorem spec_Check {m : Mem} {a : Value} {l : List Int} {n : Int} (ha : IntsAt m a l) (hl : l.length < 4611686018427387904) : ∃ m', ACalls Tryd.prog 60 #[a, .int .i64 n] m (nv (checkF l n)) m' ∧ Ext m m' := by
  suffices h : ∃ v m', ACalls Tryd.prog 60 #[a, .int .i64 n] m v m' ∧ (v = nv (checkF l n) ∧ Ext m m') by
    obtain ⟨v, m', h, rfl, h2⟩ := h; exact ⟨m', h, h2⟩
  have he : Ext m (m.push (.cells true #[.int .i64 n])) := .push _ _
  have hb : Mem.get (m.push (.cells true #[.int .i64 n])) m.size = .cells true #[.int .i64 n] := by rw [get_push, if_pos rfl]
  obtain ⟨q, cap, rfl⟩ := ha.len
  refine wpF (args := [_, _]) mixed okf60 (fn := Tryd.f60) rfl rfl rfl (by simp) ?_
  refine cSeq ?_
  refine cRegion ?_
  refine sBox (v := .int _ _) rfl ?_
  refine sAs (v := nv _) rfl ?_
  refine sNil (kSeqN ?_)
  refine cSeq ?_
  refine cBlock ?_   -- 0
  refine cSeq ?_
  refine cRegion ?_
  refine sLd (v := .int .i64 n) A3 rfl hb rfl ?_
  refine sBinI (v := .bool (decide (n < 1))) rfl rfl rfl ?_
  refine sMv (v := .bool _) rfl ?_
  by_cases h1 : n < 1
  · have hd : decide (n < 1) = true := decide_eq_true h1
    rw [hd]
    refine sGno (q' := true) rfl rfl (by simp) ?_
    refine sGno (q' := true) rfl rfl (by simp) ?_
    refine sP (v := .bool true) rfl ?_
    refine sAs (v := .bool _) rfl ?_
    refine sNil (kSeqN ?_)
    refine cCondT rfl ?_
    refine cSeq ?_
    refine cRegion ?_
    refine sAs (v := nv _) rfl ?_
    refine sNil (kSeqN ?_)
    refine cRet (kBlkR (kSeqR ?_))
    refine ⟨.inr rfl, _, rfl, ?_, he⟩
    simp [oneOf, updO, checkF, h1]
  have hd : decide (n < 1) = false := decide_eq_false h1
  rw [hd]
  refine sG rfl rfl ?_
  refine sLd (v := .int .i64 n) A3 rfl hb rfl ?_
  refine sG rfl rfl ?_
  refine sBinI (v := .bool (decide (n > 16))) rfl rfl rfl ?_
  refine sP (v := .bool (decide (n > 16))) rfl ?_
  refine sAs (v := .bool _) rfl ?_
  refine sNil (kSeqN ?_)
  refine cCond rfl (fun hc => ?_) (fun hc => ?_)
  · refine cSeq ?_
    refine cRegion ?_
    refine sAs (v := nv _) rfl ?_
    refine sNil (kSeqN ?_)
    refine cRet (kBlkR (kSeqR ?_))
    refine ⟨.inr rfl, _, rfl, ?_, he⟩
    have : (16 : Int) < n := hc
    simp [oneOf, updO, checkF, this]
  have hn : ¬ (n < 1 ∨ 16 < n) := by omega
  obtain ⟨N, rfl⟩ : ∃ N : Nat, n = Int.ofNat N := ⟨n.toNat, by simp; omega⟩
  refine cSeq ?_
  refine cRegion ?_
  refine sMv (v := .slice _ _ _) rfl ?_
  refine sLen T22 rfl ?_
  refine sBin rfl rfl (aInt_gtr (b := 24)) ?_
  refine sAs (v := .bool _) rfl ?_
  refine sNil (kSeqN ?_)
  refine cCond rfl (fun hc2 => ?_) (fun hc2 => ?_)
  · refine cSeq ?_
    refine cRegion ?_
    refine sAs (v := nv _) rfl ?_
    refine sNil (kSeqN ?_)
    refine cRet (kBlkR (kSeqR ?_))
    refine ⟨.inr rfl, _, rfl, ?_, he⟩
    rw [checkF, if_neg hn, if_pos hc2]; rfl
  obtain ⟨m2, hcall, he2⟩ := spec_every (g := 100) (cp := #[.pointer (some ⟨m.size, 0, none⟩)]) (p := fun x => decide (0 ≤ x ∧ x < 2 ^ N)) (ha.ext he) hl call100 (fun m' hm x hx => spec_Check1 (hm.cells hb) (by simp at hc; omega))
  refine cSeq ?_
  refine cRegion ?_
  refine sMv (v := .slice _ _ _) rfl ?_
  refine sP (v := .func (.func 100) #[] #[.pointer (some ⟨m.size, 0, none⟩)]) (by simp [aPure, evR, updO]) ?_
  refine sCall (v := .bool (l.all fun x => decide (0 ≤ x ∧ x < 2 ^ N))) rfl call99 (by simpa [evR, updO, Value.cells] using hcall) ?_
  refine sP (v := .bool (!(l.all fun x => decide (0 ≤ x ∧ x < 2 ^ N)))) rfl ?_
  refine sAs (v := .bool _) rfl ?_
  refine sNil (kSeqN ?_)
  cases hall : l.all fun x => decide (0 ≤ x ∧ x < 2 ^ N)
  · refine cCondT rfl ?_
    refine cSeq ?_
    refine cRegion ?_
    refine sAs (v := nv _) rfl ?_
    refine sNil (kSeqN ?_)
    refine cRet (kBlkR (kSeqR ?_))
    refine ⟨.inr rfl, _, rfl, ?_, he.trans he2⟩
    have e : (l.all fun x => decide (0 ≤ x ∧ x < 2 ^ (Int.ofNat N).toNat)) = (l.all fun x => decide (0 ≤ x ∧ x < 2 ^ N)) := rfl
    rw [checkF, if_neg hn, if_neg hc2, e, hall]; rfl
  · refine cCondF rfl ?_
    refine cSkip (kBlkN (kSeqN ?_))
    refine cSeq ?_
    refine cRegion ?_
    refine sAs (v := nv _) rfl ?_
    refine sNil (kSeqN ?_)
    refine cRet ?_   -- END
    refine ⟨.inr rfl, _, rfl, ?_, he.trans he2⟩
    have e : (l.all fun x => decide (0 ≤ x ∧ x < 2 ^ (Int.ofNat N).toNat)) = (l.all fun x => decide (0 ≤ x ∧ x < 2 ^ N)) := rfl
    rw [checkF, if_neg hn, if_neg hc2, e, hall]; rfl
end Go.AM

/-! ### D7 -/
namespace Go.AM
open Go.Proofs
set_option maxRecDepth 100000
set_option linter.unusedVariables false
theorem call70 : callable Tryd.prog 70 = true := by kernel_rfl
theorem okf61 : okF Tryd.prog H0 61 27 = true := by kernel_rfl
theorem spec_refCheck {m : Mem} {a : Value} {l : List Int} {n : Int} (ha : IntsAt m a l) (hl : l.length < 4611686018427387904) : ACalls Tryd.prog 61 #[a, .int .i64 n] m (nv (checkF l n)) m := by
  refine ACalls.callee ?_
  obtain ⟨q, cap, rfl⟩ := ha.len
  refine wpF (args := [_, _]) mixed okf61 (fn := Tryd.f61) rfl rfl rfl (by simp) ?_
  refine cSeq ?_
  refine cRegion ?_
  refine sAs (v := nv _) rfl ?_
  refine sNil (kSeqN ?_)
  refine cSeq ?_
  refine cSeq ?_
  refine cRegion ?_
  refine sMv (v := .int .i64 n) rfl ?_
  refine sBinI (v := .bool (decide (n < 1))) rfl rfl rfl ?_
  refine sMv (v := .bool _) rfl ?_
  by_cases h1 : n < 1
  · have hd : decide (n < 1) = true := decide_eq_true h1
    rw [hd]
    refine sGno (q' := true) rfl rfl (by simp) ?_
    refine sGno (q' := true) rfl rfl (by simp) ?_
    refine sP (v := .bool true) rfl ?_
    refine sNil (kSeqN ?_)
    refine cCondT rfl ?_
    refine cSeq ?_
    refine cRegion ?_
    refine sAs (v := nv _) rfl ?_
    refine sNil (kSeqN ?_)
    refine cRet (kSeqR ?_)
    refine ⟨.inr rfl, _, rfl, ?_, rfl⟩
    simp [oneOf, updO, checkF, h1]
  have hd : decide (n < 1) = false := decide_eq_false h1
  rw [hd]
  refine sG rfl rfl ?_
  refine sMv (v := .int .i64 n) rfl ?_
  refine sG rfl rfl ?_
  refine sBinI (v := .bool (decide (n > 16))) rfl rfl rfl ?_
  refine sP (v := .bool (decide (n > 16))) rfl ?_
  refine sNil (kSeqN ?_)
  refine cCond rfl (fun hc => ?_) (fun hc => ?_)
  · refine cSeq ?_
    refine cRegion ?_
    refine sAs (v := nv _) rfl ?_
    refine sNil (kSeqN ?_)
    refine cRet (kSeqR ?_)
    refine ⟨.inr rfl, _, rfl, ?_, rfl⟩
    have : (16 : Int) < n := hc
    simp [oneOf, updO, checkF, this]
  have hn : ¬ (n < 1 ∨ 16 < n) := by omega
  obtain ⟨N, rfl⟩ : ∃ N : Nat, n = Int.ofNat N := ⟨n.toNat, by simp; omega⟩
  refine cSkip (kSeqN ?_)
  refine cSeq ?_
  refine cSeq ?_
  refine cRegion ?_
  refine sMv (v := .slice _ _ _) rfl ?_
  refine sLen T22 rfl ?_
  refine sBin rfl rfl (aInt_gtr (b := 24)) ?_
  refine sNil (kSeqN ?_)
  refine cCond rfl (fun hc2 => ?_) (fun hc2 => ?_)
  · refine cSeq ?_
    refine cRegion ?_
    refine sAs (v := nv _) rfl ?_
    refine sNil (kSeqN ?_)
    refine cRet (kSeqR ?_)
    refine ⟨.inr rfl, _, rfl, ?_, rfl⟩
    rw [checkF, if_neg hn, if_pos hc2]; rfl
  refine cSkip (kSeqN ?_)
  refine cSeq ?_
  refine cSeq ?_
  refine cRegion ?_
  refine sMv (v := .slice _ _ _) rfl ?_
  refine sLen T22 rfl ?_
  refine sMv (v := nv _) rfl ?_
  refine sNil (kSeqN ?_)
  refine cBlock ?_   -- 0
  have e0 : (l.all fun x => decide (0 ≤ x ∧ x < 2 ^ (Int.ofNat N).toNat)) = (l.all fun x => decide (0 ≤ x ∧ x < 2 ^ N)) := rfl
  refine wpC_loop (fun k ρ m' => ∃ i, k = l.length - i ∧ i ≤ l.length ∧ (∀ j x, j < i → l[j]? = some x → 0 ≤ x ∧ x < 2 ^ N) ∧ m' = m ∧ Has ρ [(1, nv N), (16, .slice q l.length cap), (17, nv l.length), (18, nv i)]) ⟨0, rfl, by omega, by omega, rfl, rfl, rfl, rfl, rfl, trivial⟩ ?_
  rintro k ρ _ ⟨i, rfl, hi, hj, rfl, hh⟩
  rw [hh.env]; clear hh
  refine cSeq ?_
  refine cRegion ?_
  refine sBin rfl rfl (aInt_lss) ?_
  refine sNil (kSeqN ?_)
  refine cSeq ?_
  refine cCond rfl (fun hc => ?_) (fun hc => ?_)
  · refine cSkip (kSeqN ?_)
    obtain ⟨b1, o1, p1, r1, c1, e1, g1, x1⟩ := ha.at (by omega)
    cases e1
    refine cSeq ?_
    refine cBlock ?_   -- 1
    refine cSeq ?_
    refine cRegion ?_
    refine sIx T22 S3 rfl rfl (by omega) ?_
    refine sLd A3 rfl g1 (x1 i l[i] (by simp)) ?_
    refine sAs (v := .int _ _) rfl ?_
    refine sNil (kSeqN ?_)
    refine cSeq ?_
    refine cRegion ?_
    refine sMv (v := .int _ _) rfl ?_
    refine sMv (v := nv _) rfl ?_
    refine sCall (v := .bool (decide (0 ≤ l[i] ∧ l[i] < 2 ^ N))) rfl call70 (by simpa [evR, updO] using spec_row (row := l[i]) (n := N) (by simp at hn; omega)) ?_
    refine sP (v := .bool (decide (¬ (0 ≤ l[i] ∧ l[i] < 2 ^ N)))) (by show some (Value.bool (!decide (0 ≤ l[i] ∧ l[i] < 2 ^ N))) = _; rw [← decide_not]) ?_
    refine sNil (kSeqN ?_)
    refine cCond rfl (fun hd => ?_) (fun hd => ?_)
    · refine cSeq ?_
      refine cRegion ?_
      refine sAs (v := nv _) rfl ?_
      refine sNil (kSeqN ?_)
      refine cRet (kBlkR (kSeqR (kSeqR (kBlkR (kSeqR ?_)))))
      refine ⟨.inr rfl, _, rfl, ?_, rfl⟩
      have : (l.all fun x => decide (0 ≤ x ∧ x < 2 ^ N)) = false := by
        rw [Bool.eq_false_iff]
        intro h
        exact hd (of_decide_eq_true (List.all_eq_true.1 h l[i] (by simp)))
      rw [checkF, if_neg hn, if_neg hc2, e0, this]; rfl
    · refine cSkip (kBlkN (kSeqN ?_))
      refine cRegion ?_
      refine sBin rfl rfl (aInt_add (b := 1) (by omega)) ?_
      refine sMv (v := nv _) rfl ?_
      refine sNil (kSeqN ?_)   -- END
      refine ⟨_, ?_, i + 1, rfl, by omega, ?_, rfl, rfl, rfl, rfl, rfl, trivial⟩
      · omega
      · intro j x hji hx
        by_cases h : j < i
        · exact hj j x h hx
        · obtain rfl : j = i := by omega
          rw [List.getElem?_eq_getElem (by omega)] at hx
          cases hx
          exact Decidable.not_not.1 hd
  · refine cExit (kSeqE (kSeqE (kBlkS (kSeqN ?_))))
    refine cSeq ?_
    refine cRegion ?_
    refine sAs (v := nv _) rfl ?_
    refine sNil (kSeqN ?_)
    refine cRet ?_   -- END
    refine ⟨.inr rfl, _, rfl, ?_, rfl⟩
    have : (l.all fun x => decide (0 ≤ x ∧ x < 2 ^ N)) = true := by
      rw [List.all_eq_true]
      intro x hx
      obtain ⟨j, hjl, rfl⟩ := List.getElem_of_mem hx
      exact decide_eq_true (hj j l[j] (by omega) (by simp))
    rw [checkF, if_neg hn, if_neg hc2, e0, this]; rfl
end Go.AM
