/- Part 7 of the proof: Plain laws, and contracts of the program's functions. -/
import Derived.Test.YtdokoekgdeebpaaDoorPartF
import Derived.WideKeyElems2
import Derived.ChangeMaps
import Derived.Test.YtdokoekgdeebpaaDoorRows
import Derived.ProofKit
import Derived.LaidMore
import Derived.LaidHandle
import Derived.OpenShut
import Derived.Stop.Joined
import Derived.Below
import Derived.Carry
import Derived.ChangeSlices
import Derived.WideShapes
set_option linter.unusedVariables false
set_option linter.unusedSimpArgs false
/-! ### R32 -/
namespace Go.AM
open Go.Proofs
set_option maxRecDepth 100000
set_option linter.unusedVariables false
set_option linter.unusedSimpArgs false
/-- A slice is no longer than its capacity. -/
def CapOk (a : Value) : Prop := ∀ q n c, a = .slice q n c → n ≤ c
theorem wide_pow {n : Nat} (h : n = 2 ∨ n = 4 ∨ n = 8) : n = 2 ^ lenN n ∧ lenN n ≤ 3 ∧ 0 < lenN n := by
  rcases h with h | h | h <;> rw [h] <;> decide
theorem take_nodup_succ {α : Type} {p : List α} {i : Nat} {x : α} (h : (p.take i).Nodup) (hx : p[i]? = some x) (hn : ∀ (j : Nat) (y : α), j < i → p[j]? = some y → y ≠ x) : (p.take (i + 1)).Nodup := by
  rw [List.take_add_one, hx, List.nodup_append]
  refine ⟨h, by simp, fun y hy z hz e => ?_⟩
  simp at hz; subst hz; subst e
  obtain ⟨j, hj, e⟩ := List.getElem_of_mem hy
  rw [List.length_take] at hj
  exact hn j y (by omega) (by rw [List.getElem_take] at e; rw [← e]; exact List.getElem?_eq_getElem _) rfl
theorem okf80 : okF Tryd.prog H0 80 9 = true := by kernel_rfl
theorem spec_bit {m : Mem} {x k : Nat} (hx : x < 9223372036854775808) : ∃ v m', ACalls Tryd.prog 80 #[nv x, nv k] m v m' ∧ (v = nv (x >>> k &&& 1) ∧ m = m') := by
  refine wpF (args := [_, _]) mixed okf80 (fn := Tryd.f80) rfl rfl rfl (by simp) ?_
  refine cSeq ?_
  refine cRegion ?_
  refine sAs (v := nv 0) rfl ?_
  refine sNil (kSeqN ?_)
  refine cSeq ?_
  refine cRegion ?_
  refine sMv (v := nv _) rfl ?_
  refine sMv (v := nv _) rfl ?_
  refine sBin (a := x) (b := k) rfl rfl (aInt_shr (by omega)) ?_
  have hsh := Nat.shiftRight_le x k
  refine sBin (b := 1) rfl rfl (aInt_and (by omega)) ?_
  refine sAs (v := nv _) rfl ?_
  refine sNil (kSeqN ?_)
  refine cRet ?_
  exact ⟨.inr rfl, _, rfl, rfl, rfl⟩
theorem okf17 : okF Tryd.prog H0 17 67 = true := by kernel_rfl
theorem spec_rWide {m : Mem} {a : Value} {p : List Int} (ha : IntsAt m a p) (hk : CapOk a) (hl : p.length < 1000000) : ∃ v m', ACalls Tryd.prog 17 #[a] m v m' ∧ (v = .tuple #[nv (wideN p), nv (wideE p)] ∧ m = m') := by
  obtain ⟨q, cap, rfl⟩ := ha.len
  have hcap := hk _ _ _ rfl
  refine wpF (args := [_]) mixed okf17 (fn := Tryd.f17) rfl rfl rfl (by simp) ?_
  refine cSeq ?_
  refine cRegion ?_
  refine sAs (v := nv 0) rfl ?_
  refine sAs (v := nv 0) rfl ?_
  refine sNil (kSeqN ?_)
  refine cCut (fun ρ m' => (p.length = 2 ∨ p.length = 4 ∨ p.length = 8) ∧ m = m' ∧ Has ρ [(0, .slice q p.length cap)]) ?_ ?_
  ·
    refine cSeq ?_
    refine cRegion ?_
    refine sMv (v := .slice _ _ _) rfl ?_
    refine sLen T22 rfl ?_
    refine sBin (a := p.length) (b := 2) rfl rfl aInt_neq ?_
    refine sMv (v := .bool _) rfl ?_
    by_cases h1 : p.length ≠ 2
    ·
      rw [decide_eq_true h1]
      refine sG rfl rfl ?_
      refine sMv (v := .slice _ _ _) rfl ?_
      refine sG rfl rfl ?_
      refine sLen T22 rfl ?_
      refine sG rfl rfl ?_
      refine sBin (a := p.length) (b := 4) rfl rfl aInt_neq ?_
      refine sP (v := .bool _) rfl ?_
      refine sMv (v := .bool _) rfl ?_
      by_cases h2 : p.length ≠ 4
      ·
        rw [decide_eq_true h2]
        refine sG rfl rfl ?_
        refine sMv (v := .slice _ _ _) rfl ?_
        refine sG rfl rfl ?_
        refine sLen T22 rfl ?_
        refine sG rfl rfl ?_
        refine sBin (a := p.length) (b := 8) rfl rfl aInt_neq ?_
        refine sP (v := .bool _) rfl ?_
        refine sNil (kSeqN ?_)
        refine cCond rfl (fun c0 => ?_) (fun c0 => ?_)
        ·
          refine cSeq ?_
          refine cRegion ?_
          refine sAs (v := nv 0) rfl ?_
          refine sAs (v := nv 2) rfl ?_
          refine sNil (kSeqN ?_)
          refine cRet (kSeqR ?_)
          exact ⟨.inr rfl, _, rfl, by rw [wideN, show wideE p = 2 by rw [wideE, if_neg (by rintro (h | h | h); exact h1 h; exact h2 h; exact c0 h)]]; rfl, rfl⟩
        ·
          refine cSkip (kSeqN ?_)
          exact ⟨.inr (.inr (Decidable.not_not.1 c0)), rfl, rfl, trivial⟩
      ·
        rw [decide_eq_false h2]
        refine sGno (q' := false) rfl rfl (by simp) ?_
        refine sGno (q' := false) rfl rfl (by simp) ?_
        refine sGno (q' := false) rfl rfl (by simp) ?_
        refine sP (v := .bool _) rfl ?_
        refine sNil (kSeqN ?_)
        refine cCondF rfl ?_
        refine cSkip (kSeqN ?_)
        exact ⟨.inr (.inl (Decidable.not_not.1 h2)), rfl, rfl, trivial⟩
    ·
      rw [decide_eq_false h1]
      refine sGno (q' := false) rfl rfl (by simp) ?_
      refine sGno (q' := false) rfl rfl (by simp) ?_
      refine sGno (q' := false) rfl rfl (by simp) ?_
      refine sP (v := .bool _) rfl ?_
      refine sMv (v := .bool _) rfl ?_
      refine sGno (q' := false) rfl rfl (by simp) ?_
      refine sGno (q' := false) rfl rfl (by simp) ?_
      refine sGno (q' := false) rfl rfl (by simp) ?_
      refine sP (v := .bool _) rfl ?_
      refine sNil (kSeqN ?_)
      refine cCondF rfl ?_
      refine cSkip (kSeqN ?_)
      exact ⟨.inl (Decidable.not_not.1 h1), rfl, rfl, trivial⟩
  rintro ρ _ ⟨hn, rfl, hh⟩
  rw [hh.env]; clear hh
  obtain ⟨hp2, hn3, hn0⟩ := wide_pow hn
  refine cSeq ?_
  refine cSeq ?_
  refine cRegion ?_
  refine sMv (v := .slice _ _ _) rfl ?_
  refine sLen T22 rfl ?_
  refine sMv (v := nv 0) rfl ?_
  refine sNil (kSeqN ?_)
  refine cBlock ?_
  refine wpC_loop (fun k ρ m' => ∃ i, k = p.length - i ∧ i ≤ p.length ∧ (∀ (j : Nat) x, j < i → p[j]? = some x → 0 ≤ x ∧ x < Int.ofNat p.length) ∧ m = m' ∧ Has ρ [(0, .slice q p.length cap), (24, .slice q p.length cap), (25, nv p.length), (26, nv i)]) ⟨0, rfl, Nat.zero_le _, by omega, rfl, rfl, rfl, rfl, rfl, trivial⟩ ?_
  rintro k ρ _ ⟨i, rfl, hi, hr, rfl, hh⟩
  rw [hh.env]; clear hh
  refine cSeq ?_
  refine cRegion ?_
  refine sBin rfl rfl (aInt_lss) ?_
  refine sNil (kSeqN ?_)
  refine cSeq ?_   -- seq 7
  refine cCond rfl (fun c3 => ?_) (fun c3 => ?_)
  ·
    obtain ⟨b1, o1, p1, r1, cc, e1, g1, x1⟩ := ha.at (by omega)
    cases e1
    obtain ⟨x, hx⟩ : ∃ x, p[i]? = some x := ⟨_, List.getElem?_eq_getElem c3⟩
    refine cSkip (kSeqN ?_)
    refine cSeq ?_
    refine cBlock ?_
    refine cSeq ?_
    refine cRegion ?_
    refine sIx T22 S3 rfl rfl (by omega) ?_
    refine sLd (v := .int .i64 x) A3 rfl g1 (x1 i x hx) ?_
    refine sAs (v := .int .i64 x) rfl ?_
    refine sNil (kSeqN ?_)
    refine cSeq ?_
    refine cRegion ?_
    refine sMv (v := .int .i64 x) rfl ?_
    refine sBinI (v := .bool (decide (x < 0))) rfl rfl aInt_lssI ?_
    refine sMv (v := .bool _) rfl ?_
    by_cases h1 : x < 0
    ·
      rw [decide_eq_true h1]
      refine sGno (q' := true) rfl rfl (by simp) ?_
      refine sGno (q' := true) rfl rfl (by simp) ?_
      refine sGno (q' := true) rfl rfl (by simp) ?_
      refine sGno (q' := true) rfl rfl (by simp) ?_
      refine sP (v := .bool _) rfl ?_
      refine sNil (kSeqN ?_)
      refine cCondT rfl ?_
      refine cSeq ?_
      refine cRegion ?_
      refine sAs (v := nv 0) rfl ?_
      refine sAs (v := nv 3) rfl ?_
      refine sNil (kSeqN ?_)
      refine cRet (kBlkR (kSeqR (kSeqR (kBlkR (kSeqR ?_)))))
      have hex : ∃ x ∈ p, x < 0 ∨ Int.ofNat p.length ≤ x := ⟨x, List.mem_of_getElem? hx, .inl h1⟩
      exact ⟨.inr rfl, _, rfl, by rw [wideN, show wideE p = 3 by rw [wideE, if_pos hn, if_pos hex]]; rfl, rfl⟩
    ·
      rw [decide_eq_false h1]
      refine sG rfl rfl ?_
      refine sMv (v := .int .i64 x) rfl ?_
      refine sG rfl rfl ?_
      refine sMv (v := .slice _ _ _) rfl ?_
      refine sG rfl rfl ?_
      refine sLen T22 rfl ?_
      refine sG rfl rfl ?_
      refine sBinI (b := Int.ofNat p.length) (v := .bool (decide (Int.ofNat p.length ≤ x))) rfl rfl aInt_geqI ?_
      refine sP (v := .bool _) rfl ?_
      refine sNil (kSeqN ?_)
      refine cCond (p := Int.ofNat p.length ≤ x) rfl (fun c5 => ?_) (fun c5 => ?_)
      ·
        refine cSeq ?_
        refine cRegion ?_
        refine sAs (v := nv 0) rfl ?_
        refine sAs (v := nv 3) rfl ?_
        refine sNil (kSeqN ?_)
        refine cRet (kBlkR (kSeqR (kSeqR (kBlkR (kSeqR ?_)))))
        have hex : ∃ x ∈ p, x < 0 ∨ Int.ofNat p.length ≤ x := ⟨x, List.mem_of_getElem? hx, .inr c5⟩
        exact ⟨.inr rfl, _, rfl, by rw [wideN, show wideE p = 3 by rw [wideE, if_pos hn, if_pos hex]]; rfl, rfl⟩
      ·
        refine cSkip (kBlkN (kSeqN ?_))
        refine cRegion ?_
        refine sBin rfl rfl (aInt_add (b := 1) (by omega)) ?_
        refine sMv (v := nv _) rfl ?_
        refine sNil (kSeqN ?_)
        refine ⟨_, ?_, i + 1, rfl, by omega, fun j y hj hy => ?_, rfl, rfl, rfl, rfl, rfl, trivial⟩
        · omega
        · by_cases h : j = i
          · subst h
            rw [hx] at hy
            obtain rfl := Option.some.inj hy
            have c5' : ¬ ((p.length : Int) ≤ x) := c5
            have : x < (p.length : Int) := by omega
            exact ⟨by omega, this⟩
          · exact hr j y (by omega) hy
  ·
    obtain rfl : i = p.length := by omega
    have hnex : ¬ ∃ x ∈ p, x < 0 ∨ Int.ofNat p.length ≤ x := by
      rintro ⟨x, hx, h⟩
      obtain ⟨j, hj, e⟩ := List.getElem_of_mem hx
      have h3 := hr j x hj (by rw [List.getElem?_eq_getElem hj, e])
      rcases h with h | h
      · omega
      · have h' : (p.length : Int) ≤ x := h
        have h4 : x < (p.length : Int) := h3.2
        omega
    refine cExit (kSeqE (kSeqE (kBlkS (kSeqN ?_))))
    refine cSeq ?_
    refine cSeq ?_
    refine cRegion ?_
    refine sMv (v := .slice _ _ _) rfl ?_
    refine sLen T22 rfl ?_
    refine sMv (v := nv 0) rfl ?_
    refine sNil (kSeqN ?_)
    refine cBlock ?_
    refine wpC_loop (fun k ρ m' => ∃ i, k = p.length - i ∧ i ≤ p.length ∧ (p.take i).Nodup ∧ m = m' ∧ Has ρ [(0, .slice q p.length cap), (39, .slice q p.length cap), (40, nv p.length), (41, nv i)]) ⟨0, rfl, Nat.zero_le _, by simp, rfl, rfl, rfl, rfl, rfl, trivial⟩ ?_
    rintro k ρ _ ⟨i, rfl, hi, hr2, rfl, hh⟩
    rw [hh.env]; clear hh
    refine cSeq ?_
    refine cRegion ?_
    refine sBin rfl rfl (aInt_lss) ?_
    refine sNil (kSeqN ?_)
    refine cSeq ?_   -- seq 16
    refine cCond rfl (fun c6 => ?_) (fun c6 => ?_)
    ·
      obtain ⟨b1, o1, p1, r1, cc, e1, g1, x1⟩ := ha.at (by omega)
      cases e1
      obtain ⟨x, hx⟩ : ∃ x, p[i]? = some x := ⟨_, List.getElem?_eq_getElem c6⟩
      refine cSkip (kSeqN ?_)
      refine cSeq ?_
      refine cBlock ?_
      refine cSeq ?_
      refine cRegion ?_
      refine sMv (v := nv _) rfl ?_
      refine sIx T22 S3 rfl rfl (by omega) ?_
      refine sLd (v := .int .i64 x) A3 rfl g1 (x1 i x hx) ?_
      refine sAs (v := nv _) rfl ?_
      refine sAs (v := .int .i64 x) rfl ?_
      refine sNil (kSeqN ?_)
      refine cSeq ?_
      refine cRegion ?_
      refine sMv (v := .slice _ _ _) rfl ?_
      refine sMv (v := nv _) rfl ?_
      refine sO (v := .slice (some ⟨b1, o1, some 1⟩) i cap) (m' := m) (opF_read rfl (aSlice_hi (m := m) T22 S3 (by omega))) ?_
      refine sLen T22 rfl ?_
      refine sMv (v := nv 0) rfl ?_
      refine sNil (kSeqN ?_)
      refine cBlock ?_
      refine wpC_loop (fun k' ρ m' => ∃ j, k' = i - j ∧ j ≤ i ∧ (∀ (j' : Nat) y, j' < j → p[j']? = some y → y ≠ x) ∧ m = m' ∧ Has ρ [(0, .slice (some ⟨b1, o1, some 1⟩) p.length cap), (7, .int .i64 x), (39, .slice (some ⟨b1, o1, some 1⟩) p.length cap), (40, nv p.length), (41, nv i), (48, .slice (some ⟨b1, o1, some 1⟩) i cap), (49, nv i), (50, nv j)]) ⟨0, rfl, Nat.zero_le _, by omega, rfl, rfl, rfl, rfl, rfl, rfl, rfl, rfl, rfl, trivial⟩ ?_
      rintro k' ρ _ ⟨j, rfl, hj, hr3, rfl, hh⟩
      rw [hh.env]; clear hh
      refine cSeq ?_
      refine cRegion ?_
      refine sBin rfl rfl (aInt_lss) ?_
      refine sNil (kSeqN ?_)
      refine cSeq ?_   -- seq 21
      refine cCond rfl (fun c7 => ?_) (fun c7 => ?_)
      ·
        obtain ⟨y, hy⟩ : ∃ y, p[j]? = some y := ⟨_, List.getElem?_eq_getElem (by omega)⟩
        refine cSkip (kSeqN ?_)
        refine cSeq ?_
        refine cBlock ?_
        refine cSeq ?_
        refine cRegion ?_
        refine sIx T22 S3 rfl rfl (by omega) ?_
        refine sLd (v := .int .i64 y) A3 rfl g1 (x1 j y hy) ?_
        refine sAs (v := .int .i64 y) rfl ?_
        refine sNil (kSeqN ?_)
        refine cSeq ?_
        refine cRegion ?_
        refine sMv (v := .int .i64 y) rfl ?_
        refine sMv (v := .int .i64 x) rfl ?_
        refine sBinI (v := .bool (decide (y = x))) rfl rfl aInt_eqlI ?_
        refine sNil (kSeqN ?_)
        refine cCond rfl (fun c8 => ?_) (fun c8 => ?_)
        ·
          refine cSeq ?_
          refine cRegion ?_
          refine sAs (v := nv 0) rfl ?_
          refine sAs (v := nv 5) rfl ?_
          refine sNil (kSeqN ?_)
          refine cRet (kBlkR (kSeqR (kSeqR (kBlkR (kBlkR (kSeqR (kSeqR (kBlkR (kSeqR ?_)))))))))
          have hnn : ¬ p.Nodup := fun hnd => by
            subst c8
            have := (List.getElem?_inj (show j < p.length by omega) hnd).1 (hy.trans hx.symm)
            omega
          exact ⟨.inr rfl, _, rfl, by rw [wideN, show wideE p = 5 by rw [wideE, if_pos hn, if_neg hnex, if_neg hnn]]; rfl, rfl⟩
        ·
          refine cSkip (kBlkN (kSeqN ?_))
          refine cRegion ?_
          refine sBin rfl rfl (aInt_add (b := 1) (by omega)) ?_
          refine sMv (v := nv _) rfl ?_
          refine sNil (kSeqN ?_)
          refine ⟨_, ?_, j + 1, rfl, by omega, fun j' z hj' hz => ?_, rfl, rfl, rfl, rfl, rfl, rfl, rfl, rfl, rfl, trivial⟩
          · omega
          · by_cases h : j' = j
            · subst h
              rw [hy] at hz
              obtain rfl := Option.some.inj hz
              exact c8
            · exact hr3 j' z (by omega) hz
      ·
        obtain rfl : j = i := by omega
        refine cExit (kSeqE (kSeqE (kBlkS (kBlkN (kSeqN ?_)))))
        refine cRegion ?_
        refine sBin rfl rfl (aInt_add (b := 1) (by omega)) ?_
        refine sMv (v := nv _) rfl ?_
        refine sNil (kSeqN ?_)
        refine ⟨_, ?_, j + 1, rfl, by omega, take_nodup_succ hr2 hx hr3, rfl, rfl, rfl, rfl, rfl, trivial⟩
        omega
    ·
      obtain rfl : i = p.length := by omega
      rw [List.take_length] at hr2
      have hw0 : wideE p = 0 := by rw [wideE, if_pos hn, if_neg hnex, if_pos hr2]
      refine cExit (kSeqE (kSeqE (kBlkS (kSeqN ?_))))
      refine cSeq ?_
      refine cRegion ?_
      refine sAs (v := nv 1) rfl ?_
      refine sNil (kSeqN ?_)
      refine cSeq ?_
      refine cBlock ?_
      refine wpC_loop (fun k ρ m' => ∃ w, k = 3 - w ∧ 1 ≤ w ∧ w ≤ lenN p.length ∧ m = m' ∧ Has ρ [(0, .slice q p.length cap), (10, nv w)]) ⟨1, rfl, by omega, hn0, rfl, rfl, rfl, trivial⟩ ?_
      rintro k ρ _ ⟨w, rfl, hw1, hw2, rfl, hh⟩
      rw [hh.env]; clear hh
      have hw8 : 2 ^ w ≤ 2 ^ 3 := Nat.pow_le_pow_right (by decide) (by omega)
      refine cSeq ?_   -- seq 28
      refine cSeq ?_
      refine cRegion ?_
      refine sMv (v := nv _) rfl ?_
      refine sBin rfl rfl (aInt_shl (a := 1) (by omega)) ?_
      rw [Nat.shiftLeft_eq, Nat.one_mul]
      refine sMv (v := .slice _ _ _) rfl ?_
      refine sLen T22 rfl ?_
      refine sBin (a := 2 ^ w) (b := p.length) rfl rfl aInt_lss ?_
      refine sNil (kSeqN ?_)
      refine cCond rfl (fun c9 => ?_) (fun c9 => ?_)
      ·
        have hwl : w < lenN p.length := by
          rw [hp2] at c9
          exact (Nat.pow_lt_pow_iff_right (by decide)).1 c9
        refine cSkip (kSeqN ?_)
        refine cBlock ?_
        refine cRegion ?_
        refine sMv (v := nv _) rfl ?_
        refine sBin rfl rfl (aInt_add (b := 1) (by omega)) ?_
        refine sAs (v := nv _) rfl ?_
        refine sNil (kBlkN (kSeqN ?_))
        refine ⟨_, ?_, w + 1, rfl, by omega, hwl, rfl, rfl, rfl, trivial⟩
        omega
      ·
        have hwl : w = lenN p.length := by
          rcases Nat.lt_or_ge w (lenN p.length) with h | h
          · exact absurd (by rw [hp2]; exact Nat.pow_lt_pow_right (by decide) h) c9
          · omega
        refine cExit (kSeqE (kSeqE (kBlkS (kSeqN ?_))))
        refine cSeq ?_
        refine cRegion ?_
        refine sMv (v := nv _) rfl ?_
        refine sAs (v := nv _) rfl ?_
        refine sAs (v := nv 0) rfl ?_
        refine sNil (kSeqN ?_)
        refine cRet ?_
        exact ⟨.inr rfl, _, rfl, by rw [wideN, hw0, if_pos rfl, hwl]; rfl, rfl⟩
end Go.AM

/-! ### R33 -/
namespace Go.AM
open Go.Proofs
set_option maxRecDepth 100000
set_option linter.unusedVariables false
set_option linter.unusedSimpArgs false
theorem nodes3 : ∀ c < 8, nodesUp c 3 = wiresM c := by decide +kernel
theorem kind_if (n : Nat) (h : n ≤ 2) : (if n = 2 then 12 else if n = 1 then 9 else 1) = kindM n := by
  have : n = 0 ∨ n = 1 ∨ n = 2 := by omega
  rcases this with rfl | rfl | rfl <;> rfl
theorem okf81 : okF Tryd.prog H0 81 32 = true := by kernel_rfl
theorem spec_controlled {m : Mem} {k c : Nat} (hc : c < 8) (h2 : (wiresM c).length ≤ 2) : ∃ v m', ACalls Tryd.prog 81 #[nv k, nv c] m v m' ∧ (∃ w, v = .agg #[nv (turnG k (wiresM c)).1, w, nv 0, nv 0] ∧ OwnF (m.size + 1) m' w (ofs (turnG k (wiresM c)).2) ∧ Ext m m') := by
  refine wpF (args := [_, _]) mixed okf81 (fn := Tryd.f81) rfl rfl rfl (by simp) ?_
  refine cSeq ?_
  refine cRegion ?_
  refine sAlloc Z49 (by kernel_rfl) ?_
  change wpOps _ _ _ _ _ (m.push (.cells true #[nv 0, .slice none 0 0, nv 0, nv 0]))
  have e1 : Ext m (m.push (.cells true #[nv 0, .slice none 0 0, nv 0, nv 0])) := .push _ _
  have g1 : Mem.get (m.push (.cells true #[nv 0, .slice none 0 0, nv 0, nv 0])) m.size = .cells true #[nv 0, .slice none 0 0, nv 0, nv 0] := gP rfl
  have z1 : (m.push (.cells true #[nv 0, .slice none 0 0, nv 0, nv 0])).size = m.size + 1 := by simp
  generalize m.push (.cells true #[nv 0, .slice none 0 0, nv 0, nv 0]) = m1 at *
  refine sNil (kSeqN ?_)
  refine cSeq ?_
  refine cRegion ?_
  refine sAs (v := .slice _ _ _) rfl ?_
  refine sNil (kSeqN ?_)
  refine cSeq ?_
  refine cSeq ?_
  refine cRegion ?_
  refine sAs (v := nv 0) rfl ?_
  refine sNil (kSeqN ?_)
  refine cBlock ?_
  refine wpC_loop (fun k' ρ m' => ∃ i v, k' = 3 - i ∧ i ≤ 3 ∧ Ext m1 m' ∧ OwnF (m.size + 1) m' v (ofs (nodesUp c i)) ∧ Has ρ [(0, nv k), (1, nv c), (4, .pointer (some ⟨m.size, 0, none⟩)), (5, v), (6, nv i)]) ⟨0, _, rfl, by omega, .refl _, .nil _ _, rfl, rfl, rfl, rfl, rfl, trivial⟩ ?_
  rintro k' ρ m' ⟨i, v, rfl, hi, hE, hO, hh⟩
  obtain ⟨qv, cv, rfl⟩ := hO.ints.lenN
  rw [hh.env]; clear hh
  have hsz := hE.1
  have hnl := nodesUp_len c i
  refine cSeq ?_   -- seq 4
  refine cSeq ?_
  refine cRegion ?_
  refine sMv (v := nv _) rfl ?_
  refine sBin (b := 3) rfl rfl aInt_lss ?_
  refine sNil (kSeqN ?_)
  refine cCond rfl (fun c0 => ?_) (fun c0 => ?_)
  ·
    refine cSkip (kSeqN ?_)
    refine cSeq ?_
    refine cBlock ?_
    refine cSeq ?_
    refine cRegion ?_
    refine sMv (v := nv _) rfl ?_
    refine sMv (v := nv _) rfl ?_
    obtain ⟨v14, m14, h14, rfl, rfl⟩ := spec_bit (m := m') (x := c) (k := i) (by omega)
    refine sCall2 rfl call80 rfl rfl h14 ?_
    refine sBin (b := 1) rfl rfl aInt_eql ?_
    refine sNil (kSeqN ?_)
    refine cCond rfl (fun c1 => ?_) (fun c1 => ?_)
    ·
      have hb := (bit_one c i).1 c1
      refine cRegion ?_
      refine sMv (v := .slice _ _ _) rfl ?_
      refine sMv (v := nv _) rfl ?_
      refine sBuildS T22 S3 Z3 (by decide) (by decide) (by decide) (by kernel_rfl) fill1 rfl ?_
      refine sApp App22 rfl rfl (N := m.size + 1) (hO.ext (.push _ _)) one_ints (by simp; omega) (by simp; omega) fun v3 m3 hO3 hL3 => ?_
      have hI3 := hO3.ints
      obtain ⟨q3, cp3, rfl⟩ := hI3.len
      have hE3 : Ext m1 m3 := Low.to_ext (hE.trans (.push _ _)) hL3 (by omega)
      refine sAs (v := .slice _ _ _) rfl ?_
      refine sNil (kBlkN (kSeqN ?_))
      refine cRegion ?_
      refine sMv (v := nv _) rfl ?_
      refine sBin rfl rfl (aInt_add (b := 1) (by omega)) ?_
      refine sAs (v := nv _) rfl ?_
      refine sNil (kSeqN ?_)
      refine ⟨_, ?_, i + 1, _, rfl, by omega, hE3, by rw [nodesUp_succ, if_pos hb, ofs_append]; exact hO3, rfl, rfl, rfl, rfl, rfl, trivial⟩
      omega
    ·
      refine cSkip (kBlkN (kSeqN ?_))
      refine cRegion ?_
      refine sMv (v := nv _) rfl ?_
      refine sBin rfl rfl (aInt_add (b := 1) (by omega)) ?_
      refine sAs (v := nv _) rfl ?_
      refine sNil (kSeqN ?_)
      refine ⟨_, ?_, i + 1, _, rfl, by omega, hE, by rw [nodesUp_succ, if_neg (fun h => c1 ((bit_one c i).2 h)), List.append_nil]; exact hO, rfl, rfl, rfl, rfl, rfl, trivial⟩
      omega
  ·
    obtain rfl : i = 3 := by omega
    rw [nodes3 c hc] at *
    generalize wiresM c = l at *
    refine cExit (kSeqE (kSeqE (kBlkS (kSeqN ?_))))
    refine cSeq ?_
    refine cRegion ?_
    refine sAs (v := nv 1) rfl ?_
    refine sNil (kSeqN ?_)
    refine cCut (fun ρ M => m' = M ∧ Has ρ [(0, nv k), (4, .pointer (some ⟨m.size, 0, none⟩)), (5, .slice qv l.length cv), (7, nv (if l.length = 1 then 9 else 1))]) ?_ ?_
    ·
      refine cSeq ?_
      refine cRegion ?_
      refine sMv (v := .slice _ _ _) rfl ?_
      refine sLen T22 rfl ?_
      refine sBin (a := l.length) (b := 1) rfl rfl aInt_eql ?_
      refine sNil (kSeqN ?_)
      refine cCond rfl (fun c2 => ?_) (fun c2 => ?_)
      ·
        refine cRegion ?_
        refine sAs (v := nv 9) rfl ?_
        refine sNil (kSeqN ?_)
        exact ⟨rfl, rfl, rfl, rfl, by rw [if_pos c2]; rfl, trivial⟩
      ·
        refine cSkip (kSeqN ?_)
        exact ⟨rfl, rfl, rfl, rfl, by rw [if_neg c2]; rfl, trivial⟩
    rintro ρ _ ⟨rfl, hh⟩
    rw [hh.env]; clear hh
    refine cCut (fun ρ M => m' = M ∧ Has ρ [(0, nv k), (4, .pointer (some ⟨m.size, 0, none⟩)), (5, .slice qv l.length cv), (7, nv (kindM l.length))]) ?_ ?_
    ·
      refine cSeq ?_
      refine cRegion ?_
      refine sMv (v := .slice _ _ _) rfl ?_
      refine sLen T22 rfl ?_
      refine sBin (a := l.length) (b := 2) rfl rfl aInt_eql ?_
      refine sNil (kSeqN ?_)
      refine cCond rfl (fun c3 => ?_) (fun c3 => ?_)
      ·
        refine cRegion ?_
        refine sAs (v := nv 12) rfl ?_
        refine sNil (kSeqN ?_)
        exact ⟨rfl, rfl, rfl, rfl, by rw [← kind_if _ h2, if_pos c3]; rfl, trivial⟩
      ·
        refine cSkip (kSeqN ?_)
        exact ⟨rfl, rfl, rfl, rfl, by rw [← kind_if _ h2, if_neg c3]; rfl, trivial⟩
    rintro ρ _ ⟨rfl, hh⟩
    rw [hh.env]; clear hh
    refine cSeq ?_
    refine cRegion ?_
    refine sMv (v := nv _) rfl ?_
    refine sMv (v := .slice _ _ _) rfl ?_
    refine sMv (v := nv _) rfl ?_
    refine sBuildS T22 S3 Z3 (by decide) (by decide) (by decide) (by kernel_rfl) fill1 rfl ?_
    refine sApp App22 rfl rfl (N := m.size + 1) (hO.ext (.push _ _)) one_ints (by simp; omega) (by rw [ofs_length]; simp; omega) fun v13 m13 hO13 hL13 => ?_
    rw [show ofs l ++ [Int.ofNat k] = ofs (l ++ [k]) by rw [ofs_append]; rfl] at hO13
    obtain ⟨q13, c13, rfl⟩ := hO13.ints.lenN
    have hE13 : Ext m1 m13 := Low.to_ext (hE.trans (.push _ _)) hL13 (by omega)
    have g13 := hE13.cells g1
    refine sBuild B49k ?_
    refine sStAll S49 rfl rfl g13 rfl rfl (by kernel_rfl) ?_
    refine sNil (kSeqN ?_)
    refine cRet ?_
    refine ⟨.inr rfl, _, resRs_agg A49 S49 rfl (gS rfl (live g13)) rfl, _, rfl, ?_, ?_⟩
    · exact hO13.keep fun b hb => gSn (by have := (hO13.lt hb).1; omega)
    · exact (e1.trans hE13).set (b := m.size) (Nat.le_refl _) _
def H82 : Nat → List (Nat × Nat) := fun id => if id = 9 then [(8, 0)] else []
theorem okf82 : okF Tryd.prog H82 82 79 = true := by kernel_rfl
theorem spec_Done {m : Mem} {N kd x : Nat} {ws : Value} {w : List Nat} (hw : OwnF N m ws (ofs w)) (h0 : 0 < w.length) (h3 : w.length ≤ 3) (hkd : kd = kindM (w.length - 1)) (hlt : ∀ y ∈ w, y < 10) (hx : x < 2 ^ 10) : ∃ v m', ACalls Tryd.prog 82 #[.agg #[nv kd, ws, nv 0, nv 0], nv x] m v m' ∧ (v = nv (turnM x w) ∧ Ext m m') := by
  obtain ⟨b1, o1, p1, r1, cc, rfl, g0, x0⟩ := hw.ints.atN h0
  have hkc : (w.length = 1 ∧ kd = 1) ∨ (w.length = 2 ∧ kd = 9) ∨ (w.length = 3 ∧ kd = 12) := by
    have : w.length = 1 ∨ w.length = 2 ∨ w.length = 3 := by omega
    rcases this with h | h | h <;> rw [h] at hkd <;> simp [h, hkd, kindM]
  have hp2 : ∀ y ∈ w, 2 ^ y < 2 ^ 10 := fun y hy => Nat.pow_lt_pow_right (by decide) (hlt y hy)
  refine wpF (args := [_, _]) mixed okf82 (fn := Tryd.f82) rfl rfl rfl (by simp) ?_
  refine cSeq ?_
  refine cRegion ?_
  refine sBox (v := .agg _) rfl ?_
  change wpOps _ _ _ _ _ (m.push (.cells true #[nv kd, .slice (some ⟨b1, o1, some 1⟩) w.length p1, nv 0, nv 0]))
  have e1 : Ext m (m.push (.cells true #[nv kd, .slice (some ⟨b1, o1, some 1⟩) w.length p1, nv 0, nv 0])) := .push _ _
  have g1 : Mem.get (m.push (.cells true #[nv kd, .slice (some ⟨b1, o1, some 1⟩) w.length p1, nv 0, nv 0])) m.size = .cells true #[nv kd, .slice (some ⟨b1, o1, some 1⟩) w.length p1, nv 0, nv 0] := gP rfl
  generalize m.push (.cells true #[nv kd, .slice (some ⟨b1, o1, some 1⟩) w.length p1, nv 0, nv 0]) = M at *
  refine sAs (v := nv 0) rfl ?_
  refine sNil (kSeqN ?_)
  refine cSeq ?_
  refine cRegion ?_
  refine sFA F49_1 rfl ?_
  refine sLd (v := .slice _ _ _) A22 rfl g1 rfl ?_
  refine sAs (v := .slice _ _ _) rfl ?_
  refine sNil (kSeqN ?_)
  refine cSeq ?_
  refine cSeq ?_
  refine cRegion ?_
  refine sFA F49_0 rfl ?_
  refine sLd (v := nv kd) A3 rfl g1 rfl ?_
  refine sNil (kSeqN ?_)
  refine cBlock ?_
  refine cSeq ?_
  refine cRegion ?_
  refine sBin (a := kd) (b := 1) rfl rfl aInt_eql ?_
  refine sAs (v := .bool _) rfl ?_
  refine sNil (kSeqN ?_)
  refine cCond rfl (fun c0 => ?_) (fun c0 => ?_)
  ·
    obtain ⟨a, rfl⟩ : ∃ a, w = [a] := by match w, hkc with | [a], _ => exact ⟨a, rfl⟩ | [], h => simp at h | [_, _], h => simp at h; omega | _ :: _ :: _ :: _, h => simp at h; omega
    have ha := hlt a (by simp)
    have hpa := hp2 a (by simp)
    refine cSeq ?_
    refine cRegion ?_
    refine sMv (v := nv _) rfl ?_
    refine sMv (v := .slice _ _ _) rfl ?_
    refine sIx T22 S3 rfl rfl (show 0 < [a].length by simp) ?_
    refine sLd (v := nv a) A3 rfl (e1.cells g0) (x0 0 a rfl) ?_
    refine sBin rfl rfl (aInt_shl (a := 1) (by omega)) ?_
    rw [Nat.shiftLeft_eq, Nat.one_mul]
    refine sBin (a := x) (b := 2 ^ a) rfl rfl (aInt_xor ⟨by omega, by omega⟩) ?_
    refine sAs (v := nv _) rfl ?_
    refine sNil (kSeqN ?_)
    refine cRet (kBlkR (kSeqR ?_))
    exact ⟨.inr rfl, _, rfl, rfl, e1⟩
  ·
    refine cSeq ?_
    refine cRegion ?_
    refine sBin (a := kd) (b := 9) rfl rfl aInt_eql ?_
    refine sAs (v := .bool _) rfl ?_
    refine sNil (kSeqN ?_)
    refine cCond rfl (fun c1 => ?_) (fun c1 => ?_)
    ·
      obtain ⟨a, b, rfl⟩ : ∃ a b, w = [a, b] := by match w, hkc with | [a, b], _ => exact ⟨a, b, rfl⟩ | [], h => simp at h | [_], h => simp at h; omega | _ :: _ :: _ :: _, h => simp at h; omega
      have ha := hlt a (by simp)
      have hb := hlt b (by simp)
      have hpb := hp2 b (by simp)
      refine cSeq ?_
      refine cRegion ?_
      refine sMv (v := nv _) rfl ?_
      refine sMv (v := .slice _ _ _) rfl ?_
      refine sIx T22 S3 rfl rfl (show 0 < [a, b].length by simp) ?_
      refine sLd (v := nv a) A3 rfl (e1.cells g0) (x0 0 a rfl) ?_
      obtain ⟨v24, m24, h24, rfl, rfl⟩ := spec_bit (m := M) (x := x) (k := a) (by omega)
      refine sCall2 rfl call80 rfl rfl h24 ?_
      refine sBin (b := 1) rfl rfl aInt_eql ?_
      refine sNil (kSeqN ?_)
      refine cCond rfl (fun c2 => ?_) (fun c2 => ?_)
      ·
        refine cSeq ?_
        refine cRegion ?_
        refine sMv (v := nv _) rfl ?_
        refine sMv (v := .slice _ _ _) rfl ?_
        refine sIx T22 S3 rfl rfl (show 1 < [a, b].length by simp) ?_
        refine sLd (v := nv b) A3 rfl (e1.cells g0) (x0 1 b rfl) ?_
        refine sBin (a := 1) (b := b) rfl rfl (aInt_shl (by omega)) ?_
        rw [Nat.shiftLeft_eq, Nat.one_mul (2 ^ b)]
        refine sBin (a := x) (b := 2 ^ b) rfl rfl (aInt_xor ⟨by omega, by omega⟩) ?_
        refine sAs (v := nv _) rfl ?_
        refine sNil (kSeqN ?_)
        refine cRet (kBlkR (kSeqR ?_))
        have ht := (bit_one x a).1 c2
        exact ⟨.inr rfl, _, rfl, by rw [show turnM x [a, b] = x ^^^ 2 ^ b by simp [turnM, ht]]; rfl, e1⟩
      ·
        refine cSkip (kBlkN (kSeqN ?_))
        refine cSeq ?_
        refine cRegion ?_
        refine sMv (v := nv _) rfl ?_
        refine sAs (v := nv _) rfl ?_
        refine sNil (kSeqN ?_)
        refine cRet ?_
        have ht : x.testBit a = false := Bool.eq_false_iff.2 (fun h => c2 ((bit_one x a).2 h))
        exact ⟨.inr rfl, _, rfl, by rw [show turnM x [a, b] = x by simp [turnM, ht]]; rfl, e1⟩
    ·
      refine cSeq ?_
      refine cRegion ?_
      refine sBin (a := kd) (b := 11) rfl rfl aInt_eql ?_
      refine sAs (v := .bool _) rfl ?_
      refine sNil (kSeqN ?_)
      refine cCondF' rfl (by omega) ?_
      refine cSeq ?_
      refine cRegion ?_
      refine sBin (a := kd) (b := 12) rfl rfl aInt_eql ?_
      refine sAs (v := .bool _) rfl ?_
      refine sNil (kSeqN ?_)
      refine cCondT' rfl (by omega) ?_
      refine cSeq ?_
      refine cRegion ?_
      obtain ⟨a, b, c, rfl⟩ : ∃ a b c, w = [a, b, c] := by match w, hkc with | [a, b, c], _ => exact ⟨a, b, c, rfl⟩ | [], h => simp at h | [_], h => simp at h; omega | [_, _], h => simp at h; omega | _ :: _ :: _ :: _ :: _, h => simp at h3
      have ha := hlt a (by simp)
      have hb := hlt b (by simp)
      have hc := hlt c (by simp)
      have hpc := hp2 c (by simp)
      refine sMv (v := nv _) rfl ?_
      refine sMv (v := .slice _ _ _) rfl ?_
      refine sIx T22 S3 rfl rfl (show 0 < [a, b, c].length by simp) ?_
      refine sLd (v := nv a) A3 rfl (e1.cells g0) (x0 0 a rfl) ?_
      obtain ⟨v62, m62, h62, rfl, rfl⟩ := spec_bit (m := M) (x := x) (k := a) (by omega)
      refine sCall2 rfl call80 rfl rfl h62 ?_
      refine sBin (b := 1) rfl rfl aInt_eql ?_
      refine sMv (v := .bool _) rfl ?_
      by_cases h1 : x >>> a &&& 1 = 1
      ·
        rw [decide_eq_true h1]
        refine sG rfl rfl ?_
        refine sMv (v := nv _) rfl ?_
        refine sG rfl rfl ?_
        refine sMv (v := .slice _ _ _) rfl ?_
        refine sG rfl rfl ?_
        refine sIx T22 S3 rfl rfl (show 1 < [a, b, c].length by simp) ?_
        refine sG rfl rfl ?_
        refine sLd (v := nv b) A3 rfl (e1.cells g0) (x0 1 b rfl) ?_
        refine sG rfl rfl ?_
        obtain ⟨v69, m69, h69, rfl, rfl⟩ := spec_bit (m := M) (x := x) (k := b) (by omega)
        refine sCall2 rfl call80 rfl rfl h69 ?_
        refine sG rfl rfl ?_
        refine sBin (b := 1) rfl rfl aInt_eql ?_
        refine sP (v := .bool _) rfl ?_
        refine sNil (kSeqN ?_)
        refine cCond (p := x >>> b &&& 1 = 1) rfl (fun c5 => ?_) (fun c5 => ?_)
        ·
          refine cSeq ?_
          refine cRegion ?_
          refine sMv (v := nv _) rfl ?_
          refine sMv (v := .slice _ _ _) rfl ?_
          refine sIx T22 S3 rfl rfl (show 2 < [a, b, c].length by simp) ?_
          refine sLd (v := nv c) A3 rfl (e1.cells g0) (x0 2 c rfl) ?_
          refine sBin (a := 1) (b := c) rfl rfl (aInt_shl (by omega)) ?_
          rw [Nat.shiftLeft_eq, Nat.one_mul (2 ^ c)]
          refine sBin (a := x) (b := 2 ^ c) rfl rfl (aInt_xor ⟨by omega, by omega⟩) ?_
          refine sAs (v := nv _) rfl ?_
          refine sNil (kSeqN ?_)
          refine cRet (kBlkR (kSeqR ?_))
          have ht := (bit_one x a).1 h1
          have hu := (bit_one x b).1 c5
          exact ⟨.inr rfl, _, rfl, by rw [show turnM x [a, b, c] = x ^^^ 2 ^ c by simp [turnM, ht, hu]]; rfl, e1⟩
        ·
          refine cSkip (kBlkN (kSeqN ?_))
          refine cSeq ?_
          refine cRegion ?_
          refine sMv (v := nv _) rfl ?_
          refine sAs (v := nv _) rfl ?_
          refine sNil (kSeqN ?_)
          refine cRet ?_
          have hu : x.testBit b = false := Bool.eq_false_iff.2 (fun h => c5 ((bit_one x b).2 h))
          exact ⟨.inr rfl, _, rfl, by rw [show turnM x [a, b, c] = x by simp [turnM, hu]]; rfl, e1⟩
      ·
        rw [decide_eq_false h1]
        refine sGno (q' := false) rfl rfl (by simp) ?_
        refine sGno (q' := false) rfl rfl (by simp) ?_
        refine sGno (q' := false) rfl rfl (by simp) ?_
        refine sGno (q' := false) rfl rfl (by simp) ?_
        refine sGno (q' := false) rfl rfl (by simp) ?_
        refine sGno (q' := false) rfl rfl (by simp) ?_
        refine sP (v := .bool _) rfl ?_
        refine sNil (kSeqN ?_)
        refine cCondF rfl ?_
        refine cSkip (kBlkN (kSeqN ?_))
        refine cSeq ?_
        refine cRegion ?_
        refine sMv (v := nv _) rfl ?_
        refine sAs (v := nv _) rfl ?_
        refine sNil (kSeqN ?_)
        refine cRet ?_
        have ht : x.testBit a = false := Bool.eq_false_iff.2 (fun h => h1 ((bit_one x a).2 h))
        exact ⟨.inr rfl, _, rfl, by rw [show turnM x [a, b, c] = x by simp [turnM, ht]]; rfl, e1⟩
end Go.AM

/-! ### N7 -/
namespace Go.AM
open Go.Proofs
set_option maxRecDepth 100000
set_option linter.unusedVariables false
set_option linter.unusedSimpArgs false
section
variable {n i : Nat}
end
end Go.AM

/-! ### R34 -/
namespace Go.AM
open Go.Proofs
set_option maxRecDepth 100000
set_option linter.unusedVariables false
set_option linter.unusedSimpArgs false
/-- A gate ahead of others. -/
theorem OwnG.cons {N : Nat} {m : Mem} {bl kd : Nat} {ws : Value} {w : List Nat} (hg : Mem.get m bl = .cells true #[nv kd, ws, nv 0, nv 0]) (hN : N ≤ bl) (hw : OwnF N m ws (ofs w)) (hb : ∀ b, blkOf ws = some b → b ≠ bl) :
    OwnG N m (.slice (some ⟨bl, 0, some 4⟩) 1 1) #[nv kd, ws, nv 0, nv 0] [(kd, w)] := by
  refine ⟨.inr ⟨bl, 1, _, rfl, hN, hg, Nat.le_refl _, rfl, rfl, fun i _ => rfl⟩, fun i g hi => ?_⟩
  have h1 := (List.getElem?_eq_some_iff.1 hi).1
  obtain rfl : i = 0 := by simp at h1; exact h1
  obtain rfl : (kd, w) = g := by simpa using hi
  exact ⟨ws, rfl, rfl, rfl, rfl, hw, fun b h e => by injection e with e; exact hb b h e.symm⟩
end Go.AM

/-! ### R35 -/
namespace Go.AM
open Go.Proofs
set_option maxRecDepth 100000
set_option linter.unusedVariables false
set_option linter.unusedSimpArgs false
/-- What was met, in a row of truths. -/
def MetB (m : Mem) (b n : Nat) (met : List Nat) : Prop := ∃ B, Mem.get m b = .cells true B ∧ B.size = n ∧ ∀ y, y < n → B[y]? = some (.bool (decide (y ∈ met)))
theorem MetB.keep {m m' : Mem} {b n : Nat} {met : List Nat} (h : MetB m b n met) (he : Mem.get m' b = Mem.get m b) : MetB m' b n met := by
  obtain ⟨B, h1, h2⟩ := h; exact ⟨B, he.trans h1, h2⟩
end Go.AM

/-! ### R36 -/
namespace Go.AM
open Go.Proofs
set_option maxRecDepth 100000
set_option linter.unusedVariables false
set_option linter.unusedSimpArgs false
end Go.AM

/-! ### R38 -/
namespace Go.AM
open Go.Proofs
set_option maxRecDepth 100000
set_option linter.unusedVariables false
set_option linter.unusedSimpArgs false
def codeF (n x : Nat) : Nat := 8 * n + x
def codeM (p : List Nat) : Nat := p.foldl codeF p.length
theorem code_bound : ∀ (l : List Nat) (n : Nat), (∀ x ∈ l, x < 8) → l.foldl codeF n + 1 ≤ (n + 1) * 8 ^ l.length
  | [], n, _ => by simp
  | x :: l, n, h => by
    have hx := h x (by simp)
    have ih := code_bound l (codeF n x) fun y hy => h y (by simp [hy])
    simp only [List.foldl_cons, List.length_cons, Nat.pow_succ]
    refine Nat.le_trans ih ?_
    have h1 : codeF n x + 1 ≤ (n + 1) * 8 := by unfold codeF; omega
    calc (codeF n x + 1) * 8 ^ l.length ≤ ((n + 1) * 8) * 8 ^ l.length := Nat.mul_le_mul_right _ h1
      _ = (n + 1) * (8 ^ l.length * 8) := by rw [Nat.mul_assoc, Nat.mul_comm 8]
theorem code_inj0 : ∀ (p q : List Nat) (n k : Nat), p.length = q.length → (∀ x ∈ p, x < 8) → (∀ x ∈ q, x < 8) → p.foldl codeF n = q.foldl codeF k → n = k ∧ p = q
  | [], [], n, k, _, _, _, h => ⟨h, rfl⟩
  | [], _ :: _, n, k, h, _, _, _ => by simp at h
  | _ :: _, [], n, k, h, _, _, _ => by simp at h
  | x :: p, y :: q, n, k, hl, hp, hq, h => by
    obtain ⟨h1, h2⟩ := code_inj0 p q _ _ (by simpa using hl) (fun z hz => hp z (by simp [hz])) (fun z hz => hq z (by simp [hz])) h
    have hx := hp x (by simp)
    have hy := hq y (by simp)
    unfold codeF at h1
    exact ⟨by omega, by rw [h2, show x = y by omega]⟩
theorem code_inj {p q : List Nat} (hl : p.length = q.length) (hp : ∀ x ∈ p, x < 8) (hq : ∀ x ∈ q, x < 8) (h : codeM p = codeM q) : p = q := (code_inj0 p q _ _ hl hp hq h).2
theorem pick3 : ∀ k < 3, ∀ c < 8, c.testBit k = false → pickM k c = true ∧ (wiresM c).length ≤ 2 := by decide +kernel
theorem okf131 : okF Tryd.prog H0 131 20 = true := by kernel_rfl
theorem spec_code {m : Mem} {a : Value} {L : List Nat} (ha : IntsAt m a (ofs L)) (h8 : L.length ≤ 8) (hx : ∀ x ∈ L, x < 8) : ∃ v m', ACalls Tryd.prog 131 #[a] m v m' ∧ (v = nv (codeM L) ∧ m = m') := by
  obtain ⟨q, cap, rfl⟩ := ha.lenN
  refine wpF (args := [_]) mixed okf131 (fn := Tryd.f131) rfl rfl rfl (by simp) ?_
  refine cSeq ?_
  refine cRegion ?_
  refine sAs (v := nv 0) rfl ?_
  refine sNil (kSeqN ?_)
  refine cSeq ?_
  refine cRegion ?_
  refine sMv (v := .slice _ _ _) rfl ?_
  refine sLen T22 rfl ?_
  refine sAs (v := nv _) rfl ?_
  refine sNil (kSeqN ?_)
  refine cSeq ?_
  refine cSeq ?_
  refine cRegion ?_
  refine sMv (v := .slice _ _ _) rfl ?_
  refine sLen T22 rfl ?_
  refine sMv (v := nv 0) rfl ?_
  refine sNil (kSeqN ?_)
  refine cBlock ?_
  refine wpC_loop (fun k ρ m' => ∃ i, k = L.length - i ∧ i ≤ L.length ∧ m = m' ∧ Has ρ [(0, .slice q L.length cap), (3, nv ((L.take i).foldl codeF L.length)), (8, .slice q L.length cap), (9, nv L.length), (10, nv i)]) ⟨0, rfl, Nat.zero_le _, rfl, rfl, rfl, rfl, rfl, rfl, trivial⟩ ?_
  rintro k ρ _ ⟨i, rfl, hi, rfl, hh⟩
  rw [hh.env]; clear hh
  have hb := code_bound (L.take i) L.length (fun x h => hx x (List.mem_of_mem_take h))
  have hb2 : (L.length + 1) * 8 ^ (L.take i).length ≤ 9 * 8 ^ 8 := Nat.mul_le_mul (by omega) (Nat.pow_le_pow_right (by decide) (by rw [List.length_take]; omega))
  generalize hN : (L.take i).foldl codeF L.length = n at *
  refine cSeq ?_
  refine cRegion ?_
  refine sBin rfl rfl (aInt_lss) ?_
  refine sNil (kSeqN ?_)
  refine cSeq ?_   -- seq 5
  refine cCond rfl (fun c0 => ?_) (fun c0 => ?_)
  ·
    obtain ⟨b1, o1, p1, r1, cc, e1, g1, x1⟩ := ha.atN (by omega)
    cases e1
    obtain ⟨x, hx0⟩ : ∃ x, L[i]? = some x := ⟨_, List.getElem?_eq_getElem c0⟩
    have hx8 := hx x (List.mem_of_getElem? hx0)
    refine cSkip (kSeqN ?_)
    refine cSeq ?_
    refine cBlock ?_
    refine cSeq ?_
    refine cRegion ?_
    refine sIx T22 S3 rfl rfl (by omega) ?_
    refine sLd (v := nv x) A3 rfl g1 (x1 i x hx0) ?_
    refine sAs (v := nv _) rfl ?_
    refine sNil (kSeqN ?_)
    refine cRegion ?_
    refine sMv (v := nv _) rfl ?_
    refine sBin (a := 8) (b := n) rfl rfl (aInt_mul (by omega)) ?_
    refine sMv (v := nv _) rfl ?_
    refine sBin (a := 8 * n) (b := x) rfl rfl (aInt_add (by omega)) ?_
    refine sAs (v := nv _) rfl ?_
    refine sNil (kBlkN (kSeqN ?_))
    refine cRegion ?_
    refine sBin rfl rfl (aInt_add (b := 1) (by omega)) ?_
    refine sMv (v := nv _) rfl ?_
    refine sNil (kSeqN ?_)
    refine ⟨_, ?_, i + 1, rfl, by omega, rfl, rfl, ?_, rfl, rfl, rfl, trivial⟩
    · omega
    · rw [List.take_add_one, hx0, List.foldl_append, hN]; rfl
  ·
    obtain rfl : i = L.length := by omega
    rw [List.take_length] at hN
    refine cExit (kSeqE (kSeqE (kBlkS (kSeqN ?_))))
    refine cSeq ?_
    refine cRegion ?_
    refine sMv (v := nv _) rfl ?_
    refine sAs (v := nv _) rfl ?_
    refine sNil (kSeqN ?_)
    refine cRet ?_
    exact ⟨.inr rfl, _, rfl, by rw [codeM, hN]; rfl, rfl⟩
theorem okf132 : okF Tryd.prog H0 132 28 = true := by kernel_rfl
theorem spec_rGates {m : Mem} {n : Nat} (hn : n ≤ 3) : ∃ v m', ACalls Tryd.prog 132 #[nv n] m v m' ∧ (∃ cs, OwnG m.size m' v cs (gatesM n) ∧ Ext m m') := by
  have h8 := two_pow3 hn
  refine wpF (args := [_]) mixed okf132 (fn := Tryd.f132) rfl rfl rfl (by simp) ?_
  refine cSeq ?_
  refine cRegion ?_
  refine sAs (v := .slice _ _ _) rfl ?_
  refine sNil (kSeqN ?_)
  refine cSeq ?_
  refine cRegion ?_
  refine sAs (v := .slice _ _ _) rfl ?_
  refine sNil (kSeqN ?_)
  refine cSeq ?_
  refine cSeq ?_
  refine cRegion ?_
  refine sAs (v := nv 0) rfl ?_
  refine sNil (kSeqN ?_)
  refine cBlock ?_
  refine wpC_loop (fun q ρ m' => ∃ k v cs, q = n - k ∧ k ≤ n ∧ Ext m m' ∧ OwnG m.size m' v cs (gatesUp k n) ∧ Has ρ [(0, nv n), (3, v), (4, nv k)]) ⟨0, .slice none 0 0, #[], rfl, Nat.zero_le _, .refl _, .nil _ _, rfl, rfl, rfl, trivial⟩ ?_
  rintro q ρ m' ⟨k, v, cs, rfl, hk, hE, hO, hh⟩
  obtain ⟨qv, cv, rfl⟩ := hO.1.len
  rw [hh.env]; clear hh
  have hgl := gatesUp_len k n hn
  refine cSeq ?_   -- seq 4
  refine cSeq ?_
  refine cRegion ?_
  refine sMv (v := nv _) rfl ?_
  refine sMv (v := nv _) rfl ?_
  refine sBin rfl rfl (aInt_lss) ?_
  refine sNil (kSeqN ?_)
  refine cCond rfl (fun c0 => ?_) (fun c0 => ?_)
  ·
    refine cSkip (kSeqN ?_)
    refine cSeq ?_
    refine cBlock ?_
    refine cSeq ?_
    refine cRegion ?_
    refine sAs (v := nv 0) rfl ?_
    refine sNil (kSeqN ?_)
    refine cBlock ?_
    refine wpC_loop (fun q ρ m2 => ∃ i v cs, q = 2 ^ n - i ∧ i ≤ 2 ^ n ∧ Ext m m2 ∧ OwnG m.size m2 v cs (gatesUp k n ++ gatesK k i) ∧ Has ρ [(0, nv n), (3, v), (4, nv k), (5, nv i)]) ⟨0, _, cs, rfl, Nat.zero_le _, hE, by rw [show gatesK k 0 = [] from rfl, List.append_nil]; exact hO, rfl, rfl, rfl, rfl, trivial⟩ ?_
    rintro q ρ m2 ⟨i, v, cs, rfl, hi, hE2, hO2, hh⟩
    obtain ⟨qv, cv, rfl⟩ := hO2.1.len
    rw [hh.env]; clear hh
    have hgk := gatesK_len k i
    have hz2 := hE2.1
    refine cSeq ?_   -- seq 8
    refine cSeq ?_
    refine cRegion ?_
    refine sMv (v := nv _) rfl ?_
    refine sMv (v := nv _) rfl ?_
    refine sBin rfl rfl (aInt_shl (a := 1) (by omega)) ?_
    rw [Nat.shiftLeft_eq, Nat.one_mul]
    refine sBin (a := i) (b := 2 ^ n) rfl rfl aInt_lss ?_
    refine sNil (kSeqN ?_)
    refine cCond rfl (fun c1 => ?_) (fun c1 => ?_)
    ·
      refine cSkip (kSeqN ?_)
      refine cSeq ?_
      refine cBlock ?_
      refine cSeq ?_
      refine cRegion ?_
      refine sMv (v := nv _) rfl ?_
      refine sMv (v := nv _) rfl ?_
      obtain ⟨v19, m19, h19, rfl, rfl⟩ := spec_bit (m := m2) (x := i) (k := k) (by omega)
      refine sCall2 rfl call80 rfl rfl h19 ?_
      refine sBin (b := 0) rfl rfl aInt_eql ?_
      refine sNil (kSeqN ?_)
      refine cCond rfl (fun c2 => ?_) (fun c2 => ?_)
      ·
        obtain ⟨hpk, hwl⟩ := pick3 k (by omega) i (by omega) ((bit_zero i k).1 c2)
        refine cRegion ?_
        refine sMv (v := .slice _ _ _) rfl ?_
        refine sMv (v := nv _) rfl ?_
        refine sMv (v := nv _) rfl ?_
        obtain ⟨v24, m24, h24, w24, rfl, o24, e24⟩ := spec_controlled (m := m2) (k := k) (c := i) (by omega) hwl
        obtain ⟨q24, c24, rfl⟩ := o24.ints.lenN
        refine sCall2 rfl call81 rfl rfl h24 ?_
        have z24 := e24.1
        refine sBuildS T28 S49 Z49 (by decide) (by decide) (by decide) (by kernel_rfl) fillA4 rfl ?_
        refine sAppC El55 rfl rfl (N := m.size) (n := (gatesUp k n ++ gatesK k i).length) (cs := cs) ((hO2.ext e24).1.ext (.push _ _)) (gP rfl) rfl (by kernel_rfl) (by simp; omega) (by rw [List.length_append]; omega) fun v' m4 hO4 hL4 hG4 => ?_
        have hgr := ((hO2.ext e24).ext (.push _ _)).grew (s := .slice q24 (turnG k (wiresM i)).2.length c24) (k := (turnG k (wiresM i)).1) (w := (turnG k (wiresM i)).2) ((o24.mono (by omega)).ext (.push _ _)) (fun b hb e => by
          have h1 := (o24.lt hb).1
          have h2 := (hO2.1.lt e).2
          omega) hG4 hO4
        obtain ⟨q4, cp4, rfl⟩ := hO4.len
        refine sAs (v := .slice _ _ _) rfl ?_
        refine sNil (kBlkN (kSeqN ?_))
        refine cRegion ?_
        refine sMv (v := nv _) rfl ?_
        refine sBin rfl rfl (aInt_add (b := 1) (by omega)) ?_
        refine sAs (v := nv _) rfl ?_
        refine sNil (kSeqN ?_)
        refine ⟨_, ?_, i + 1, _, cs ++ #[nv (turnG k (wiresM i)).1, .slice q24 (turnG k (wiresM i)).2.length c24, nv 0, nv 0], rfl, by omega, Low.to_ext ((hE2.trans e24).trans (.push _ _)) hL4 (Nat.le_refl _), ?_, rfl, rfl, rfl, rfl, trivial⟩
        · omega
        · rw [gatesK_succ, hpk, if_pos rfl, ← List.append_assoc]; exact hgr
      ·
        refine cSkip (kBlkN (kSeqN ?_))
        refine cRegion ?_
        refine sMv (v := nv _) rfl ?_
        refine sBin rfl rfl (aInt_add (b := 1) (by omega)) ?_
        refine sAs (v := nv _) rfl ?_
        refine sNil (kSeqN ?_)
        refine ⟨_, ?_, i + 1, _, cs, rfl, by omega, hE2, ?_, rfl, rfl, rfl, rfl, trivial⟩
        · omega
        · have hpk : pickM k i = false := by
            unfold pickM
            cases hb : i.testBit k with
            | true => rfl
            | false => exact absurd ((bit_zero i k).2 hb) c2
          rw [gatesK_succ, hpk, if_neg (by decide), List.append_nil]; exact hO2
    ·
      obtain rfl : i = 2 ^ n := by omega
      refine cExit (kSeqE (kSeqE (kBlkS (kBlkN (kSeqN ?_)))))
      refine cRegion ?_
      refine sMv (v := nv _) rfl ?_
      refine sBin rfl rfl (aInt_add (b := 1) (by omega)) ?_
      refine sAs (v := nv _) rfl ?_
      refine sNil (kSeqN ?_)
      refine ⟨_, ?_, k + 1, _, cs, rfl, by omega, hE2, ?_, rfl, rfl, rfl, trivial⟩
      · omega
      · rw [gatesUp_succ]; exact hO2
  ·
    refine cExit (kSeqE (kSeqE (kBlkS (kSeqN ?_))))
    refine cSeq ?_
    refine cRegion ?_
    refine sMv (v := .slice _ _ _) rfl ?_
    refine sAs (v := .slice _ _ _) rfl ?_
    refine sNil (kSeqN ?_)
    refine cRet ?_
    obtain rfl : k = n := by omega
    exact ⟨.inr rfl, _, rfl, cs, hO, hE⟩
end Go.AM

/-! ### N8 -/
namespace Go.AM
open Go.Proofs
set_option maxRecDepth 100000
set_option linter.unusedVariables false
set_option linter.unusedSimpArgs false
def lvTry (p : List Nat) (K : List (List Nat)) (g : Nat × List Nat) : List (List Nat) := if doL g.2 p ∈ K then K else K ++ [doL g.2 p]
def lvTries (p : List Nat) (gs : List (Nat × List Nat)) (K : List (List Nat)) : List (List Nat) := gs.foldl (lvTry p) K
def lvRun (n : Nat) : Nat → Nat → List (List Nat) → List (List Nat)
  | 0, _, K => K
  | c + 1, i, K => lvRun n c (i + 1) (lvTries (K.getD i []) (gatesM n) K)
def lvS (n : Nat) : Nat → Nat × List (List Nat)
  | 0 => (0, [List.range (2 ^ n)])
  | d + 1 => ((lvS n d).2.length, lvRun n ((lvS n d).2.length - (lvS n d).1) (lvS n d).1 (lvS n d).2)
def lvl (n d : Nat) : List (List Nat) := (lvS n d).2.drop (lvS n d).1
/-- A table of n wires. -/
def PermT (n : Nat) (p : List Nat) : Prop := p.length = 2 ^ n ∧ ∀ x ∈ p, x < 2 ^ n
theorem PermT.next {n : Nat} {p : List Nat} {g : Nat × List Nat} (h : PermT n p) (hg : g ∈ gatesM n) : PermT n (doL g.2 p) := by
  obtain ⟨h1, h2, _⟩ := gatesM_lt hg
  refine ⟨by simp [doL, h.1], fun x hx => ?_⟩
  unfold doL at hx
  rw [List.mem_map] at hx
  obtain ⟨y, hy, rfl⟩ := hx
  exact turnM_lt (h.2 y hy) h1 h2
theorem PermT.range (n : Nat) : PermT n (List.range (2 ^ n)) := ⟨by simp, fun x hx => by simpa using hx⟩
theorem lvTry_app (p : List Nat) (K : List (List Nat)) (g : Nat × List Nat) : ∃ R, lvTry p K g = K ++ R ∧ R.length ≤ 1 := by
  unfold lvTry
  split
  · exact ⟨[], by simp, by simp⟩
  · exact ⟨_, rfl, by simp⟩
theorem lvTries_app (p : List Nat) : ∀ (gs : List (Nat × List Nat)) (K : List (List Nat)), ∃ R, lvTries p gs K = K ++ R ∧ R.length ≤ gs.length
  | [], K => ⟨[], by simp [lvTries], by simp⟩
  | g :: gs, K => by
    obtain ⟨R, h1, h2⟩ := lvTry_app p K g
    obtain ⟨S, h3, h4⟩ := lvTries_app p gs (lvTry p K g)
    refine ⟨R ++ S, ?_, by simp; omega⟩
    show lvTries p gs (lvTry p K g) = _
    rw [h3, h1, List.append_assoc]
theorem lvRun_app (n : Nat) : ∀ (c i : Nat) (K : List (List Nat)), ∃ R, lvRun n c i K = K ++ R ∧ R.length ≤ c * (gatesM n).length
  | 0, i, K => ⟨[], by simp [lvRun], by simp⟩
  | c + 1, i, K => by
    obtain ⟨R, h1, h2⟩ := lvTries_app (K.getD i []) (gatesM n) K
    obtain ⟨S, h3, h4⟩ := lvRun_app n c (i + 1) (lvTries (K.getD i []) (gatesM n) K)
    refine ⟨R ++ S, by rw [lvRun, h3, h1, List.append_assoc], by rw [List.length_append, Nat.succ_mul]; omega⟩
theorem lvRun_step (n : Nat) : ∀ (c i : Nat) (K : List (List Nat)), lvRun n (c + 1) i K = lvTries ((lvRun n c i K).getD (i + c) []) (gatesM n) (lvRun n c i K)
  | 0, i, K => rfl
  | c + 1, i, K => by
    have := lvRun_step n c (i + 1) (lvTries (K.getD i []) (gatesM n) K)
    rw [lvRun, this, show i + 1 + c = i + (c + 1) by omega]; rfl
theorem lvS_len {n : Nat} (hn : n ≤ 3) : ∀ d, (lvS n d).1 ≤ (lvS n d).2.length ∧ (lvS n d).2.length - (lvS n d).1 ≤ 12 ^ d ∧ (lvS n d).1 * 11 + 1 ≤ 12 ^ d
  | 0 => by simp [lvS]
  | d + 1 => by
    obtain ⟨h1, h2, h3⟩ := lvS_len hn d
    obtain ⟨R, e1, e2⟩ := lvRun_app n ((lvS n d).2.length - (lvS n d).1) (lvS n d).1 (lvS n d).2
    have hg := gatesM_len hn
    have e3 : ((lvS n d).2.length - (lvS n d).1) * (gatesM n).length ≤ 12 ^ d * 12 := Nat.mul_le_mul h2 hg
    simp only [lvS, e1, List.length_append, Nat.pow_succ]
    omega
theorem lvS_30000 {n d : Nat} (hn : n ≤ 3) (hd : d ≤ 4) : (lvS n d).2.length ≤ 22621 := by
  obtain ⟨h1, h2, h3⟩ := lvS_len hn d
  have h4 : 12 ^ d ≤ 12 ^ 4 := Nat.pow_le_pow_right (by decide) hd
  omega
theorem lvTries_perm {n : Nat} {p : List Nat} (hp : PermT n p) : ∀ (gs : List (Nat × List Nat)) (K : List (List Nat)), (∀ g ∈ gs, g ∈ gatesM n) → (∀ q ∈ K, PermT n q) → ∀ q ∈ lvTries p gs K, PermT n q
  | [], K, _, h => h
  | g :: gs, K, hg, h => by
    refine lvTries_perm hp gs (lvTry p K g) (fun x hx => hg x (by simp [hx])) fun q hq => ?_
    unfold lvTry at hq
    split at hq
    · exact h q hq
    · rw [List.mem_append] at hq
      rcases hq with hq | hq
      · exact h q hq
      · rw [List.mem_singleton] at hq; subst hq; exact hp.next (hg g (by simp))
theorem lvRun_perm {n : Nat} : ∀ (c i : Nat) (K : List (List Nat)), i + c ≤ K.length → (∀ q ∈ K, PermT n q) → ∀ q ∈ lvRun n c i K, PermT n q
  | 0, i, K, _, h => h
  | c + 1, i, K, hi, h => by
    have hil : i < K.length := by omega
    have hp : PermT n (K.getD i []) := by
      rw [List.getD_eq_getElem?_getD, List.getElem?_eq_getElem hil]; exact h _ (List.getElem_mem _)
    obtain ⟨R, h1, _⟩ := lvTries_app (K.getD i []) (gatesM n) K
    exact lvRun_perm c (i + 1) _ (by rw [h1, List.length_append]; omega) (lvTries_perm hp _ _ (fun g hg => hg) h)
theorem lvS_perm {n : Nat} (hn : n ≤ 3) : ∀ d, ∀ q ∈ (lvS n d).2, PermT n q
  | 0 => fun q hq => by simp only [lvS, List.mem_singleton] at hq; subst hq; exact PermT.range n
  | d + 1 => by
    have := (lvS_len hn d).1
    exact lvRun_perm _ _ _ (by omega) (lvS_perm hn d)
theorem lvl_perm {n d : Nat} (hn : n ≤ 3) : ∀ q ∈ lvl n d, PermT n q := fun q hq => lvS_perm hn d q (List.mem_of_mem_drop hq)
/-! ### The same as by breadth -/
theorem tab8_inj {p q : List Nat} (h : p.length = q.length) (e : tab8 p = tab8 q) : p = q := by
  unfold tab8 at e
  exact (List.append_inj e h).1
theorem tab8_get {p : List Nat} {x : Nat} (hp : p.length ≤ 8) : (tab8 p).getD x 0 = p.getD x 0 := by
  unfold tab8
  rw [List.getD_eq_getElem?_getD, List.getD_eq_getElem?_getD]
  by_cases h : x < p.length
  · rw [List.getElem?_append_left h]
  · rw [List.getElem?_append_right (by omega), List.getElem?_eq_none (l := p) (by omega), List.getElem?_replicate]
    split <;> rfl
theorem tab8_len8 {p : List Nat} (hp : p.length ≤ 8) : (tab8 p).length = 8 := by simp [tab8]; omega
theorem next_tab8 {n : Nat} {p : List Nat} {g : Nat × List Nat} (hn : n ≤ 3) (hp : PermT n p) : nextT n g (tab8 p) = tab8 (doL g.2 p) := by
  have h8 := two_pow3 hn
  have hl := hp.1
  apply List.ext_getElem?
  intro x
  unfold nextT nextUp
  by_cases hx : x < 8
  · rw [List.getElem?_map, List.getElem?_range hx]
    have e : (tab8 (doL g.2 p))[x]? = some ((tab8 (doL g.2 p)).getD x 0) := by
      rw [List.getD_eq_getElem?_getD, List.getElem?_eq_getElem (by rw [tab8_len8 (by simp [doL]; omega)]; exact hx)]; rfl
    rw [e, tab8_get (p := doL g.2 p) (by simp [doL]; omega)]
    simp only [Option.map_some]
    rw [tab8_get (p := p) (by omega)]
    congr 1
    by_cases h : x < 2 ^ n
    · rw [if_pos h, doL_getD (x := p.getD x 0)]
      rw [List.getD_eq_getElem?_getD, List.getElem?_eq_getElem (by omega)]; rfl
    · rw [if_neg h, List.getD_eq_getElem?_getD, List.getD_eq_getElem?_getD, List.getElem?_eq_none (by omega), List.getElem?_eq_none (by simp [doL]; omega)]
  · rw [List.getElem?_eq_none (by simp; omega), List.getElem?_eq_none (by rw [tab8_len8 (by simp [doL]; omega)]; omega)]
theorem id_tab8 {n : Nat} (hn : n ≤ 3) : idM n = tab8 (List.range (2 ^ n)) := by
  have : n = 0 ∨ n = 1 ∨ n = 2 ∨ n = 3 := by omega
  rcases this with rfl | rfl | rfl | rfl <;> decide
theorem find_mem {n : Nat} {L : List Met} {K : List (List Nat)} {q : List Nat} (ht : L.map (·.tab) = K.map tab8) (hK : ∀ p ∈ K, PermT n p) (hq : PermT n q) : (metFind (tab8 q) L).isSome = true ↔ q ∈ K := by
  unfold metFind
  rw [List.find?_isSome]
  constructor
  · rintro ⟨e, he, h⟩
    have h1 : e.tab ∈ L.map (·.tab) := List.mem_map.2 ⟨e, he, rfl⟩
    rw [ht] at h1
    obtain ⟨p, hp, e1⟩ := List.mem_map.1 h1
    have h2 : tab8 q = e.tab := by simpa using h
    have := tab8_inj ((hK p hp).1.trans hq.1.symm) (e1.trans h2.symm)
    rwa [← this]
  · intro h
    have h1 : tab8 q ∈ L.map (·.tab) := by rw [ht]; exact List.mem_map.2 ⟨q, h, rfl⟩
    obtain ⟨e, he, e1⟩ := List.mem_map.1 h1
    exact ⟨e, he, by simpa using e1.symm⟩
theorem tries_cor {n : Nat} (hn : n ≤ 3) {e : Met} {p : List Nat} (he : e.tab = tab8 p) (hp : PermT n p) : ∀ (gs : List (Nat × List Nat)) (k : Nat) (L : List Met) (K : List (List Nat)), (∀ g ∈ gs, g ∈ gatesM n) → L.map (·.tab) = K.map tab8 → (∀ q ∈ K, PermT n q) →
    (triesR n e gs k L).map (·.tab) = (lvTries p gs K).map tab8 ∧ ∃ R, triesR n e gs k L = L ++ R ∧ ∀ x ∈ R, x.many = e.many + 1
  | [], k, L, K, _, h, _ => ⟨h, [], by simp [triesR], by simp⟩
  | g :: gs, k, L, K, hg, h, hK => by
    have hgm := hg g (by simp)
    have hq := hp.next hgm
    have hf := find_mem h hK hq
    have hnx := next_tab8 (g := g) hn hp
    have e1 : nextT n g e.tab = tab8 (doL g.2 p) := by rw [he, hnx]
    have key : (tryR n e g k L).map (·.tab) = (lvTry p K g).map tab8 ∧ ∃ R, tryR n e g k L = L ++ R ∧ ∀ x ∈ R, x.many = e.many + 1 := by
      unfold tryR lvTry
      rw [e1]
      by_cases hc : doL g.2 p ∈ K
      · rw [if_pos (hf.2 hc), if_pos hc]
        exact ⟨h, [], by simp, by simp⟩
      · rw [if_neg (fun hh => hc (hf.1 hh)), if_neg hc]
        refine ⟨by rw [List.map_append, List.map_append, h]; rfl, _, rfl, fun x hx => ?_⟩
        rw [List.mem_singleton] at hx; subst hx; rfl
    obtain ⟨k1, R, k2, k3⟩ := key
    have hK2 : ∀ q ∈ lvTry p K g, PermT n q := lvTries_perm hp [g] K (fun x hx => by rw [List.mem_singleton] at hx; subst hx; exact hgm) hK
    obtain ⟨j1, S, j2, j3⟩ := tries_cor hn he hp gs (k + 1) (tryR n e g k L) (lvTry p K g) (fun x hx => hg x (by simp [hx])) k1 hK2
    refine ⟨j1, R ++ S, ?_, fun x hx => ?_⟩
    · show triesR n e gs (k + 1) (tryR n e g k L) = _
      rw [j2, k2, List.append_assoc]
    · rw [List.mem_append] at hx
      rcases hx with hx | hx
      · exact k3 x hx
      · exact j3 x hx
/-- The list of what was met, and the levels. -/
structure Cor (n d a b : Nat) (L : List Met) (K : List (List Nat)) : Prop where
  tab : L.map (·.tab) = K.map tab8
  per : ∀ p ∈ K, PermT n p
  lo : ∀ (j : Nat) e, L[j]? = some e → j < a → e.many < d
  mid : ∀ (j : Nat) e, L[j]? = some e → a ≤ j → j < b → e.many = d
  hi : ∀ (j : Nat) e, L[j]? = some e → b ≤ j → e.many = d + 1
  le : a ≤ b ∧ b ≤ L.length
theorem Cor.len {n d a b : Nat} {L : List Met} {K : List (List Nat)} (h : Cor n d a b L K) : L.length = K.length := by
  have := congrArg List.length h.tab
  simpa using this
theorem Cor.at {n d a b : Nat} {L : List Met} {K : List (List Nat)} (h : Cor n d a b L K) {i : Nat} (hi : i < L.length) : ∃ e, L[i]? = some e ∧ e.tab = tab8 (K.getD i []) ∧ PermT n (K.getD i []) := by
  have hk : i < K.length := by rw [← h.len]; exact hi
  refine ⟨L[i], List.getElem?_eq_getElem hi, ?_, ?_⟩
  · have := congrArg (·[i]?) h.tab
    simp only [List.getElem?_map, List.getElem?_eq_getElem hi, List.getElem?_eq_getElem hk, Option.map_some, Option.some.injEq] at this
    rw [this, List.getD_eq_getElem?_getD, List.getElem?_eq_getElem hk]; rfl
  · rw [List.getD_eq_getElem?_getD, List.getElem?_eq_getElem hk]; exact h.per _ (List.getElem_mem _)
theorem Cor.round {n d a b most i : Nat} {L : List Met} {K : List (List Nat)} (hn : n ≤ 3) (h : Cor n d a b L K) (hd : d < most) (h1 : a ≤ i) (h2 : i < b) : ∃ e, L[i]? = some e ∧ Cor n d a b (roundR n most e L) (lvTries (K.getD i []) (gatesM n) K) := by
  have hbl := h.le.2
  obtain ⟨e, he, ht, hp⟩ := h.at (i := i) (by omega)
  have hm := h.mid i e he h1 h2
  refine ⟨e, he, ?_⟩
  unfold roundR
  rw [if_neg (by omega)]
  obtain ⟨j1, R, j2, j3⟩ := tries_cor hn ht hp (gatesM n) 0 L K (fun g hg => hg) h.tab h.per
  refine ⟨j1, lvTries_perm hp _ _ (fun g hg => hg) h.per, ?_, ?_, ?_, ⟨h.le.1, by rw [j2, List.length_append]; omega⟩⟩
  · intro j x hx hj
    rw [j2, List.getElem?_append_left (by have := h.le; omega)] at hx
    exact h.lo j x hx hj
  · intro j x hx hj hj'
    rw [j2, List.getElem?_append_left (by omega)] at hx
    exact h.mid j x hx hj hj'
  · intro j x hx hj
    rw [j2] at hx
    by_cases hl : j < L.length
    · rw [List.getElem?_append_left hl] at hx
      exact h.hi j x hx hj
    · rw [List.getElem?_append_right (by omega)] at hx
      rw [j3 x (List.mem_of_getElem? hx), hm]
theorem Cor.run {n d a b most : Nat} (hn : n ≤ 3) (hd : d < most) : ∀ (c i : Nat) (L : List Met) (K : List (List Nat)), Cor n d a b L K → a ≤ i → i + c ≤ b → ∃ L', Cor n d a b L' (lvRun n c i K) ∧ ∀ f, runR n most (c + f) i L = runR n most f (i + c) L'
  | 0, i, L, K, h, _, _ => ⟨L, h, fun f => by rw [Nat.zero_add, Nat.add_zero]⟩
  | c + 1, i, L, K, h, h1, h2 => by
    obtain ⟨e, he, h3⟩ := h.round hn hd h1 (show i < b by omega)
    obtain ⟨L', k1, k2⟩ := Cor.run hn hd c (i + 1) _ _ h3 (by omega) (by omega)
    refine ⟨L', k1, fun f => ?_⟩
    rw [show c + 1 + f = c + f + 1 by omega, runR, he]
    show runR n most (c + f) (i + 1) (roundR n most e L) = _
    rw [k2, show i + 1 + c = i + (c + 1) by omega]
theorem Cor.next {n d a b : Nat} {L : List Met} {K : List (List Nat)} (h : Cor n d a b L K) : Cor n (d + 1) b L.length L K := by
  refine ⟨h.tab, h.per, fun j e he hj => ?_, fun j e he h1 h2 => h.hi j e he h1, fun j e he h1 => ?_, h.le.2, Nat.le_refl _⟩
  · by_cases hj' : j < a
    · have := h.lo j e he hj'; omega
    · have := h.mid j e he (by omega) hj; omega
  · have := (List.getElem?_eq_some_iff.1 he).1; omega
theorem level_cor {n most : Nat} (hn : n ≤ 3) (hm : most ≤ 4) : ∀ d, d ≤ most → ∃ L, Cor n d (lvS n d).1 (lvS n d).2.length L (lvS n d).2 ∧ L.length = (lvS n d).2.length ∧ reachM n most = runR n most (30000 - (lvS n d).1) (lvS n d).1 L
  | 0, _ => by
    refine ⟨[met0 n], ⟨by simp [lvS, met0, id_tab8 hn], lvS_perm hn 0, fun j e _ hj => by simp [lvS] at hj, fun j e he _ hj => ?_, fun j e he hj => ?_, by simp [lvS]⟩, rfl, rfl⟩
    · have : j = 0 := by simp [lvS] at hj; omega
      subst this
      obtain rfl : met0 n = e := by simpa using he
      rfl
    · have := (List.getElem?_eq_some_iff.1 he).1
      simp [lvS] at hj this; omega
  | d + 1, hd => by
    obtain ⟨L, h1, h2, h3⟩ := level_cor hn hm d (by omega)
    have hl := lvS_len hn d
    have hb := lvS_30000 hn (show d ≤ 4 by omega)
    obtain ⟨L', k1, k2⟩ := Cor.run hn (show d < most by omega) ((lvS n d).2.length - (lvS n d).1) (lvS n d).1 L _ h1 (Nat.le_refl _) (by omega)
    have k3 := k2 (30000 - (lvS n d).2.length)
    rw [show (lvS n d).2.length - (lvS n d).1 + (30000 - (lvS n d).2.length) = 30000 - (lvS n d).1 by omega, show (lvS n d).1 + ((lvS n d).2.length - (lvS n d).1) = (lvS n d).2.length by omega] at k3
    refine ⟨L', ?_, k1.len, by rw [h3, k3]; rfl⟩
    have := k1.next
    rw [k1.len] at this
    exact this
theorem run_skip {n most : Nat} {L : List Met} : ∀ (f i : Nat), (∀ (j : Nat) e, i ≤ j → L[j]? = some e → e.many = most) → runR n most f i L = L
  | 0, i, _ => rfl
  | f + 1, i, h => by
    rw [runR]
    split
    · rename_i e he
      rw [roundR, if_pos (h i e (Nat.le_refl _) he)]
      exact run_skip f (i + 1) fun j x hj hx => h j x (by omega) hx
    · rfl
/-- What is met, level by level. -/
theorem reach_cor {n most : Nat} (hn : n ≤ 3) (hm : most ≤ 4) : Cor n most (lvS n most).1 (lvS n most).2.length (reachM n most) (lvS n most).2 := by
  obtain ⟨L, h1, h2, h3⟩ := level_cor hn hm most (Nat.le_refl _)
  rw [h3, run_skip _ _ fun j e hj he => h1.mid j e he hj (by rw [← h2]; exact (List.getElem?_eq_some_iff.1 he).1)]
  exact h1
end Go.AM

/-! ### R39 -/
namespace Go.AM
open Go.Proofs
set_option maxRecDepth 100000
set_option linter.unusedVariables false
set_option linter.unusedSimpArgs false
theorem bytes34 : bytesOf' Tryd.prog 34 = some 24 := by kernel_rfl
theorem El119 : ElemT Tryd.prog 119 119 1 := ⟨_, _, _, 24, T119, T119, rfl, S34, Z34, rfl, bytes34, by decide, by decide⟩
/-- Rows that may be read, and stay so while a map's place and a list's place are written. -/
def SupR (mb : Nat) (v : Value) (m : Mem) (s : Value) (G : List (List Int)) : Prop := ∃ S : Nat → Prop, (∀ b, S b → b < m.size ∧ b ≠ mb ∧ blkOf v ≠ some b) ∧ (∀ m', (∀ b, S b → Mem.get m' b = Mem.get m b) → RowsAt m' s G) ∧
  ∀ (i : Nat) g, G[i]? = some g → ∃ b cap r c t, s = .slice (some ⟨b, 0, some 1⟩) G.length cap ∧ S b ∧ Mem.get m b = .cells r c ∧ c[i]? = some t ∧ ∀ m', (∀ b, S b → Mem.get m' b = Mem.get m b) → IntsAt m' t g
theorem SupR.rows {mb : Nat} {v s : Value} {m : Mem} {G : List (List Int)} (h : SupR mb v m s G) : RowsAt m s G := by
  obtain ⟨S, _, h2, _⟩ := h; exact h2 m fun _ _ => rfl
theorem SupR.row {mb i : Nat} {v s : Value} {m : Mem} {G : List (List Int)} {g : List Int} (h : SupR mb v m s G) (hi : G[i]? = some g) : ∃ b cap r c t, s = .slice (some ⟨b, 0, some 1⟩) G.length cap ∧ (b < m.size ∧ b ≠ mb) ∧ Mem.get m b = .cells r c ∧ c[i]? = some t ∧ ∀ m', (∀ b, b < m.size → b ≠ mb → Mem.get m' b = Mem.get m b) → IntsAt m' t g := by
  obtain ⟨S, h1, _, h3⟩ := h
  obtain ⟨b, cap, r, c, t, e, hb, hg, ht, hI⟩ := h3 i g hi
  exact ⟨b, cap, r, c, t, e, ⟨(h1 b hb).1, (h1 b hb).2.1⟩, hg, ht, fun m' hm => hI m' fun b hb => hm b (h1 b hb).1 (h1 b hb).2.1⟩
theorem SupR.keep {mb : Nat} {v s : Value} {m m' : Mem} {G : List (List Int)} (h : SupR mb v m s G) (hz : m.size ≤ m'.size) (hk : ∀ b, b < m.size → b ≠ mb → Mem.get m' b = Mem.get m b) : SupR mb v m' s G := by
  obtain ⟨S, h1, h2, h3⟩ := h
  have hS : ∀ b, S b → Mem.get m' b = Mem.get m b := fun b hb => hk b (h1 b hb).1 (h1 b hb).2.1
  exact ⟨S, fun b hb => ⟨by have := (h1 b hb).1; omega, (h1 b hb).2⟩, fun m2 hm => h2 m2 fun b hb => (hm b hb).trans (hS b hb), fun i g hi => by
    obtain ⟨b, cap, r, c, t, e, hb, hg, ht, hI⟩ := h3 i g hi
    exact ⟨b, cap, r, c, t, e, hb, (hS b hb).trans hg, ht, fun m2 hm => hI m2 fun b hb => (hm b hb).trans (hS b hb)⟩⟩
theorem SupR.grew {mb : Nat} {v v' s : Value} {m m' : Mem} {G : List (List Int)} (h : SupR mb v m s G) (hg : Grew m v m' v') : SupR mb v' m' s G := by
  obtain ⟨S, h1, h2, h3⟩ := h
  have hS : ∀ b, S b → Mem.get m' b = Mem.get m b := fun b hb => hg.2.1 b (h1 b hb).1 (h1 b hb).2.2
  exact ⟨S, fun b hb => ⟨by have := (h1 b hb).1; have := hg.1; omega, (h1 b hb).2.1, hg.off (h1 b hb).2.2 (h1 b hb).1⟩, fun m2 hm => h2 m2 fun b hb => (hm b hb).trans (hS b hb), fun i g hi => by
    obtain ⟨b, cap, r, c, t, e, hb, hgt, ht, hI⟩ := h3 i g hi
    exact ⟨b, cap, r, c, t, e, hb, (hS b hb).trans hgt, ht, fun m2 hm => hI m2 fun b hb => (hm b hb).trans (hS b hb)⟩⟩
theorem OwnR.sup {N mb : Nat} {v w : Value} {m : Mem} {cs : Array Value} {G : List (List Int)} (h : OwnR N m w cs G) (hN : mb < N) (hv : ∀ b, blkOf v = some b → b < N) : SupR mb v m w G :=
  ⟨fun b => N ≤ b ∧ b < m.size, fun b hb => ⟨hb.2, by omega, fun e => by have := hv b e; omega⟩, fun m' hm => (h.up fun b h1 h2 => hm b ⟨h1, h2⟩).rows, fun i g hi => by
    have hl := (List.getElem?_eq_some_iff.1 hi).1
    obtain ⟨b, cap, c, e, hb, hg, _, hx⟩ := h.1.at (by omega)
    obtain ⟨t, ht, ho, _⟩ := h.2 i g hi
    exact ⟨b, cap, true, c, t, e, ⟨hb, live hg⟩, hg, by rw [hx i (by omega)]; exact ht, fun m' hm => (ho.up fun b h1 h2 => hm b ⟨h1, h2⟩).ints⟩⟩
/-- Lists of rows. -/
def Lv3 (N mb : Nat) (m : Mem) (v : Value) (cs : Array Value) (D : List (List (List Nat))) : Prop := OwnC N m v 1 D.length cs ∧ ∀ (d : Nat) l, D[d]? = some l → ∃ s, cs[d]? = some s ∧ SupR mb v m s (ofs2 l)
theorem Lv3.keep {N mb : Nat} {m m' : Mem} {v : Value} {cs : Array Value} {D : List (List (List Nat))} (h : Lv3 N mb m v cs D) (hN : mb < N) (hz : m.size ≤ m'.size) (hk : ∀ b, b < m.size → b ≠ mb → Mem.get m' b = Mem.get m b) : Lv3 N mb m' v cs D :=
  ⟨h.1.up fun b h1 h2 => hk b h2 (by omega), fun d l hd => by obtain ⟨s, a1, a2⟩ := h.2 d l hd; exact ⟨s, a1, a2.keep hz hk⟩⟩
theorem Lv3.grew {N mb : Nat} {m m' : Mem} {v v' s : Value} {cs : Array Value} {D : List (List (List Nat))} {l : List (List Nat)} (h : Lv3 N mb m v cs D) (hs : SupR mb v m s (ofs2 l)) (hg : Grew m v m' v') (hc : OwnC N m' v' 1 (D.length + 1) (cs ++ #[s])) : Lv3 N mb m' v' (cs ++ #[s]) (D ++ [l]) := by
  have hsz := h.1.size
  refine ⟨by rw [List.length_append]; exact hc, fun d x hd => ?_⟩
  by_cases hl : d < D.length
  · rw [List.getElem?_append_left hl] at hd
    obtain ⟨u, a1, a2⟩ := h.2 d x hd
    exact ⟨u, by rw [Array.getElem?_append_left (by omega), a1], a2.grew hg⟩
  · rw [List.getElem?_append_right (by omega)] at hd
    have h1 := (List.getElem?_eq_some_iff.1 hd).1
    have h0 : d - D.length = 0 := by simp at h1; omega
    rw [h0] at hd
    obtain rfl : l = x := by simpa using hd
    exact ⟨s, by rw [Array.getElem?_append_right (by omega), show d - cs.size = 0 by omega]; rfl, hs.grew hg⟩
/-- Lists of rows that may be read. -/
def OutAt (m : Mem) (v : Value) (D : List (List (List Nat))) : Prop := ∃ b cap c, v = .slice (some ⟨b, 0, some 1⟩) D.length cap ∧ Mem.get m b = .cells true c ∧ ∀ (d : Nat) l, D[d]? = some l → ∃ s, c[d]? = some s ∧ RowsAt m s (ofs2 l)
theorem Lv3.out {N mb : Nat} {m : Mem} {v : Value} {cs : Array Value} {D : List (List (List Nat))} (h : Lv3 N mb m v cs D) (h0 : 0 < D.length) : OutAt m v D := by
  obtain ⟨b, cap, c, e, hb, g, hc, hx⟩ := h.1.at h0
  refine ⟨b, cap, c, e, g, fun d l hd => ?_⟩
  obtain ⟨s, a1, a2⟩ := h.2 d l hd
  have hl := (List.getElem?_eq_some_iff.1 hd).1
  exact ⟨s, by rw [hx d (by omega)]; exact a1, a2.rows⟩
theorem lvls_len (n d : Nat) : ((List.range (d + 1)).map (lvl n)).length = d + 1 := by simp
theorem code_mem {n : Nat} {q : List Nat} {K : List (List Nat)} (hn : n ≤ 3) (hq : PermT n q) (hK : ∀ p ∈ K, PermT n p) : codeM q ∈ K.map codeM ↔ q ∈ K := by
  have h8 := two_pow3 hn
  constructor
  · intro h
    obtain ⟨p, hp, e⟩ := List.mem_map.1 h
    have hP := hK p hp
    rw [← code_inj (hP.1.trans hq.1.symm) (fun x hx => by have := hP.2 x hx; omega) (fun x hx => by have := hq.2 x hx; omega) e]
    exact hp
  · exact fun h => List.mem_map.2 ⟨q, h, rfl⟩
theorem lvTries_step {p : List Nat} {gs : List (Nat × List Nat)} {K : List (List Nat)} {j : Nat} {g : Nat × List Nat} (h : gs[j]? = some g) : lvTries p (gs.take (j + 1)) K = lvTry p (lvTries p (gs.take j) K) g := by
  unfold lvTries; rw [List.take_add_one, h, List.foldl_append]; rfl
theorem lvRun_get {n c i a : Nat} {K : List (List Nat)} (h : i < K.length) : (lvRun n c a K).getD i [] = K.getD i [] := by
  obtain ⟨R, e, _⟩ := lvRun_app n c a K
  rw [e, List.getD_eq_getElem?_getD, List.getD_eq_getElem?_getD, List.getElem?_append_left h]
theorem keysV_snoc (L : List (List Nat)) (q : List Nat) (h : ¬ codeM q ∈ L.map codeM) : (if codeM q ∈ L.map codeM then L.map codeM else L.map codeM ++ [codeM q]) = (L ++ [q]).map codeM := by
  rw [if_neg h]; simp
theorem okf90 : okF Tryd.prog H0 90 92 = true := by kernel_rfl
theorem spec_Levels {m : Mem} {n most : Nat} (hn : n ≤ 3) (hm : most ≤ 4) : ∃ v m', ACalls Tryd.prog 90 #[nv n, nv most] m v m' ∧ (OutAt m' v ((List.range (most + 1)).map (lvl n)) ∧ Ext m m') := by
  have h8 := two_pow3 hn
  have hp0 : 0 < 2 ^ n := Nat.pow_pos (by decide)
  refine wpF (args := [_, _]) mixed okf90 (fn := Tryd.f90) rfl rfl rfl (by simp) ?_
  refine cSeq ?_
  refine cRegion ?_
  refine sAs (v := .slice _ _ _) rfl ?_
  refine sNil (kSeqN ?_)
  refine cSeq ?_
  refine cRegion ?_
  refine sAs (v := .slice _ _ _) rfl ?_
  refine sNil (kSeqN ?_)
  refine cSeq ?_
  refine cSeq ?_
  refine cRegion ?_
  refine sAs (v := nv 0) rfl ?_
  refine sNil (kSeqN ?_)
  refine cBlock ?_
  refine wpC_loop (fun k ρ m' => ∃ i v, k = 2 ^ n - i ∧ i ≤ 2 ^ n ∧ Ext m m' ∧ OwnF m.size m' v (ofs (List.range i)) ∧ Has ρ [(0, nv n), (1, nv most), (5, v), (6, nv i)]) ⟨0, _, rfl, Nat.zero_le _, .refl _, .nil _ _, rfl, rfl, rfl, rfl, trivial⟩ ?_
  rintro k ρ m' ⟨i, v, rfl, hi, hE, hO, hh⟩
  obtain ⟨qv, cv, rfl⟩ := hO.ints.lenN
  rw [List.length_range] at *
  rw [hh.env]; clear hh
  have hz0 := hE.1
  refine cSeq ?_   -- seq 4
  refine cSeq ?_
  refine cRegion ?_
  refine sMv (v := nv _) rfl ?_
  refine sMv (v := nv _) rfl ?_
  refine sBin rfl rfl (aInt_shl (a := 1) (by omega)) ?_
  rw [Nat.shiftLeft_eq, Nat.one_mul]
  refine sBin (a := i) (b := 2 ^ n) rfl rfl aInt_lss ?_
  refine sNil (kSeqN ?_)
  refine cCond rfl (fun c0 => ?_) (fun c0 => ?_)
  ·
    refine cSkip (kSeqN ?_)
    refine cSeq ?_
    refine cBlock ?_
    refine cRegion ?_
    refine sMv (v := .slice _ _ _) rfl ?_
    refine sMv (v := nv _) rfl ?_
    refine sBuildS T22 S3 Z3 (by decide) (by decide) (by decide) (by kernel_rfl) fill1 rfl ?_
    refine sApp App22 rfl rfl (N := m.size) (hO.ext (.push _ _)) one_ints (by simp; omega) (by simp; omega) fun v3 m3 hO3 hL3 => ?_
    rw [show ofs (List.range i) ++ [Int.ofNat i] = ofs (List.range (i + 1)) by rw [List.range_succ, ofs_append]; rfl] at hO3
    obtain ⟨q3, cp3, rfl⟩ := hO3.ints.lenN
    refine sAs (v := .slice _ _ _) rfl ?_
    refine sNil (kBlkN (kSeqN ?_))
    refine cRegion ?_
    refine sMv (v := nv _) rfl ?_
    refine sBin rfl rfl (aInt_add (b := 1) (by omega)) ?_
    refine sAs (v := nv _) rfl ?_
    refine sNil (kSeqN ?_)
    refine ⟨_, ?_, i + 1, _, rfl, by omega, Low.to_ext (hE.trans (.push _ _)) hL3 (Nat.le_refl _), hO3, rfl, rfl, rfl, rfl, trivial⟩
    omega
  ·
    obtain rfl : i = 2 ^ n := by omega
    have hP0 := PermT.range n
    have hmb : m.size ≤ m'.size := hE.1
    have eM : Ext m' (m'.push (.map true [])) := .push _ _
    have gM : Mem.get (m'.push (.map true [])) m'.size = .map true (keysV []) := gP rfl
    have zM : (m'.push (.map true [])).size = m'.size + 1 := by simp
    refine cExit (kSeqE (kSeqE (kBlkS (kSeqN ?_))))
    refine cSeq ?_
    refine cRegion ?_
    refine sMkMap ?_
    generalize m'.push (.map true []) = M1 at *
    refine sMv (v := .slice _ _ _) rfl ?_
    obtain ⟨v28, m28, h28, rfl, rfl⟩ := spec_code (hO.ext eM).ints (by rw [List.length_range]; omega) (fun x hx => by have := hP0.2 x hx; omega)
    refine sCall1 rfl call131 rfl h28 ?_
    have hup := upd_keys (k := codeM (List.range (2 ^ n))) gM
    refine sO (v := Go.undef) (m' := M1.setIfInBounds m'.size (.map true (keysV (if codeM (List.range (2 ^ n)) ∈ ([] : List Nat) then [] else [] ++ [codeM (List.range (2 ^ n))])))) (opF_eff rfl rfl (congrArg (Option.map fun m' => (Go.undef, m')) hup)) ?_
    rw [if_neg (by simp), List.nil_append]
    have g2 : Mem.get (M1.setIfInBounds m'.size (.map true (keysV [codeM (List.range (2 ^ n))]))) m'.size = .map true (keysV ((lvS n 0).2.map codeM)) := gS rfl (by omega)
    have e2 : Ext m' (M1.setIfInBounds m'.size (.map true (keysV [codeM (List.range (2 ^ n))]))) := eM.set (Nat.le_refl _) _
    have z2 : (M1.setIfInBounds m'.size (.map true (keysV [codeM (List.range (2 ^ n))]))).size = m'.size + 1 := by simp [zM]
    generalize M1.setIfInBounds m'.size (.map true (keysV [codeM (List.range (2 ^ n))])) = M2 at *
    refine sMv (v := .map _) rfl ?_
    refine sAs (v := .map _) rfl ?_
    refine sNil (kSeqN ?_)
    refine cSeq ?_
    refine cRegion ?_
    refine sMv (v := .slice _ _ _) rfl ?_
    refine sBuildS T34 S22 Z22 (by decide) (by decide) (by decide) (by kernel_rfl) fillV rfl ?_
    have e3 : Ext M2 (M2.push (.cells true #[.slice qv (2 ^ n) cv])) := .push _ _
    have g3 : Mem.get (M2.push (.cells true #[.slice qv (2 ^ n) cv])) M2.size = .cells true #[.slice qv (2 ^ n) cv] := gP rfl
    have z3 : (M2.push (.cells true #[.slice qv (2 ^ n) cv])).size = M2.size + 1 := by simp
    generalize M2.push (.cells true #[.slice qv (2 ^ n) cv]) = M3 at *
    refine sBuildS T119 S34 Z34 (by decide) (by decide) (by decide) (by kernel_rfl) fillV rfl ?_
    have e4 : Ext M3 (M3.push (.cells true #[.slice (some ⟨M2.size, 0, some 1⟩) 1 1])) := .push _ _
    have g4 : Mem.get (M3.push (.cells true #[.slice (some ⟨M2.size, 0, some 1⟩) 1 1])) M3.size = .cells true #[.slice (some ⟨M2.size, 0, some 1⟩) 1 1] := gP rfl
    have z4 : (M3.push (.cells true #[.slice (some ⟨M2.size, 0, some 1⟩) 1 1])).size = M3.size + 1 := by simp
    have gmb : Mem.get (M3.push (.cells true #[.slice (some ⟨M2.size, 0, some 1⟩) 1 1])) m'.size = .map true (keysV ((lvS n 0).2.map codeM)) := (e4.2 _ (by omega)).trans ((e3.2 _ (by omega)).trans g2)
    have E4 : Ext m (M3.push (.cells true #[.slice (some ⟨M2.size, 0, some 1⟩) 1 1])) := ((hE.trans e2).trans e3).trans e4
    have hL3 : Lv3 (m'.size + 1) m'.size (M3.push (.cells true #[.slice (some ⟨M2.size, 0, some 1⟩) 1 1])) (.slice (some ⟨M3.size, 0, some 1⟩) 1 1) #[.slice (some ⟨M2.size, 0, some 1⟩) 1 1] ((List.range 1).map (lvl n)) := by
      refine ⟨.inr ⟨M3.size, 1, _, rfl, by omega, g4, Nat.le_refl _, rfl, rfl, fun i _ => rfl⟩, fun d l hd => ?_⟩
      have h1 := (List.getElem?_eq_some_iff.1 hd).1
      obtain rfl : d = 0 := by simp at h1; exact h1
      obtain rfl : lvl n 0 = l := by simpa using hd
      have hone : ∀ (i : Nat) (g : List Int), (ofs2 (lvl n 0))[i]? = some g → i = 0 ∧ ofs (List.range (2 ^ n)) = g := fun i g hi => by
        have h2 := (List.getElem?_eq_some_iff.1 hi).1
        obtain rfl : i = 0 := by simp [ofs2, lvl, lvS] at h2; exact h2
        exact ⟨rfl, by simpa [ofs2, lvl, lvS] using hi⟩
      have hrow : ∀ m2 : Mem, (∀ b, b < m'.size ∨ b = M2.size → Mem.get m2 b = Mem.get (M3.push (.cells true #[.slice (some ⟨M2.size, 0, some 1⟩) 1 1])) b) → IntsAt m2 (.slice qv (2 ^ n) cv) (ofs (List.range (2 ^ n))) := fun m2 hm2 =>
        (hO.up (m' := m2) fun b h1 h2 => (hm2 b (.inl h2)).trans (((e2.trans e3).trans e4).2 b h2)).ints
      refine ⟨_, rfl, fun b => b < m'.size ∨ b = M2.size, fun b hb => ⟨by omega, by omega, fun e => by have : M3.size = b := Option.some.inj e; omega⟩, fun m2 hm2 => ?_, fun i g hi => ?_⟩
      refine .inr ⟨M2.size, 0, 1, true, #[.slice qv (2 ^ n) cv], rfl, (hm2 _ (.inr rfl)).trans ((e4.2 _ (by omega)).trans g3), fun i g hi => ?_⟩
      obtain ⟨rfl, rfl⟩ := hone i g hi
      exact ⟨_, rfl, hrow m2 hm2⟩
      obtain ⟨rfl, rfl⟩ := hone i g hi
      exact ⟨M2.size, 1, true, _, _, rfl, .inr rfl, (e4.2 _ (by omega)).trans g3, rfl, hrow⟩
    generalize M3.push (.cells true #[.slice (some ⟨M2.size, 0, some 1⟩) 1 1]) = M4 at *
    generalize hmbe : m'.size = mb at *
    refine sAs (v := .slice _ _ _) rfl ?_
    refine sNil (kSeqN ?_)
    refine cSeq ?_
    refine cBlock ?_
    refine wpC_loop (fun k ρ m' => ∃ d v cs, k = most - d ∧ d ≤ most ∧ Ext m m' ∧ mb < m'.size ∧ Mem.get m' mb = .map true (keysV ((lvS n d).2.map codeM)) ∧ Lv3 (mb + 1) mb m' v cs ((List.range (d + 1)).map (lvl n)) ∧ Has ρ [(0, nv n), (1, nv most), (7, .map (some mb)), (8, v)]) ⟨0, _, _, rfl, Nat.zero_le _, E4, by omega, gmb, hL3, rfl, rfl, rfl, rfl, trivial⟩ ?_
    clear hL3 gmb E4 g4 g3 g2 e2 e3 e4 hO hE
    rintro k ρ m' ⟨d, v, cs, rfl, hd, hE, hzb, gmb, hL3, hh⟩
    obtain ⟨qo, co, rfl⟩ := hL3.1.len
    have hDl := lvls_len n d
    rw [hDl] at hh
    rw [hh.env]; clear hh
    refine cSeq ?_   -- seq 10
    refine cSeq ?_
    refine cRegion ?_
    refine sMv (v := .slice _ _ _) rfl ?_
    refine sLen T119 rfl ?_
    refine sMv (v := nv _) rfl ?_
    refine sBin (a := d + 1) (b := most) rfl rfl aInt_leq ?_
    refine sNil (kSeqN ?_)
    refine cCond rfl (fun c1 => ?_) (fun c1 => ?_)
    ·
      obtain ⟨hK1, hK2, hK3⟩ := lvS_len hn d
      have hKb := lvS_30000 (d := d) hn (by omega)
      have hKb1 := lvS_30000 (d := d + 1) hn (by omega)
      have hll : (lvl n d).length = (lvS n d).2.length - (lvS n d).1 := by unfold lvl; rw [List.length_drop]
      obtain ⟨bo, capo, cO, eo, hbo, gO, hcO, xO⟩ := hL3.1.at (by rw [hDl]; omega)
      rw [hDl] at eo hcO xO
      cases eo
      obtain ⟨sd, hsd, hsup⟩ := hL3.2 d (lvl n d) (by rw [List.getElem?_map, List.getElem?_range (by omega)]; rfl)
      obtain ⟨q42, c42, rfl⟩ := hsup.rows.len
      rw [ofs2_length] at *
      refine cSkip (kSeqN ?_)
      refine cBlock ?_
      refine cSeq ?_
      refine cRegion ?_
      refine sAs (v := .slice _ _ _) rfl ?_
      refine sNil (kSeqN ?_)
      refine cSeq ?_
      refine cSeq ?_
      refine cRegion ?_
      refine sMv (v := .slice _ _ _) rfl ?_
      refine sMv (v := .slice _ _ _) rfl ?_
      refine sLen T119 rfl ?_
      refine sBin (v := nv d) rfl rfl (aInt_sub (a := d + 1) (b := 1) (by omega)) ?_
      refine sIx T119 S34 rfl rfl (by omega) ?_
      refine sLd (v := .slice q42 (lvl n d).length c42) A34 rfl gO (by rw [Nat.zero_add, Nat.mul_one, xO d (by omega)]; exact hsd) ?_
      refine sLen T34 rfl ?_
      refine sMv (v := nv 0) rfl ?_
      refine sNil (kSeqN ?_)
      refine cBlock ?_
      refine wpC_loop (fun k ρ m2 => ∃ i w cs9, k = (lvl n d).length - i ∧ i ≤ (lvl n d).length ∧ m'.size ≤ m2.size ∧ (∀ b, b < m'.size → b ≠ mb → Mem.get m2 b = Mem.get m' b) ∧ Mem.get m2 mb = .map true (keysV ((lvRun n i (lvS n d).1 (lvS n d).2).map codeM)) ∧ OwnR m'.size m2 w cs9 (ofs2 ((lvRun n i (lvS n d).1 (lvS n d).2).drop (lvS n d).2.length)) ∧ Has ρ [(0, nv n), (1, nv most), (7, .map (some mb)), (8, .slice (some ⟨bo, 0, some 1⟩) (d + 1) co), (9, w), (42, .slice q42 (lvl n d).length c42), (43, nv (lvl n d).length), (44, nv i)]) ⟨0, _, #[], rfl, Nat.zero_le _, Nat.le_refl _, fun _ _ _ => rfl, gmb, by rw [lvRun, List.drop_length]; exact .nil _ _, rfl, rfl, rfl, rfl, rfl, rfl, rfl, rfl, trivial⟩ ?_
      rintro k ρ m2 ⟨i, w, cs9, rfl, hi, hz2, hk2, gm2, hO9, hh⟩
      obtain ⟨q9, c9, rfl⟩ := hO9.1.len
      rw [hh.env]; clear hh
      rw [ofs2_length] at *
      refine cSeq ?_
      refine cRegion ?_
      refine sBin rfl rfl (aInt_lss) ?_
      refine sNil (kSeqN ?_)
      refine cSeq ?_   -- seq 16
      refine cCond rfl (fun c2 => ?_) (fun c2 => ?_)
      ·
        obtain ⟨R, hRe, hRl⟩ := lvRun_app n i (lvS n d).1 (lvS n d).2
        have hgl := gatesM_len hn
        have hRl2 : i * (gatesM n).length ≤ i * 12 := Nat.mul_le_mul_left i hgl
        have hKp : ∀ q ∈ lvRun n i (lvS n d).1 (lvS n d).2, PermT n q := lvRun_perm i _ _ (by omega) (lvS_perm hn d)
        obtain ⟨p, hp⟩ : ∃ p, (lvl n d)[i]? = some p := ⟨_, List.getElem?_eq_getElem c2⟩
        have hpK : (lvS n d).2.getD ((lvS n d).1 + i) [] = p := by
          unfold lvl at hp
          rw [List.getElem?_drop] at hp
          rw [List.getD_eq_getElem?_getD, hp]; rfl
        have hpP : PermT n p := lvl_perm hn p (List.mem_of_getElem? hp)
        obtain ⟨b1, cap1, r1, cd, s1, e1, ⟨hb1, hbm1⟩, g1, hs1, ha1⟩ := hsup.row (ofs2_get hp)
        rw [ofs2_length] at e1
        cases e1
        obtain ⟨qs, csz, rfl⟩ := (ha1 m2 hk2).lenN
        have g1' := (hk2 b1 hb1 hbm1).trans g1
        have hpl : p.length = 2 ^ n := hpP.1
        rw [hpl] at hs1 ha1
        have hst := lvRun_step n i (lvS n d).1 (lvS n d).2
        rw [lvRun_get (by omega), hpK] at hst
        generalize lvRun n i (lvS n d).1 (lvS n d).2 = Ki at *
        refine cSkip (kSeqN ?_)
        refine cSeq ?_
        refine cBlock ?_
        refine cSeq ?_
        refine cRegion ?_
        refine sIx T34 S22 rfl rfl (by omega) ?_
        refine sLd (v := .slice qs (2 ^ n) csz) A22 rfl g1' (by rw [Nat.zero_add, Nat.mul_one]; exact hs1) ?_
        refine sAs (v := .slice _ _ _) rfl ?_
        refine sNil (kSeqN ?_)
        refine cSeq ?_
        refine cRegion ?_
        refine sMv (v := nv _) rfl ?_
        obtain ⟨v49, m49, h49, cs49, o49, e49⟩ := spec_rGates (m := m2) hn
        obtain ⟨q49, c49, rfl⟩ := o49.1.len
        refine sCall1 rfl call132 rfl h49 ?_
        have z49 := e49.1
        refine sLen T28 rfl ?_
        refine sMv (v := nv 0) rfl ?_
        refine sNil (kSeqN ?_)
        refine cBlock ?_
        refine wpC_loop (fun k ρ m3 => ∃ j w cs9, k = (gatesM n).length - j ∧ j ≤ (gatesM n).length ∧ m49.size ≤ m3.size ∧ (∀ b, b < m'.size → b ≠ mb → Mem.get m3 b = Mem.get m' b) ∧ (∀ b, m2.size ≤ b → b < m49.size → Mem.get m3 b = Mem.get m49 b) ∧ Mem.get m3 mb = .map true (keysV ((lvTries p ((gatesM n).take j) Ki).map codeM)) ∧ OwnR m'.size m3 w cs9 (ofs2 ((lvTries p ((gatesM n).take j) Ki).drop (lvS n d).2.length)) ∧ (∀ b, blkOf w = some b → b < m2.size ∨ m49.size ≤ b) ∧ Has ρ [(0, nv n), (1, nv most), (7, .map (some mb)), (8, .slice (some ⟨bo, 0, some 1⟩) (d + 1) co), (9, w), (11, .slice qs (2 ^ n) csz), (42, .slice (some ⟨b1, 0, some 1⟩) (lvl n d).length c42), (43, nv (lvl n d).length), (44, nv i), (49, .slice q49 (gatesM n).length c49), (50, nv (gatesM n).length), (51, nv j)]) ⟨0, _, cs9, rfl, Nat.zero_le _, Nat.le_refl _, fun b h1 h2 => (e49.2 b (by omega)).trans (hk2 b h1 h2), fun _ _ _ => rfl, (e49.2 _ (by omega)).trans gm2, hO9.ext e49, fun b hb => .inl (hO9.1.lt hb).2, rfl, rfl, rfl, rfl, rfl, rfl, rfl, rfl, rfl, rfl, rfl, rfl, trivial⟩ ?_
        rintro k ρ m3 ⟨j, w, cs9', rfl, hj, hz3, hk3, hg3, gm3, hO3, hw3, hh⟩
        obtain ⟨q9', c9', rfl⟩ := hO3.1.len
        rw [hh.env]; clear hh
        rw [ofs2_length] at *
        refine cSeq ?_
        refine cRegion ?_
        refine sBin rfl rfl (aInt_lss) ?_
        refine sNil (kSeqN ?_)
        refine cSeq ?_   -- seq 21
        refine cCond rfl (fun c3 => ?_) (fun c3 => ?_)
        ·
          obtain ⟨g, hg⟩ : ∃ g, (gatesM n)[j]? = some g := ⟨_, List.getElem?_eq_getElem c3⟩
          have hgm := List.mem_of_getElem? hg
          obtain ⟨gw1, gw2, gw3⟩ := gatesM_lt hgm
          have hgk : g.1 = kindM (g.2.length - 1) := by
            obtain ⟨kk, cc, _, _, _, rfl⟩ := gatesM_ok hgm
            simp [gateOfM]
          obtain ⟨R2, hR2, hRl3⟩ := lvTries_app p ((gatesM n).take j) Ki
          have hKlen : (lvTries p ((gatesM n).take j) Ki).length ≤ 22621 + 20736 * 12 + 12 := by
            rw [hR2, List.length_append, hRe, List.length_append]
            rw [List.length_take] at hRl3
            have : 12 ^ d ≤ 12 ^ 4 := Nat.pow_le_pow_right (by decide) (by omega)
            omega
          have hKjp := lvTries_perm hpP ((gatesM n).take j) Ki (fun g hg => List.mem_of_mem_take hg) hKp
          have hq := hpP.next hgm
          have hcode := code_mem hn hq hKjp
          have hstep := lvTries_step (p := p) (K := Ki) hg
          have hKge : (lvS n d).2.length ≤ (lvTries p ((gatesM n).take j) Ki).length := by rw [hR2, List.length_append, hRe, List.length_append]; omega
          generalize lvTries p ((gatesM n).take j) Ki = Kj at *
          have oG : OwnG m2.size m3 (.slice q49 (gatesM n).length c49) cs49 (gatesM n) := o49.up fun b h1 h2 => hg3 b h1 h2
          obtain ⟨b5, p5, cc, e5, hb5, g5, hc5, x5⟩ := oG.1.at (by omega)
          cases e5
          obtain ⟨s5, hs50, hs51, hs52, hs53, hso, hsb⟩ := oG.2 j g hg
          obtain ⟨qg, cg, rfl⟩ := hso.ints.lenN
          have hex : cc.extract (0 + j * 4) (0 + j * 4 + 4) = #[nv g.1, .slice qg g.2.length cg, nv 0, nv 0] := quad_at (by rw [x5 _ (by omega)]; exact hs50) (by rw [x5 _ (by omega)]; exact hs51) (by rw [x5 _ (by omega)]; exact hs52) (by rw [x5 _ (by omega)]; exact hs53)
          refine cSkip (kSeqN ?_)
          refine cSeq ?_
          refine cBlock ?_
          refine cSeq ?_
          refine cRegion ?_
          refine sIx T28 S49 rfl rfl (by omega) ?_
          refine sLdA A49 S49 rfl g5 (by omega) ?_
          rw [hex]
          have e6 : Ext m3 (m3.push (.cells true #[nv g.1, .slice qg g.2.length cg, nv 0, nv 0])) := .push _ _
          have g6 : Mem.get (m3.push (.cells true #[nv g.1, .slice qg g.2.length cg, nv 0, nv 0])) m3.size = .cells true #[nv g.1, .slice qg g.2.length cg, nv 0, nv 0] := gP rfl
          have z6 : (m3.push (.cells true #[nv g.1, .slice qg g.2.length cg, nv 0, nv 0])).size = m3.size + 1 := by simp
          refine sAllocB (bl := m3.size) rfl Z49 (by kernel_rfl) ?_
          refine sStNAB rfl S49 rfl rfl rfl rfl (by kernel_rfl) ?_
          generalize m3.push (.cells true #[nv g.1, .slice qg g.2.length cg, nv 0, nv 0]) = M6 at *
          refine sNil (kSeqN ?_)
          refine cSeq ?_
          refine cRegion ?_
          refine sBuildS (c := #[]) T22 S3 Z3 (by decide) (by decide) (by decide) (by kernel_rfl) rfl rfl ?_
          refine sMv (v := .slice _ _ _) rfl ?_
          have ha3 := ha1 m3 hk3
          refine sApp App22 rfl rfl (N := M6.size) (p := []) (.inr ⟨M6.size, 0, #[], rfl, Nat.le_refl _, gP rfl, by simp, by simp, by simp⟩) ((ha3.ext e6).ext (.push _ _)) (by simp) (by simp; omega) fun v7 m7 hO7 hL7 => ?_
          rw [List.nil_append] at hO7
          have e7 : Ext M6 m7 := hL7.to_ext (.push _ _) (Nat.le_refl _)
          obtain ⟨rb, cap7, cF, rfl, hrb, gr, hcs0, hcF⟩ : ∃ rb cap cF, v7 = .slice (some ⟨rb, 0, some 1⟩) (2 ^ n) cap ∧ M6.size ≤ rb ∧ Mem.get m7 rb = .cells true cF ∧ (2 ^ n ≤ cap ∧ cF.size = cap) ∧ ∀ (i x : Nat), p[i]? = some x → cF[i]? = some (nv x) := by
            rcases hO7 with ⟨h, _⟩ | ⟨b, cap, c, h1, h2, h3, h4, h5, h6⟩
            · exfalso; have := congrArg List.length h; rw [ofs_length, hpP.1] at this; simp at this
            · rw [ofs_length, hpP.1] at h1 h4
              refine ⟨b, cap, c, h1, h2, h3, ⟨by omega, by omega⟩, fun i x hx => h6 i x ?_⟩
              simp only [ofs, List.getElem?_map, hx]; rfl
          have z7 := e7.1
          have g7 := e7.cells g6
          refine sAs (v := .slice _ _ _) rfl ?_
          refine sNil (kSeqN ?_)
          refine cSeq ?_
          refine cSeq ?_
          refine cRegion ?_
          refine sMv (v := .slice _ _ _) rfl ?_
          refine sLen T22 rfl ?_
          refine sMv (v := nv 0) rfl ?_
          refine sNil (kSeqN ?_)
          refine cBlock ?_
          refine wpC_loop (fun k3 ρ M => ∃ x c', k3 = 2 ^ n - x ∧ x ≤ 2 ^ n ∧ m7.size ≤ M.size ∧ Mem.get M rb = .cells true c' ∧ c'.size = cF.size ∧ (∀ (q y : Nat), p[q]? = some y → c'[q]? = some (nv (if q < x then turnM y g.2 else y))) ∧ (∀ b, b < m7.size → b ≠ rb → Mem.get M b = Mem.get m7 b) ∧ Has ρ [(0, nv n), (1, nv most), (7, .map (some mb)), (8, .slice (some ⟨bo, 0, some 1⟩) (d + 1) co), (9, .slice q9' (Kj.drop (lvS n d).2.length).length c9'), (11, .slice qs (2 ^ n) csz), (13, .pointer (some ⟨m3.size, 0, none⟩)), (14, .slice (some ⟨rb, 0, some 1⟩) (2 ^ n) cap7), (42, .slice (some ⟨b1, 0, some 1⟩) (lvl n d).length c42), (43, nv (lvl n d).length), (44, nv i), (49, .slice (some ⟨b5, 0, some 4⟩) (gatesM n).length c49), (50, nv (gatesM n).length), (51, nv j), (58, .slice (some ⟨rb, 0, some 1⟩) (2 ^ n) cap7), (59, nv (2 ^ n)), (60, nv x)]) ⟨0, cF, rfl, Nat.zero_le _, Nat.le_refl _, gr, rfl, fun q y hy => by rw [if_neg (by omega)]; exact hcF q y hy, fun _ _ _ => rfl, rfl, rfl, rfl, rfl, rfl, rfl, rfl, rfl, rfl, rfl, rfl, rfl, rfl, rfl, rfl, rfl, rfl, trivial⟩ ?_
          rintro k3 ρ M ⟨x, c', rfl, hx, hzM, gr', hcs', hcv, hke, hh⟩
          rw [hh.env]; clear hh
          refine cSeq ?_
          refine cRegion ?_
          refine sBin rfl rfl (aInt_lss) ?_
          refine sNil (kSeqN ?_)
          refine cSeq ?_   -- seq 28
          refine cCond rfl (fun c4 => ?_) (fun c4 => ?_)
          ·
            obtain ⟨y, hy⟩ : ∃ y, p[x]? = some y := ⟨_, List.getElem?_eq_getElem (by rw [hpP.1]; exact c4)⟩
            have hyl := hpP.2 y (List.mem_of_getElem? hy)
            have hci := hcv x y hy
            rw [if_neg (by omega)] at hci
            refine cSkip (kSeqN ?_)
            refine cSeq ?_
            refine cBlock ?_
            refine cSeq ?_
            refine cRegion ?_
            refine sMv (v := nv _) rfl ?_
            refine sAs (v := nv _) rfl ?_
            refine sNil (kSeqN ?_)
            refine cDraw rfl ?_
            refine sMv (v := .slice _ _ _) rfl ?_
            refine sMv (v := nv _) rfl ?_
            refine sLdAll A49 S49 rfl ((hke _ (by omega) (by omega)).trans g7) rfl ?_
            refine sMv (v := .slice _ _ _) rfl ?_
            refine sMv (v := nv _) rfl ?_
            refine sIx T22 S3 rfl rfl (by omega) ?_
            refine sLd (v := nv y) A3 rfl gr' (by simpa using hci) ?_
            obtain ⟨v70, m70, h70, rfl, e70⟩ := spec_Done (m := M) (N := m2.size) (kd := g.1) (x := y) (w := g.2) (((hso.ext e6).ext e7).keep fun b hb => hke b (by have := (hso.lt hb).2; omega) (by have := (hso.lt hb).2; omega)) gw2 gw3 hgk (fun z hz => by have := gw1 z hz; omega) (by omega)
            refine sCall2 rfl call82 rfl rfl h70 ?_
            have gr70 := e70.cells gr'
            have z70 := e70.1
            refine sIx T22 S3 rfl rfl (by omega) ?_
            refine sSt (v := nv _) S3 rfl rfl gr70 (by simp; omega) rfl rfl ?_
            refine sNil (kBlkN (kSeqN ?_))
            refine cRegion ?_
            refine sBin rfl rfl (aInt_add (b := 1) (by omega)) ?_
            refine sMv (v := nv _) rfl ?_
            refine sNil (kSeqN ?_)
            refine ⟨_, ?_, x + 1, _, rfl, by omega, by simp; omega, gS rfl (live gr70), by simp [hcs'], fun q z hz => ?_, fun b h1 h2 => ?_, rfl, rfl, rfl, rfl, rfl, rfl, rfl, rfl, rfl, rfl, rfl, rfl, rfl, rfl, rfl, rfl, rfl, trivial⟩
            · omega
            · rw [Array.getElem?_setIfInBounds]
              by_cases hji : q = x
              · subst hji
                rw [hy] at hz
                obtain rfl := Option.some.inj hz
                rw [if_pos (by simp), if_pos (by simp; omega), if_pos (by omega)]
              · rw [if_neg (by simp; omega), hcv q z hz]
                congr 2
                by_cases h : q < x
                · rw [if_pos h, if_pos (by omega)]
                · rw [if_neg h, if_neg (by omega)]
            · rw [gSn (by omega), e70.2 b (by omega)]; exact hke b h1 h2
          ·
            obtain rfl : x = 2 ^ n := by omega
            have oQ : OwnF M6.size M (.slice (some ⟨rb, 0, some 1⟩) (2 ^ n) cap7) (ofs (doL g.2 p)) := by
              refine .inr ⟨rb, cap7, c', by rw [ofs_length, hq.1], hrb, gr', by rw [ofs_length, hq.1]; omega, by omega, fun q z hz => ?_⟩
              simp only [ofs, doL, List.map_map, List.getElem?_map, Option.map_eq_some_iff] at hz
              obtain ⟨y, hy, rfl⟩ := hz
              have := hcv q y hy
              rwa [if_pos (by have := (List.getElem?_eq_some_iff.1 hy).1; rw [hpP.1] at this; exact this)] at this
            have gmM : Mem.get M mb = .map true (keysV (Kj.map codeM)) := (hke mb (by omega) (by omega)).trans ((e7.2 _ (by omega)).trans ((e6.2 _ (by omega)).trans gm3))
            have lowM : ∀ b, b < m3.size → Mem.get M b = Mem.get m3 b := fun b hb => (hke b (by omega) (by omega)).trans ((e7.2 _ (by omega)).trans (e6.2 _ hb))
            have oM : OwnR m'.size M (.slice q9' (Kj.drop (lvS n d).2.length).length c9') cs9' (ofs2 (Kj.drop (lvS n d).2.length)) := hO3.up fun b _ h2 => lowM b h2
            refine cExit (kSeqE (kSeqE (kBlkS (kSeqN ?_))))
            refine cSeq ?_
            refine cRegion ?_
            refine sMv (v := .map _) rfl ?_
            refine sMv (v := .slice _ _ _) rfl ?_
            obtain ⟨v75, m75, h75, rfl, rfl⟩ := spec_code oQ.ints (by rw [hq.1]; omega) (fun z hz => by have := hq.2 z hz; omega)
            refine sCall1 rfl call131 rfl h75 ?_
            refine sO (v := .bool (decide (codeM (doL g.2 p) ∈ Kj.map codeM))) (opF_read rfl (look_keys gmM)) ?_
            refine sP (v := .bool (decide (¬ codeM (doL g.2 p) ∈ Kj.map codeM))) (by
              show some (Value.bool (!decide (codeM (doL g.2 p) ∈ Kj.map codeM))) = _
              rw [decide_not]) ?_
            refine sNil (kSeqN ?_)
            refine cCond (p := ¬ codeM (doL g.2 p) ∈ Kj.map codeM) rfl (fun c5 => ?_) (fun c5 => ?_)
            ·
              have hnm : ¬ doL g.2 p ∈ Kj := fun h => c5 (hcode.2 h)
              have hstep' : lvTries p ((gatesM n).take (j + 1)) Ki = Kj ++ [doL g.2 p] := by rw [hstep, lvTry, if_neg hnm]
              refine cSeq ?_
              refine cRegion ?_
              refine sMv (v := .map _) rfl ?_
              refine sMv (v := .slice _ _ _) rfl ?_
              obtain ⟨v80, m80, h80, rfl, rfl⟩ := spec_code oQ.ints (by rw [hq.1]; omega) (fun z hz => by have := hq.2 z hz; omega)
              refine sCall1 rfl call131 rfl h80 ?_
              have hup := upd_keys (k := codeM (doL g.2 p)) gmM
              rw [keysV_snoc _ _ c5] at hup
              refine sO (v := Go.undef) (m' := M.setIfInBounds mb (.map true (keysV ((Kj ++ [doL g.2 p]).map codeM)))) (opF_eff rfl rfl (congrArg (Option.map fun m' => (Go.undef, m')) hup)) ?_
              have gm8 : Mem.get (M.setIfInBounds mb (.map true (keysV ((Kj ++ [doL g.2 p]).map codeM)))) mb = .map true (keysV ((Kj ++ [doL g.2 p]).map codeM)) := gS rfl (by omega)
              have ne8 : ∀ b, b ≠ mb → Mem.get (M.setIfInBounds mb (.map true (keysV ((Kj ++ [doL g.2 p]).map codeM)))) b = Mem.get M b := fun b hb => gSn (fun e => hb e.symm)
              have z8 : (M.setIfInBounds mb (.map true (keysV ((Kj ++ [doL g.2 p]).map codeM)))).size = M.size := by simp
              generalize M.setIfInBounds mb (.map true (keysV ((Kj ++ [doL g.2 p]).map codeM))) = M8 at *
              have oM8 := oM.up (m' := M8) fun b h1 h2 => ne8 b (by omega)
              have oQ8 := oQ.up (m' := M8) fun b h1 h2 => ne8 b (by omega)
              refine sNil (kSeqN ?_)
              refine cRegion ?_
              refine sMv (v := .slice _ _ _) rfl ?_
              refine sMv (v := .slice _ _ _) rfl ?_
              refine sBuildS T34 S22 Z22 (by decide) (by decide) (by decide) (by kernel_rfl) fillV rfl ?_
              refine sAppC El22 rfl rfl (N := m'.size) (n := (Kj.drop (lvS n d).2.length).length) (cs := cs9') (d := #[.slice (some ⟨rb, 0, some 1⟩) (2 ^ n) cap7]) (by have := (oM8.1).ext (.push M8 (.cells true #[.slice (some ⟨rb, 0, some 1⟩) (2 ^ n) cap7])); rw [ofs2_length] at this; exact this) (gP rfl) rfl (by kernel_rfl) (by simp; omega) (by rw [List.length_drop]; omega) fun v' m9 hO9' hL9 hG9 => ?_
              have hgr := (oM8.ext (.push _ _)).grew ((oQ8.mono (by omega)).ext (.push _ _)) (fun b hb e => by
                have h1 := (oQ8.lt hb).1
                have h2 := (hO3.1.lt e).2
                omega) hG9 (by rw [ofs2_length]; exact hO9')
              rw [← ofs2_append] at hgr
              obtain ⟨q9n, c9n, rfl⟩ := hO9'.len
              have z9 := hL9.1
              simp only [Array.size_push] at z9
              have low9 : ∀ b, b < m3.size → b ≠ mb → blkOf (.slice q9' (Kj.drop (lvS n d).2.length).length c9') ≠ some b → Mem.get m9 b = Mem.get m3 b := fun b h1 h2 h3 => by
                rw [hG9.2.1 b (by simp; omega) h3, gPn (by omega), ne8 b h2]; exact lowM b h1
              refine sAs (v := .slice _ _ _) rfl ?_
              refine sNil (kBlkN (kSeqN ?_))
              refine cRegion ?_
              refine sBin rfl rfl (aInt_add (b := 1) (by omega)) ?_
              refine sMv (v := nv _) rfl ?_
              refine sNil (kSeqN ?_)
              refine ⟨_, ?_, j + 1, _, cs9' ++ #[.slice (some ⟨rb, 0, some 1⟩) (2 ^ n) cap7], rfl, by omega, by omega, fun b h1 h2 => ?_, fun b h1 h2 => ?_, ?_, ?_, ?_, rfl, rfl, rfl, rfl, rfl, rfl, rfl, rfl, rfl, rfl, rfl, rfl, trivial⟩
              · omega
              · rw [low9 b (by omega) h2 (fun e => by have := (hO3.1.lt e).1; omega)]; exact hk3 b h1 h2
              · rw [low9 b (by omega) (by omega) (fun e => by have := hw3 b e; omega)]; exact hg3 b h1 h2
              · rw [hstep', hL9.2 mb (by omega), gPn (by omega)]; exact gm8
              · rw [hstep', List.drop_append_of_le_length hKge]; exact hgr
              · intro b hb
                rcases hG9.2.2 with e | ⟨b', e, hb'⟩
                · exact hw3 b (e.symm.trans hb)
                · have hbb : b' = b := Option.some.inj (e.symm.trans hb)
                  simp at hb'; omega
            ·
              have hnm : doL g.2 p ∈ Kj := hcode.1 (Decidable.not_not.1 c5)
              have hstep' : lvTries p ((gatesM n).take (j + 1)) Ki = Kj := by rw [hstep, lvTry, if_pos hnm]
              refine cSkip (kBlkN (kSeqN ?_))
              refine cRegion ?_
              refine sBin rfl rfl (aInt_add (b := 1) (by omega)) ?_
              refine sMv (v := nv _) rfl ?_
              refine sNil (kSeqN ?_)
              refine ⟨_, ?_, j + 1, _, cs9', rfl, by omega, by omega, fun b h1 h2 => (lowM b (by omega)).trans (hk3 b h1 h2), fun b h1 h2 => (lowM b (by omega)).trans (hg3 b h1 h2), ?_, ?_, hw3, rfl, rfl, rfl, rfl, rfl, rfl, rfl, rfl, rfl, rfl, rfl, rfl, trivial⟩
              · omega
              · rw [hstep']; exact gmM
              · rw [hstep']; exact oM
        ·
          obtain rfl : j = (gatesM n).length := by omega
          rw [List.take_length, ← hst] at *
          refine cExit (kSeqE (kSeqE (kBlkS (kBlkN (kSeqN ?_)))))
          refine cRegion ?_
          refine sBin rfl rfl (aInt_add (b := 1) (by omega)) ?_
          refine sMv (v := nv _) rfl ?_
          refine sNil (kSeqN ?_)
          refine ⟨_, ?_, i + 1, _, cs9', rfl, by omega, by omega, hk3, gm3, hO3, rfl, rfl, rfl, rfl, rfl, rfl, rfl, rfl, trivial⟩
          omega
      ·
        obtain rfl : i = (lvl n d).length := by omega
        have hnext : lvRun n (lvl n d).length (lvS n d).1 (lvS n d).2 = (lvS n (d + 1)).2 := by rw [hll]; rfl
        have hnl : (lvRun n (lvl n d).length (lvS n d).1 (lvS n d).2).drop (lvS n d).2.length = lvl n (d + 1) := by rw [hnext]; rfl
        rw [hnl] at hO9 ⊢
        rw [hnext] at gm2
        have hL2 := hL3.keep (m' := m2) (by omega) hz2 hk2
        have hS2 := hO9.sup (mb := mb) (v := .slice (some ⟨bo, 0, some 1⟩) (d + 1) co) (by omega) (fun b e => by
          have : bo = b := Option.some.inj e
          have := live gO
          omega)
        refine cExit (kSeqE (kSeqE (kBlkS (kSeqN ?_))))
        refine cRegion ?_
        refine sMv (v := .slice _ _ _) rfl ?_
        refine sMv (v := .slice _ _ _) rfl ?_
        refine sBuildS T119 S34 Z34 (by decide) (by decide) (by decide) (by kernel_rfl) fillV rfl ?_
        refine sAppC El119 rfl rfl (N := mb + 1) (n := d + 1) (cs := cs) (d := #[.slice q9 (lvl n (d + 1)).length c9]) (by have := (hL2.1).ext (.push m2 (.cells true #[.slice q9 (lvl n (d + 1)).length c9])); rw [hDl] at this; exact this) (gP rfl) rfl (by kernel_rfl) (by simp; omega) (by omega) fun v' m9 hO9' hL9 hG9 => ?_
        have hgr := (hL2.keep (by omega) (by simp) fun b h1 _ => gPn h1).grew (hS2.keep (by simp) fun b h1 _ => gPn h1) hG9 (by rw [hDl]; exact hO9')
        rw [show (List.range (d + 1)).map (lvl n) ++ [lvl n (d + 1)] = (List.range (d + 1 + 1)).map (lvl n) by rw [List.range_succ (n := d + 1), List.map_append]; rfl] at hgr
        obtain ⟨qn, cn, rfl⟩ := hO9'.len
        have z9 := hL9.1
        simp only [Array.size_push] at z9
        have hlow : ∀ b, b ≤ mb → Mem.get m9 b = Mem.get m2 b := fun b hb => by rw [hL9.2 b (by omega), gPn (by omega)]
        refine sAs (v := .slice _ _ _) rfl ?_
        refine sNil (kBlkN (kSeqN ?_))
        refine ⟨_, ?_, d + 1, _, _, rfl, by omega, ⟨by omega, fun b hb => ?_⟩, by omega, ?_, hgr, rfl, rfl, rfl, rfl, trivial⟩
        · omega
        · rw [hlow b (by omega), hk2 b (by omega) (by omega)]; exact hE.2 b hb
        · rw [hlow mb (Nat.le_refl _)]; exact gm2
    ·
      obtain rfl : d = most := by omega
      refine cExit (kSeqE (kSeqE (kBlkS (kSeqN ?_))))
      refine cSeq ?_
      refine cRegion ?_
      refine sMv (v := .slice _ _ _) rfl ?_
      refine sAs (v := .slice _ _ _) rfl ?_
      refine sNil (kSeqN ?_)
      refine cRet ?_
      have := hL3.out (by rw [hDl]; omega)
      rw [hDl] at this
      exact ⟨.inr rfl, _, rfl, this, hE⟩
end Go.AM

/-! ### R41 -/
namespace Go.AM
open Go.Proofs
set_option maxRecDepth 100000
set_option linter.unusedVariables false
set_option linter.unusedSimpArgs false
theorem nodup_take_not {w : List Nat} {i : Nat} (h : w.Nodup) (hi : i < w.length) : ¬ w[i] ∈ w.take i := fun hm => by
  obtain ⟨j, hj, e⟩ := List.getElem_of_mem hm
  rw [List.length_take] at hj
  rw [List.getElem_take] at e
  have e2 : w[j]? = w[i]? := by
    rw [List.getElem?_eq_getElem (show j < w.length by omega), List.getElem?_eq_getElem hi]; exact congrArg some e
  have := (List.getElem?_inj (show j < w.length by omega) h).1 e2
  omega
theorem okf133 : okF Tryd.prog H0 133 15 = true := by kernel_rfl
theorem spec_off {m : Mem} {x lo hi : Nat} (h1 : lo ≤ x) (h2 : x ≤ hi) : ∃ v m', ACalls Tryd.prog 133 #[nv x, nv lo, nv hi] m v m' ∧ (v = .bool false ∧ m = m') := by
  refine wpF (args := [_, _, _]) mixed okf133 (fn := Tryd.f133) rfl rfl rfl (by simp) ?_
  refine cSeq ?_
  refine cRegion ?_
  refine sAs (v := .bool _) rfl ?_
  refine sNil (kSeqN ?_)
  refine cSeq ?_
  refine cRegion ?_
  refine sMv (v := nv _) rfl ?_
  refine sMv (v := nv _) rfl ?_
  refine sBin (v := .bool false) (a := x) (b := lo) rfl rfl (by rw [aInt_lss, decide_eq_false (by omega)]) ?_
  refine sMv (v := .bool false) rfl ?_
  refine sG rfl rfl ?_
  refine sMv (v := nv _) rfl ?_
  refine sG rfl rfl ?_
  refine sMv (v := nv _) rfl ?_
  refine sG rfl rfl ?_
  refine sBin (v := .bool false) (a := x) (b := hi) rfl rfl (by rw [aInt_gtr, decide_eq_false (by omega)]) ?_
  refine sP (v := .bool false) rfl ?_
  refine sAs (v := .bool _) rfl ?_
  refine sNil (kSeqN ?_)
  refine cRet ?_
  exact ⟨.inr rfl, _, rfl, rfl, rfl⟩
theorem okf150 : okF Tryd.prog H0 150 25 = true := by kernel_rfl
theorem spec_rArity {m : Mem} {k l : Nat} (h : (k = 1 ∧ l = 1) ∨ (k = 9 ∧ l = 2) ∨ (k = 12 ∧ l = 3)) : ∃ v m', ACalls Tryd.prog 150 #[nv k] m v m' ∧ (v = nv l ∧ m = m') := by
  refine wpF (args := [_]) mixed okf150 (fn := Tryd.f150) rfl rfl rfl (by simp) ?_
  refine cSeq ?_
  refine cRegion ?_
  refine sAs (v := nv 0) rfl ?_
  refine sNil (kSeqN ?_)
  refine cSeq ?_   -- seq 1
  refine cSeq ?_
  refine cRegion ?_
  refine sMv (v := nv _) rfl ?_
  refine sBin (v := .bool true) (a := k) (b := 1) rfl rfl (by rw [aInt_geq, decide_eq_true (by omega)]) ?_
  refine sMv (v := .bool true) rfl ?_
  refine sG rfl rfl ?_
  refine sMv (v := nv _) rfl ?_
  refine sG rfl rfl ?_
  refine sBin (a := k) (b := 8) rfl rfl aInt_leq ?_
  refine sP (v := .bool _) rfl ?_
  refine sMv (v := .bool _) rfl ?_
  by_cases h8 : k ≤ 8
  ·
    rw [decide_eq_true h8]
    refine sGno (q' := true) rfl rfl (by simp) ?_
    refine sGno (q' := true) rfl rfl (by simp) ?_
    refine sP (v := .bool _) rfl ?_
    refine sMv (v := .bool _) rfl ?_
    refine sGno (q' := true) rfl rfl (by simp) ?_
    refine sGno (q' := true) rfl rfl (by simp) ?_
    refine sP (v := .bool _) rfl ?_
    refine sNil (kSeqN ?_)
    refine cCondT rfl ?_
    refine cSeq ?_
    refine cRegion ?_
    refine sAs (v := nv 1) rfl ?_
    refine sNil (kSeqN ?_)
    refine cRet (kSeqR ?_)
    exact ⟨.inr rfl, _, rfl, by rw [show l = 1 by omega]; rfl, rfl⟩
  ·
    rw [decide_eq_false h8]
    refine sG rfl rfl ?_
    refine sMv (v := nv _) rfl ?_
    refine sG rfl rfl ?_
    refine sBin (v := .bool false) (a := k) (b := 13) rfl rfl (by rw [aInt_eql, decide_eq_false (by omega)]) ?_
    refine sP (v := .bool _) rfl ?_
    refine sMv (v := .bool _) rfl ?_
    refine sG rfl rfl ?_
    refine sMv (v := nv _) rfl ?_
    refine sG rfl rfl ?_
    refine sBin (v := .bool false) (a := k) (b := 14) rfl rfl (by rw [aInt_eql, decide_eq_false (by omega)]) ?_
    refine sP (v := .bool _) rfl ?_
    refine sNil (kSeqN ?_)
    refine cCondF rfl ?_
    refine cSkip (kSeqN ?_)
    refine cSeq ?_   -- seq 4
    refine cSeq ?_
    refine cRegion ?_
    refine sMv (v := nv _) rfl ?_
    refine sBin (v := .bool true) (a := k) (b := 9) rfl rfl (by rw [aInt_geq, decide_eq_true (by omega)]) ?_
    refine sMv (v := .bool true) rfl ?_
    refine sG rfl rfl ?_
    refine sMv (v := nv _) rfl ?_
    refine sG rfl rfl ?_
    refine sBin (a := k) (b := 11) rfl rfl aInt_leq ?_
    refine sP (v := .bool _) rfl ?_
    refine sNil (kSeqN ?_)
    refine cCond (p := k ≤ 11) rfl (fun c2 => ?_) (fun c2 => ?_)
    ·
      refine cSeq ?_
      refine cRegion ?_
      refine sAs (v := nv 2) rfl ?_
      refine sNil (kSeqN ?_)
      refine cRet (kSeqR ?_)
      exact ⟨.inr rfl, _, rfl, by rw [show l = 2 by omega]; rfl, rfl⟩
    ·
      refine cSkip (kSeqN ?_)
      refine cSeq ?_   -- seq 7
      refine cSeq ?_
      refine cRegion ?_
      refine sMv (v := nv _) rfl ?_
      refine sBin (v := .bool true) (a := k) (b := 12) rfl rfl (by rw [aInt_eql, decide_eq_true (by omega)]) ?_
      refine sNil (kSeqN ?_)
      refine cCondT rfl ?_
      refine cSeq ?_
      refine cRegion ?_
      refine sAs (v := nv 3) rfl ?_
      refine sNil (kSeqN ?_)
      refine cRet (kSeqR ?_)
      exact ⟨.inr rfl, _, rfl, by rw [show l = 3 by omega]; rfl, rfl⟩
theorem okf151 : okF Tryd.prog H0 151 18 = true := by kernel_rfl
theorem spec_rHas {m : Mem} {a : Value} {L : List Nat} {x : Nat} (ha : IntsAt m a (ofs L)) (hl : L.length < 1000000) : ∃ v m', ACalls Tryd.prog 151 #[a, nv x] m v m' ∧ (v = .bool (decide (x ∈ L)) ∧ m = m') := by
  obtain ⟨q, cap, rfl⟩ := ha.lenN
  refine wpF (args := [_, _]) mixed okf151 (fn := Tryd.f151) rfl rfl rfl (by simp) ?_
  refine cSeq ?_
  refine cRegion ?_
  refine sAs (v := .bool _) rfl ?_
  refine sNil (kSeqN ?_)
  refine cSeq ?_
  refine cSeq ?_
  refine cRegion ?_
  refine sAs (v := nv 0) rfl ?_
  refine sNil (kSeqN ?_)
  refine cBlock ?_
  refine wpC_loop (fun k ρ m' => ∃ i, k = L.length - i ∧ i ≤ L.length ∧ (∀ j, j < i → L[j]? ≠ some x) ∧ m = m' ∧ Has ρ [(0, .slice q L.length cap), (1, nv x), (5, nv i)]) ⟨0, rfl, by omega, by omega, rfl, rfl, rfl, rfl, trivial⟩ ?_
  rintro k ρ _ ⟨i, rfl, hi, hr, rfl, hh⟩
  rw [hh.env]; clear hh
  refine cSeq ?_   -- seq 3
  refine cSeq ?_
  refine cRegion ?_
  refine sMv (v := nv _) rfl ?_
  refine sMv (v := .slice _ _ _) rfl ?_
  refine sLen T22 rfl ?_
  refine sBin rfl rfl (aInt_lss) ?_
  refine sNil (kSeqN ?_)
  refine cCond rfl (fun c0 => ?_) (fun c0 => ?_)
  ·
    obtain ⟨b1, o1, p1, r1, cc, e1, g1, x1⟩ := ha.atN (by omega)
    cases e1
    refine cSkip (kSeqN ?_)
    refine cSeq ?_
    refine cBlock ?_
    refine cSeq ?_
    refine cRegion ?_
    refine sMv (v := .slice _ _ _) rfl ?_
    refine sMv (v := nv _) rfl ?_
    refine sIx T22 S3 rfl rfl (by omega) ?_
    refine sLd (v := nv L[i]) A3 rfl g1 (x1 i L[i] (by simp)) ?_
    refine sMv (v := nv _) rfl ?_
    refine sBin (a := L[i]) (b := x) rfl rfl aInt_eql ?_
    refine sNil (kSeqN ?_)
    refine cCond rfl (fun c1 => ?_) (fun c1 => ?_)
    ·
      refine cSeq ?_
      refine cRegion ?_
      refine sAs (v := .bool _) rfl ?_
      refine sNil (kSeqN ?_)
      refine cRet (kBlkR (kSeqR (kSeqR (kBlkR (kSeqR ?_)))))
      have hm : x ∈ L := by rw [← c1]; exact List.getElem_mem _
      exact ⟨.inr rfl, _, rfl, by rw [decide_eq_true hm]; rfl, rfl⟩
    ·
      refine cSkip (kBlkN (kSeqN ?_))
      refine cRegion ?_
      refine sMv (v := nv _) rfl ?_
      refine sBin rfl rfl (aInt_add (b := 1) (by omega)) ?_
      refine sAs (v := nv _) rfl ?_
      refine sNil (kSeqN ?_)
      refine ⟨_, ?_, i + 1, rfl, by omega, fun j hj e => ?_, rfl, rfl, rfl, rfl, trivial⟩
      · omega
      · by_cases h : j = i
        · subst h
          rw [List.getElem?_eq_getElem c0] at e
          exact c1 (Option.some.inj e)
        · exact hr j (by omega) e
  ·
    refine cExit (kSeqE (kSeqE (kBlkS (kSeqN ?_))))
    refine cSeq ?_
    refine cRegion ?_
    refine sAs (v := .bool _) rfl ?_
    refine sNil (kSeqN ?_)
    refine cRet ?_
    have hm : ¬ x ∈ L := fun h => by
      obtain ⟨j, hj, e⟩ := List.getElem_of_mem h
      exact hr j (by omega) (by rw [List.getElem?_eq_getElem hj, e])
    exact ⟨.inr rfl, _, rfl, by rw [decide_eq_false hm]; rfl, rfl⟩
def H134 : Nat → List (Nat × Nat) := fun id => if id = 3 then [(1, 6), (2, 6)] else []
theorem okf134 : okF Tryd.prog H134 134 86 = true := by kernel_rfl
theorem spec_rCheckGate {m : Mem} {N n : Nat} {g : Nat × List Nat} {ws : Value} (hw : OwnF N m ws (ofs g.2)) (hg : GateOk n g) (h1 : 1 ≤ n) (h10 : n ≤ 10) : ∃ v m', ACalls Tryd.prog 134 #[.agg #[nv g.1, ws, nv 0, nv 0], nv n, nv 0] m v m' ∧ (v = nv 0 ∧ Ext m m') := by
  obtain ⟨kd, w⟩ := g
  obtain ⟨hk, hlt, hnd⟩ := hg
  dsimp only at *
  obtain ⟨q, cw, rfl⟩ := hw.ints.lenN
  have hw3 : 0 < w.length ∧ w.length ≤ 3 := by omega
  refine wpF (args := [_, _, _]) mixed okf134 (fn := Tryd.f134) rfl rfl rfl (by simp) ?_
  refine cSeq ?_
  refine cRegion ?_
  refine sBox (v := .agg _) rfl ?_
  change wpOps _ _ _ _ _ (m.push (.cells true #[nv kd, .slice q w.length cw, nv 0, nv 0]))
  have ex1 : Ext m (m.push (.cells true #[nv kd, .slice q w.length cw, nv 0, nv 0])) := .push _ _
  have g1 : Mem.get (m.push (.cells true #[nv kd, .slice q w.length cw, nv 0, nv 0])) m.size = .cells true #[nv kd, .slice q w.length cw, nv 0, nv 0] := gP rfl
  have hwM := hw.ext ex1
  generalize m.push (.cells true #[nv kd, .slice q w.length cw, nv 0, nv 0]) = M at *
  refine sAs (v := nv 0) rfl ?_
  refine sNil (kSeqN ?_)
  refine cSeq ?_   -- seq 1
  refine cSeq ?_
  refine cRegion ?_
  refine sFA F49_0 rfl ?_
  refine sLd (v := nv kd) A3 rfl g1 rfl ?_
  obtain ⟨v11, m11, h11, rfl, rfl⟩ := spec_rArity (m := M) hk
  refine sCall1 rfl call150 rfl h11 ?_
  refine sBin (v := .bool false) (a := w.length) (b := 0) rfl rfl (by rw [aInt_eql, decide_eq_false (by omega)]) ?_
  refine sNil (kSeqN ?_)
  refine cCondF rfl ?_
  refine cSkip (kSeqN ?_)
  refine cSeq ?_   -- seq 3
  refine cSeq ?_
  refine cDrawH (hs := [(1, 6), (2, 6)]) rfl (by decide) ?_
  refine lStepO (sFA F49_1 rfl (sNil fun e0 hm0 => ?_))
  refine lStepLd (v := .slice q w.length cw) A22 rfl g1 rfl fun e1 hm1 hv1 hr1 => ?_
  refine lStepLen T22 rfl fun e2 hm2 hv2 hr2 => ?_
  refine lStepO (sFA F49_0 rfl (sNil fun e3 hm3 => ?_))
  refine lStepLd (v := nv kd) A3 rfl g1 rfl fun e4 hm4 hv4 hr4 => ?_
  obtain ⟨v18, m18, h18, rfl, rfl⟩ := spec_rArity (m := M) hk
  refine lStepO (sCall1 rfl call150 rfl h18 (sNil fun e5 hm5 => ?_))
  refine lStepO (sBin (v := .bool false) (a := w.length) (b := w.length) rfl rfl (neqF rfl) (sNil fun e6 hm6 => ?_))
  refine ⟨?_, (kSeqN ?_)⟩
  ·
    refine obl_atE (e := e1) (e' := e6) (by simp) (by rfl) (by simp) ((hr1 e6.m _ _ (by rw [hm6]; exact g1) (by rfl)).trans (congrArg some hv1.symm)) ?_
    refine obl_pure (e := e2) (by simp) (by rfl) (by rw [hv2]; exact hr2) ?_
    trivial
  refine cCondF rfl ?_
  refine cSkip (kSeqN ?_)
  refine cSeq ?_
  refine cSeq ?_
  refine cRegion ?_
  refine sAs (v := nv 0) rfl ?_
  refine sNil (kSeqN ?_)
  refine cBlock ?_
  refine wpC_loop (fun k ρ m' => ∃ i, k = w.length - i ∧ i ≤ w.length ∧ M = m' ∧ Has ρ [(1, nv n), (2, nv 0), (3, .pointer (some ⟨m.size, 0, none⟩)), (7, nv i)]) ⟨0, rfl, Nat.zero_le _, rfl, rfl, rfl, rfl, rfl, trivial⟩ ?_
  rintro k ρ _ ⟨i, rfl, hi, rfl, hh⟩
  rw [hh.env]; clear hh
  refine cSeq ?_   -- seq 7
  refine cSeq ?_
  refine cRegion ?_
  refine sMv (v := nv _) rfl ?_
  refine sFA F49_1 rfl ?_
  refine sLd (v := .slice q w.length cw) A22 rfl g1 rfl ?_
  refine sLen T22 rfl ?_
  refine sBin rfl rfl (aInt_lss) ?_
  refine sNil (kSeqN ?_)
  refine cCond rfl (fun c2 => ?_) (fun c2 => ?_)
  ·
    obtain ⟨b1, o1, p1, r1, cc, ee, gw, xw⟩ := hwM.ints.atN (by omega)
    cases ee
    have hwl := hlt _ (List.getElem_mem c2)
    refine cSkip (kSeqN ?_)
    refine cSeq ?_
    refine cBlock ?_
    refine cSeq ?_
    refine cRegion ?_
    refine sFA F49_1 rfl ?_
    refine sLd (v := .slice (some ⟨b1, o1, some 1⟩) w.length cw) A22 rfl g1 rfl ?_
    refine sMv (v := nv _) rfl ?_
    refine sIx T22 S3 rfl rfl (by omega) ?_
    refine sLd (v := nv w[i]) A3 rfl gw (xw i w[i] (by simp)) ?_
    refine sMv (v := nv _) rfl ?_
    refine sBin (v := nv (n - 1)) rfl rfl (aInt_sub (a := n) (b := 1) (by omega)) ?_
    obtain ⟨v34, m34, h34, rfl, rfl⟩ := spec_off (m := M) (x := w[i]) (lo := 0) (hi := n - 1) (Nat.zero_le _) (by omega)
    refine sCall3 rfl call133 rfl rfl rfl h34 ?_
    refine sNil (kSeqN ?_)
    refine cCondF rfl ?_
    refine cSkip (kBlkN (kSeqN ?_))
    refine cRegion ?_
    refine sMv (v := nv _) rfl ?_
    refine sBin rfl rfl (aInt_add (b := 1) (by omega)) ?_
    refine sAs (v := nv _) rfl ?_
    refine sNil (kSeqN ?_)
    refine ⟨_, ?_, i + 1, rfl, by omega, rfl, rfl, rfl, rfl, rfl, trivial⟩
    omega
  ·
    skip
    refine cExit (kSeqE (kSeqE (kBlkS (kSeqN ?_))))
    refine cSeq ?_
    refine cSeq ?_
    refine cRegion ?_
    refine sAs (v := nv 0) rfl ?_
    refine sNil (kSeqN ?_)
    refine cBlock ?_
    refine wpC_loop (fun k ρ m' => ∃ i, k = w.length - i ∧ i ≤ w.length ∧ M = m' ∧ Has ρ [(1, nv n), (2, nv 0), (3, .pointer (some ⟨m.size, 0, none⟩)), (8, nv i)]) ⟨0, rfl, Nat.zero_le _, rfl, rfl, rfl, rfl, rfl, trivial⟩ ?_
    rintro k ρ _ ⟨i, rfl, hi, rfl, hh⟩
    rw [hh.env]; clear hh
    refine cSeq ?_   -- seq 13
    refine cSeq ?_
    refine cRegion ?_
    refine sMv (v := nv _) rfl ?_
    refine sFA F49_1 rfl ?_
    refine sLd (v := .slice q w.length cw) A22 rfl g1 rfl ?_
    refine sLen T22 rfl ?_
    refine sBin rfl rfl (aInt_lss) ?_
    refine sNil (kSeqN ?_)
    refine cCond rfl (fun c4 => ?_) (fun c4 => ?_)
    ·
      obtain ⟨v45, h45, o45, q45, c45, rfl⟩ := cut_own hwM (show i ≤ w.length by omega)
      obtain ⟨b1, o1, p1, r1, cc, ee, gw, xw⟩ := hwM.ints.atN (by omega)
      cases ee
      refine cSkip (kSeqN ?_)
      refine cSeq ?_
      refine cBlock ?_
      refine cSeq ?_
      refine cDraw rfl ?_
      refine sFA F49_1 rfl ?_
      refine sLd (v := .slice (some ⟨b1, o1, some 1⟩) w.length cw) A22 rfl g1 rfl ?_
      refine sMv (v := nv _) rfl ?_
      refine sO (v := .slice q45 (w.take i).length c45) (m' := M) (opF_read rfl h45) ?_
      refine sFA F49_1 rfl ?_
      refine sLd (v := .slice (some ⟨b1, o1, some 1⟩) w.length cw) A22 rfl g1 rfl ?_
      refine sMv (v := nv _) rfl ?_
      refine sIx T22 S3 rfl rfl (by omega) ?_
      refine sLd (v := nv w[i]) A3 rfl gw (xw i w[i] (by simp)) ?_
      obtain ⟨v51, m51, h51, rfl, rfl⟩ := spec_rHas (x := w[i]) o45.ints (by rw [List.length_take]; omega)
      rw [decide_eq_false (nodup_take_not hnd c4)] at h51
      refine sCall2 rfl call151 rfl rfl h51 ?_
      refine sNil (kSeqN ?_)
      refine cCondF rfl ?_
      refine cSkip (kBlkN (kSeqN ?_))
      refine cRegion ?_
      refine sMv (v := nv _) rfl ?_
      refine sBin rfl rfl (aInt_add (b := 1) (by omega)) ?_
      refine sAs (v := nv _) rfl ?_
      refine sNil (kSeqN ?_)
      refine ⟨_, ?_, i + 1, rfl, by omega, rfl, rfl, rfl, rfl, rfl, trivial⟩
      omega
    ·
      skip
      refine cExit (kSeqE (kSeqE (kBlkS (kSeqN ?_))))
      refine cSeq ?_   -- seq 17
      refine cSeq ?_
      refine cRegion ?_
      refine sFA F49_3 rfl ?_
      refine sLd (v := nv 0) A3 rfl g1 rfl ?_
      refine sMv (v := nv _) rfl ?_
      obtain ⟨v55, m55, h55, rfl, rfl⟩ := spec_off (m := M) (x := 0) (lo := 0) (hi := 0) (Nat.le_refl _) (Nat.le_refl _)
      refine sCall3 rfl call133 rfl rfl rfl h55 ?_
      refine sMv (v := .bool false) rfl ?_
      refine sG rfl rfl ?_
      refine sFA F49_0 rfl ?_
      refine sG rfl rfl ?_
      refine sLd (v := nv kd) A3 rfl g1 rfl ?_
      refine sG rfl rfl ?_
      refine sBin (v := .bool false) (a := kd) (b := 13) rfl rfl (by rw [aInt_eql, decide_eq_false (by omega)]) ?_
      refine sG rfl rfl ?_
      refine sMv (v := .bool false) rfl ?_
      refine sGno (q' := false) rfl rfl (by simp) ?_
      refine sGno (q' := false) rfl rfl (by simp) ?_
      refine sGno (q' := false) rfl rfl (by simp) ?_
      refine sGno (q' := false) rfl rfl (by simp) ?_
      refine sGno (q' := false) rfl rfl (by simp) ?_
      refine sG rfl rfl ?_
      refine sP (v := .bool false) rfl ?_
      refine sP (v := .bool false) rfl ?_
      refine sNil (kSeqN ?_)
      refine cCondF rfl ?_
      refine cSkip (kSeqN ?_)
      refine cSeq ?_   -- seq 19
      refine cSeq ?_
      refine cRegion ?_
      refine sFA F49_0 rfl ?_
      refine sLd (v := nv kd) A3 rfl g1 rfl ?_
      refine sBin (v := .bool false) (a := kd) (b := 13) rfl rfl (by rw [aInt_geq, decide_eq_false (by omega)]) ?_
      refine sMv (v := .bool false) rfl ?_
      refine sGno (q' := false) rfl rfl (by simp) ?_
      refine sGno (q' := false) rfl rfl (by simp) ?_
      refine sGno (q' := false) rfl rfl (by simp) ?_
      refine sP (v := .bool false) rfl ?_
      refine sMv (v := .bool false) rfl ?_
      refine sG rfl rfl ?_
      refine sFA F49_0 rfl ?_
      refine sG rfl rfl ?_
      refine sLd (v := nv kd) A3 rfl g1 rfl ?_
      refine sG rfl rfl ?_
      refine sBin (v := .bool true) (a := kd) (b := 13) rfl rfl (by rw [aInt_neq, decide_eq_true (by omega)]) ?_
      refine sG rfl rfl ?_
      refine sMv (v := .bool true) rfl ?_
      refine sG rfl rfl ?_
      refine sFA F49_2 rfl ?_
      refine sG rfl rfl ?_
      refine sLd (v := nv 0) A3 rfl g1 rfl ?_
      refine sG rfl rfl ?_
      refine sBin (v := .bool false) (a := 0) (b := 0) rfl rfl (neqF rfl) ?_
      refine sG rfl rfl ?_
      refine sP (v := .bool false) rfl ?_
      refine sP (v := .bool false) rfl ?_
      refine sNil (kSeqN ?_)
      refine cCondF rfl ?_
      refine cSkip (kSeqN ?_)
      refine cSeq ?_
      refine cRegion ?_
      refine sAs (v := nv 0) rfl ?_
      refine sNil (kSeqN ?_)
      refine cRet ?_
      exact ⟨.inr rfl, _, rfl, rfl, ex1⟩
theorem okf92 : okF Tryd.prog H0 92 37 = true := by kernel_rfl
theorem spec_rCheck4 {m : Mem} {N n : Nat} {s : Value} {cs : Array Value} {Gs : List (Nat × List Nat)} (hG : OwnG N m s cs Gs) (hc : CircOk n Gs) : ∃ v m', ACalls Tryd.prog 92 #[.agg #[nv n, nv 0, s]] m v m' ∧ (v = nv 0 ∧ Ext m m') := by
  obtain ⟨q, cap, rfl⟩ := hG.1.len
  obtain ⟨h1, h10, hf, hall⟩ := hc
  refine wpF (args := [_]) mixed okf92 (fn := Tryd.f92) rfl rfl rfl (by simp) ?_
  refine cSeq ?_
  refine cRegion ?_
  refine sBox (v := .agg _) rfl ?_
  change wpOps _ _ _ _ _ (m.push (.cells true #[nv n, nv 0, .slice q Gs.length cap]))
  have e1 : Ext m (m.push (.cells true #[nv n, nv 0, .slice q Gs.length cap])) := .push _ _
  have g1 : Mem.get (m.push (.cells true #[nv n, nv 0, .slice q Gs.length cap])) m.size = .cells true #[nv n, nv 0, .slice q Gs.length cap] := gP rfl
  generalize m.push (.cells true #[nv n, nv 0, .slice q Gs.length cap]) = M at *
  refine sAs (v := nv 0) rfl ?_
  refine sNil (kSeqN ?_)
  refine cSeq ?_   -- seq 1
  refine cSeq ?_
  refine cRegion ?_
  refine sFA F30_0 rfl ?_
  refine sLd (v := nv n) A3 rfl g1 rfl ?_
  obtain ⟨v7, m7, h7, rfl, rfl⟩ := spec_off (m := M) (x := n) (lo := 1) (hi := 12) h1 (by omega)
  refine sCall3 rfl call133 rfl rfl rfl h7 ?_
  refine sMv (v := .bool false) rfl ?_
  refine sG rfl rfl ?_
  refine sFA F30_1 rfl ?_
  refine sG rfl rfl ?_
  refine sLd (v := nv 0) A3 rfl g1 rfl ?_
  refine sG rfl rfl ?_
  obtain ⟨v11, m11, h11, rfl, rfl⟩ := spec_off (m := M) (x := 0) (lo := 0) (hi := 8) (Nat.zero_le _) (Nat.zero_le _)
  refine sCall3 rfl call133 rfl rfl rfl h11 ?_
  refine sP (v := .bool false) rfl ?_
  refine sNil (kSeqN ?_)
  refine cCondF rfl ?_
  refine cSkip (kSeqN ?_)
  refine cSeq ?_   -- seq 3
  refine cSeq ?_
  refine cRegion ?_
  refine sFA F30_2 rfl ?_
  refine sLd (v := .slice q Gs.length cap) A28 rfl g1 rfl ?_
  refine sLen T28 rfl ?_
  refine sBin (v := .bool false) (a := Gs.length) (b := 120) rfl rfl (by rw [aInt_gtr, decide_eq_false (by omega)]) ?_
  refine sNil (kSeqN ?_)
  refine cCondF rfl ?_
  refine cSkip (kSeqN ?_)
  refine cSeq ?_
  refine cSeq ?_
  refine cRegion ?_
  refine sAs (v := nv 0) rfl ?_
  refine sNil (kSeqN ?_)
  refine cBlock ?_
  refine wpC_loop (fun k ρ m' => ∃ i, k = Gs.length - i ∧ i ≤ Gs.length ∧ Ext M m' ∧ Has ρ [(1, .pointer (some ⟨m.size, 0, none⟩)), (3, nv i)]) ⟨0, rfl, Nat.zero_le _, .refl _, rfl, rfl, trivial⟩ ?_
  rintro k ρ m' ⟨i, rfl, hi, hE, hh⟩
  rw [hh.env]; clear hh
  have g1' := hE.cells g1
  refine cSeq ?_   -- seq 7
  refine cSeq ?_
  refine cRegion ?_
  refine sMv (v := nv _) rfl ?_
  refine sFA F30_2 rfl ?_
  refine sLd (v := .slice q Gs.length cap) A28 rfl g1' rfl ?_
  refine sLen T28 rfl ?_
  refine sBin rfl rfl (aInt_lss) ?_
  refine sNil (kSeqN ?_)
  refine cCond rfl (fun c2 => ?_) (fun c2 => ?_)
  ·
    obtain ⟨g, hgi⟩ : ∃ g, Gs[i]? = some g := ⟨_, List.getElem?_eq_getElem c2⟩
    have hgo := hall g (List.mem_of_getElem? hgi)
    obtain ⟨b2, cp2, cc, ws, ee, gb, hcs, hex, hws⟩ := (hG.ext (e1.trans hE)).gate hgi
    cases ee
    refine cSkip (kSeqN ?_)
    refine cSeq ?_
    refine cBlock ?_
    refine cSeq ?_
    refine cDraw rfl ?_
    refine sFA F30_2 rfl ?_
    refine sLd (v := .slice (some ⟨b2, 0, some 4⟩) Gs.length cap) A28 rfl g1' rfl ?_
    refine sMv (v := nv _) rfl ?_
    refine sIx T28 S49 rfl rfl c2 ?_
    refine sLdA A49 S49 rfl gb (by omega) ?_
    rw [hex]
    refine sFA F30_0 rfl ?_
    refine sLd (v := nv n) A3 rfl g1' rfl ?_
    refine sFA F30_1 rfl ?_
    refine sLd (v := nv 0) A3 rfl g1' rfl ?_
    obtain ⟨v33, m33, h33, rfl, e33⟩ := spec_rCheckGate hws hgo h1 h10
    refine sCall3 rfl call134 rfl rfl rfl h33 ?_
    refine sAs (v := nv _) rfl ?_
    refine sNil (kSeqN ?_)
    refine cSeq ?_
    refine cRegion ?_
    refine sMv (v := nv _) rfl ?_
    refine sBin (v := .bool false) (a := 0) (b := 0) rfl rfl (neqF rfl) ?_
    refine sNil (kSeqN ?_)
    refine cCondF rfl ?_
    refine cSkip (kBlkN (kSeqN ?_))
    refine cRegion ?_
    refine sMv (v := nv _) rfl ?_
    refine sBin rfl rfl (aInt_add (b := 1) (by omega)) ?_
    refine sAs (v := nv _) rfl ?_
    refine sNil (kSeqN ?_)
    refine ⟨_, ?_, i + 1, rfl, by omega, hE.trans e33, rfl, rfl, trivial⟩
    omega
  ·
    refine cExit (kSeqE (kSeqE (kBlkS (kSeqN ?_))))
    refine cSeq ?_
    refine cRegion ?_
    refine sAs (v := nv 0) rfl ?_
    refine sNil (kSeqN ?_)
    refine cRet ?_
    exact ⟨.inr rfl, _, rfl, rfl, e1.trans hE⟩
theorem okf31 : okF Tryd.prog H0 31 42 = true := by kernel_rfl
theorem spec_rCheck {m : Mem} {N n : Nat} {s : Value} {cs : Array Value} {Gs : List (Nat × List Nat)} (hG : OwnG N m s cs Gs) (hc : CircOk n Gs) : ∃ v m', ACalls Tryd.prog 31 #[.agg #[nv n, nv 0, s]] m v m' ∧ (v = nv 0 ∧ Ext m m') := by
  obtain ⟨q, cap, rfl⟩ := hG.1.len
  have hc0 := hc
  obtain ⟨h1, h10, hf, hall⟩ := hc
  refine wpF (args := [_]) mixed okf31 (fn := Tryd.f31) rfl rfl rfl (by simp) ?_
  refine cSeq ?_
  refine cRegion ?_
  refine sBox (v := .agg _) rfl ?_
  change wpOps _ _ _ _ _ (m.push (.cells true #[nv n, nv 0, .slice q Gs.length cap]))
  have e1 : Ext m (m.push (.cells true #[nv n, nv 0, .slice q Gs.length cap])) := .push _ _
  have g1 : Mem.get (m.push (.cells true #[nv n, nv 0, .slice q Gs.length cap])) m.size = .cells true #[nv n, nv 0, .slice q Gs.length cap] := gP rfl
  generalize m.push (.cells true #[nv n, nv 0, .slice q Gs.length cap]) = M at *
  refine sAs (v := nv 0) rfl ?_
  refine sNil (kSeqN ?_)
  refine cSeq ?_
  refine cSeq ?_
  refine cRegion ?_
  refine sLdAll A30 S30 rfl g1 rfl ?_
  obtain ⟨v7, m7, h7, rfl, e7⟩ := spec_rCheck4 (hG.ext e1) hc0
  refine sCall1 rfl call92 rfl h7 ?_
  have g7 := e7.cells g1
  refine sAs (v := nv _) rfl ?_
  refine sNil (kSeqN ?_)
  refine cSeq ?_
  refine cRegion ?_
  refine sMv (v := nv _) rfl ?_
  refine sBin (v := .bool false) (a := 0) (b := 0) rfl rfl (neqF rfl) ?_
  refine sNil (kSeqN ?_)
  refine cCondF rfl ?_
  refine cSkip (kSeqN ?_)
  refine cSeq ?_
  refine cSeq ?_
  refine cRegion ?_
  refine sFA F30_2 rfl ?_
  refine sLd (v := .slice q Gs.length cap) A28 rfl g7 rfl ?_
  refine sLen T28 rfl ?_
  refine sMv (v := nv 0) rfl ?_
  refine sNil (kSeqN ?_)
  refine cBlock ?_
  refine wpC_loop (fun k ρ m' => ∃ i, k = Gs.length - i ∧ i ≤ Gs.length ∧ Ext M m' ∧ Has ρ [(12, .slice q Gs.length cap), (13, nv Gs.length), (14, nv i)]) ⟨0, rfl, Nat.zero_le _, e7, rfl, rfl, rfl, trivial⟩ ?_
  rintro k ρ m' ⟨i, rfl, hi, hE, hh⟩
  rw [hh.env]; clear hh
  refine cSeq ?_
  refine cRegion ?_
  refine sBin rfl rfl (aInt_lss) ?_
  refine sNil (kSeqN ?_)
  refine cSeq ?_   -- seq 7
  refine cCond rfl (fun c1 => ?_) (fun c1 => ?_)
  ·
    obtain ⟨g, hgi⟩ : ∃ g, Gs[i]? = some g := ⟨_, List.getElem?_eq_getElem c1⟩
    have hgo := (hall g (List.mem_of_getElem? hgi)).kind
    obtain ⟨b2, cp2, cc, ws, ee, gb, hcs, hex, hws⟩ := (hG.ext (e1.trans hE)).gate hgi
    cases ee
    obtain ⟨qw, cw, rfl⟩ := hws.ints.lenN
    refine cSkip (kSeqN ?_)
    refine cSeq ?_
    refine cBlock ?_
    refine cSeq ?_
    refine cRegion ?_
    refine sIx T28 S49 rfl rfl c1 ?_
    refine sLdA A49 S49 rfl gb (by omega) ?_
    rw [hex]
    refine sAllocB (bl := m'.size) rfl Z49 (by kernel_rfl) ?_
    refine sStNAB rfl S49 rfl rfl rfl rfl (by kernel_rfl) ?_
    have eg : Ext m' (m'.push (.cells true #[nv g.1, .slice qw g.2.length cw, nv 0, nv 0])) := .push _ _
    have gg : Mem.get (m'.push (.cells true #[nv g.1, .slice qw g.2.length cw, nv 0, nv 0])) m'.size = .cells true #[nv g.1, .slice qw g.2.length cw, nv 0, nv 0] := gP rfl
    generalize m'.push (.cells true #[nv g.1, .slice qw g.2.length cw, nv 0, nv 0]) = M6 at *
    refine sNil (kSeqN ?_)
    refine cSeq ?_
    refine cRegion ?_
    refine sFA F49_3 rfl ?_
    refine sLd (v := nv 0) A3 rfl gg rfl ?_
    refine sBin (v := .bool false) (a := 0) (b := 0) rfl rfl (neqF rfl) ?_
    refine sMv (v := .bool false) rfl ?_
    refine sG rfl rfl ?_
    refine sFA F49_0 rfl ?_
    refine sG rfl rfl ?_
    refine sLd (v := nv g.1) A3 rfl gg rfl ?_
    refine sG rfl rfl ?_
    refine sBin (a := g.1) (b := 1) rfl rfl aInt_neq ?_
    refine sG rfl rfl ?_
    refine sMv (v := .bool (decide (g.1 ≠ 1))) rfl ?_
    by_cases k1 : g.1 ≠ 1
    ·
      rw [decide_eq_true k1]
      refine sG rfl rfl ?_
      refine sFA F49_0 rfl ?_
      refine sG rfl rfl ?_
      refine sLd (v := nv g.1) A3 rfl gg rfl ?_
      refine sG rfl rfl ?_
      refine sBin (a := g.1) (b := 9) rfl rfl aInt_neq ?_
      refine sG rfl rfl ?_
      refine sP (v := .bool _) rfl ?_
      refine sG rfl rfl ?_
      refine sMv (v := .bool _) rfl ?_
      by_cases k2 : g.1 ≠ 9
      ·
        rw [decide_eq_true k2]
        refine sG rfl rfl ?_
        refine sFA F49_0 rfl ?_
        refine sG rfl rfl ?_
        refine sLd (v := nv g.1) A3 rfl gg rfl ?_
        refine sG rfl rfl ?_
        refine sBin (v := .bool true) (a := g.1) (b := 11) rfl rfl (by rw [aInt_neq, decide_eq_true (by omega)]) ?_
        refine sG rfl rfl ?_
        refine sP (v := .bool _) rfl ?_
        refine sG rfl rfl ?_
        refine sMv (v := .bool _) rfl ?_
        refine sG rfl rfl ?_
        refine sFA F49_0 rfl ?_
        refine sG rfl rfl ?_
        refine sLd (v := nv g.1) A3 rfl gg rfl ?_
        refine sG rfl rfl ?_
        refine sBin (v := .bool false) (a := g.1) (b := 12) rfl rfl (by rw [aInt_neq, decide_eq_false (by omega)]) ?_
        refine sG rfl rfl ?_
        refine sP (v := .bool false) rfl ?_
        refine sP (v := .bool false) rfl ?_
        refine sNil (kSeqN ?_)
        refine cCondF rfl ?_
        refine cSkip (kBlkN (kSeqN ?_))
        refine cRegion ?_
        refine sBin rfl rfl (aInt_add (b := 1) (by omega)) ?_
        refine sMv (v := nv _) rfl ?_
        refine sNil (kSeqN ?_)
        refine ⟨_, ?_, i + 1, rfl, by omega, hE.trans eg, rfl, rfl, rfl, trivial⟩
        omega
      ·
        rw [decide_eq_false k2]
        refine sGno (q' := false) rfl rfl (by simp) ?_
        refine sGno (q' := false) rfl rfl (by simp) ?_
        refine sGno (q' := false) rfl rfl (by simp) ?_
        refine sG rfl rfl ?_
        refine sP (v := .bool _) rfl ?_
        refine sG rfl rfl ?_
        refine sMv (v := .bool _) rfl ?_
        refine sGno (q' := false) rfl rfl (by simp) ?_
        refine sGno (q' := false) rfl rfl (by simp) ?_
        refine sGno (q' := false) rfl rfl (by simp) ?_
        refine sG rfl rfl ?_
        refine sP (v := .bool false) rfl ?_
        refine sP (v := .bool false) rfl ?_
        refine sNil (kSeqN ?_)
        refine cCondF rfl ?_
        refine cSkip (kBlkN (kSeqN ?_))
        refine cRegion ?_
        refine sBin rfl rfl (aInt_add (b := 1) (by omega)) ?_
        refine sMv (v := nv _) rfl ?_
        refine sNil (kSeqN ?_)
        refine ⟨_, ?_, i + 1, rfl, by omega, hE.trans eg, rfl, rfl, rfl, trivial⟩
        omega
    ·
      rw [decide_eq_false k1]
      refine sGno (q' := false) rfl rfl (by simp) ?_
      refine sGno (q' := false) rfl rfl (by simp) ?_
      refine sGno (q' := false) rfl rfl (by simp) ?_
      refine sG rfl rfl ?_
      refine sP (v := .bool _) rfl ?_
      refine sG rfl rfl ?_
      refine sMv (v := .bool _) rfl ?_
      refine sGno (q' := false) rfl rfl (by simp) ?_
      refine sGno (q' := false) rfl rfl (by simp) ?_
      refine sGno (q' := false) rfl rfl (by simp) ?_
      refine sG rfl rfl ?_
      refine sP (v := .bool _) rfl ?_
      refine sG rfl rfl ?_
      refine sMv (v := .bool _) rfl ?_
      refine sGno (q' := false) rfl rfl (by simp) ?_
      refine sGno (q' := false) rfl rfl (by simp) ?_
      refine sGno (q' := false) rfl rfl (by simp) ?_
      refine sG rfl rfl ?_
      refine sP (v := .bool false) rfl ?_
      refine sP (v := .bool false) rfl ?_
      refine sNil (kSeqN ?_)
      refine cCondF rfl ?_
      refine cSkip (kBlkN (kSeqN ?_))
      refine cRegion ?_
      refine sBin rfl rfl (aInt_add (b := 1) (by omega)) ?_
      refine sMv (v := nv _) rfl ?_
      refine sNil (kSeqN ?_)
      refine ⟨_, ?_, i + 1, rfl, by omega, hE.trans eg, rfl, rfl, rfl, trivial⟩
      omega
  ·
    refine cExit (kSeqE (kSeqE (kBlkS (kSeqN ?_))))
    refine cSeq ?_
    refine cRegion ?_
    refine sAs (v := nv 0) rfl ?_
    refine sNil (kSeqN ?_)
    refine cRet ?_
    exact ⟨.inr rfl, _, rfl, rfl, e1.trans hE⟩
end Go.AM

/-! ### R42 -/
namespace Go.AM
open Go.Proofs
set_option maxRecDepth 100000
set_option linter.unusedVariables false
set_option linter.unusedSimpArgs false
theorem mem_ofs2 {L : List Nat} {G : List (List Nat)} : ofs L ∈ ofs2 G ↔ L ∈ G := by
  unfold ofs2
  rw [List.mem_map]
  constructor
  · rintro ⟨g, hg, e⟩
    have : g = L := by
      have := congrArg nats e
      rwa [nats_ofs, nats_ofs] at this
    rwa [← this]
  · exact fun h => ⟨L, h, rfl⟩
def needF (n : Nat) (L : List Nat) (most : Nat) : Option Nat := (List.range (most + 1)).find? fun d => decide (L ∈ lvl n d)
def needE (p : List Int) (most : Int) : Nat := if wideE p ≠ 0 then wideE p else if most < 0 ∨ 4 < most then 3 else if (needF (lenN p.length) (nats p) most.toNat).isSome then 0 else 6
def needN (p : List Int) (most : Int) : Nat := if wideE p ≠ 0 then 0 else if most < 0 ∨ 4 < most then 0 else (needF (lenN p.length) (nats p) most.toNat).getD 0
theorem find_range {P : Nat → Bool} {n d : Nat} (hd : d < n) (hp : P d = true) (hm : ∀ j, j < d → P j = false) : (List.range n).find? P = some d := by
  rw [List.find?_eq_some_iff_append]
  refine ⟨hp, List.range d, (List.range' (d + 1) (n - d - 1)), ?_, fun j hj => ?_⟩
  · apply List.ext_getElem?
    intro i
    by_cases hi : i < n
    · rw [List.getElem?_range hi]
      rcases Nat.lt_trichotomy i d with h | h | h
      · rw [List.getElem?_append_left (by simpa using h), List.getElem?_range h]
      · subst h; rw [List.getElem?_append_right (by simp)]; simp
      · rw [List.getElem?_append_right (by simp; omega), List.length_range]
        obtain ⟨k, hk⟩ : ∃ k, i - d = k + 1 := ⟨i - d - 1, by omega⟩
        rw [hk, List.getElem?_cons_succ, List.getElem?_range' (by omega)]
        congr 1; omega
    · rw [List.getElem?_eq_none (by simp; omega), List.getElem?_eq_none (by simp; omega)]
  · rw [List.mem_range] at hj
    simp [hm j hj]
theorem find_none {P : Nat → Bool} {n : Nat} (hm : ∀ j, j < n → P j = false) : (List.range n).find? P = none := by
  rw [List.find?_eq_none]
  intro j hj
  rw [List.mem_range] at hj
  simp [hm j hj]
theorem okf99 : okF Tryd.prog H0 99 26 = true := by kernel_rfl
theorem spec_rEqual {m : Mem} {a b : Value} {l r : List Int} (ha : IntsAt m a l) (hb : IntsAt m b r) (hl : l.length < 1000000) : ∃ v m', ACalls Tryd.prog 99 #[a, b] m v m' ∧ (v = .bool (decide (l = r)) ∧ m = m') := by
  obtain ⟨q, cap, rfl⟩ := ha.len
  obtain ⟨q2, cap2, rfl⟩ := hb.len
  refine wpF (args := [_, _]) mixed okf99 (fn := Tryd.f99) rfl rfl rfl (by simp) ?_
  refine cSeq ?_
  refine cRegion ?_
  refine sAs (v := .bool _) rfl ?_
  refine sNil (kSeqN ?_)
  refine cSeq ?_   -- seq 1
  refine cSeq ?_
  refine cRegion ?_
  refine sMv (v := .slice _ _ _) rfl ?_
  refine sLen T22 rfl ?_
  refine sMv (v := .slice _ _ _) rfl ?_
  refine sLen T22 rfl ?_
  refine sBin (a := l.length) (b := r.length) rfl rfl aInt_neq ?_
  refine sNil (kSeqN ?_)
  refine cCond rfl (fun c0 => ?_) (fun c0 => ?_)
  ·
    refine cSeq ?_
    refine cRegion ?_
    refine sAs (v := .bool _) rfl ?_
    refine sNil (kSeqN ?_)
    refine cRet (kSeqR ?_)
    exact ⟨.inr rfl, _, rfl, by rw [decide_eq_false (show ¬ l = r from fun e => c0 (by rw [e]))]; rfl, rfl⟩
  ·
    have hlr := Decidable.not_not.1 c0
    refine cSkip (kSeqN ?_)
    refine cSeq ?_
    refine cSeq ?_
    refine cRegion ?_
    refine sMv (v := .slice _ _ _) rfl ?_
    refine sLen T22 rfl ?_
    refine sMv (v := nv 0) rfl ?_
    refine sNil (kSeqN ?_)
    refine cBlock ?_
    refine wpC_loop (fun k ρ m' => ∃ i, k = l.length - i ∧ i ≤ l.length ∧ (∀ j, j < i → l[j]? = r[j]?) ∧ m = m' ∧ Has ρ [(0, .slice q l.length cap), (1, .slice q2 r.length cap2), (11, .slice q l.length cap), (12, nv l.length), (13, nv i)]) ⟨0, rfl, Nat.zero_le _, by omega, rfl, rfl, rfl, rfl, rfl, rfl, trivial⟩ ?_
    rintro k ρ _ ⟨i, rfl, hi, hr, rfl, hh⟩
    rw [hh.env]; clear hh
    refine cSeq ?_
    refine cRegion ?_
    refine sBin rfl rfl (aInt_lss) ?_
    refine sNil (kSeqN ?_)
    refine cSeq ?_   -- seq 7
    refine cCond rfl (fun c1 => ?_) (fun c1 => ?_)
    ·
      obtain ⟨b1, o1, p1, r1, cc, e1, g1, x1⟩ := ha.at (by omega)
      cases e1
      obtain ⟨b2, o2, p2, r2, cd, e2, g2, x2⟩ := hb.at (by omega)
      cases e2
      obtain ⟨x, hx⟩ : ∃ x, l[i]? = some x := ⟨_, List.getElem?_eq_getElem c1⟩
      obtain ⟨y, hy⟩ : ∃ y, r[i]? = some y := ⟨_, List.getElem?_eq_getElem (by omega)⟩
      refine cSkip (kSeqN ?_)
      refine cSeq ?_
      refine cBlock ?_
      refine cSeq ?_
      refine cRegion ?_
      refine sMv (v := nv _) rfl ?_
      refine sAs (v := nv _) rfl ?_
      refine sNil (kSeqN ?_)
      refine cSeq ?_
      refine cDraw rfl ?_
      refine sMv (v := .slice _ _ _) rfl ?_
      refine sMv (v := nv _) rfl ?_
      refine sIx T22 S3 rfl rfl (by omega) ?_
      refine sLd (v := .int .i64 x) A3 rfl g1 (x1 i x hx) ?_
      refine sMv (v := .slice _ _ _) rfl ?_
      refine sMv (v := nv _) rfl ?_
      refine sIx T22 S3 rfl rfl (by omega) ?_
      refine sLd (v := .int .i64 y) A3 rfl g2 (x2 i y hy) ?_
      refine sBinI (v := .bool (decide (x ≠ y))) rfl rfl aInt_neqI ?_
      refine sNil (kSeqN ?_)
      refine cCond (p := x ≠ y) rfl (fun c2 => ?_) (fun c2 => ?_)
      ·
        refine cSeq ?_
        refine cRegion ?_
        refine sAs (v := .bool _) rfl ?_
        refine sNil (kSeqN ?_)
        refine cRet (kBlkR (kSeqR (kSeqR (kBlkR (kSeqR ?_)))))
        exact ⟨.inr rfl, _, rfl, by rw [decide_eq_false (show ¬ l = r from fun e => by subst e; exact c2 (Option.some.inj (hx.symm.trans hy)))]; rfl, rfl⟩
      ·
        refine cSkip (kBlkN (kSeqN ?_))
        refine cRegion ?_
        refine sBin rfl rfl (aInt_add (b := 1) (by omega)) ?_
        refine sMv (v := nv _) rfl ?_
        refine sNil (kSeqN ?_)
        refine ⟨_, ?_, i + 1, rfl, by omega, fun j hj => ?_, rfl, rfl, rfl, rfl, rfl, rfl, trivial⟩
        · omega
        · by_cases h : j = i
          · subst h; rw [hx, hy, Decidable.not_not.1 c2]
          · exact hr j (by omega)
    ·
      have hall : l = r := List.ext_getElem? fun j => by
        by_cases h : j < l.length
        · exact hr j (by omega)
        · rw [List.getElem?_eq_none (by omega), List.getElem?_eq_none (by omega)]
      refine cExit (kSeqE (kSeqE (kBlkS (kSeqN ?_))))
      refine cSeq ?_
      refine cRegion ?_
      refine sAs (v := .bool _) rfl ?_
      refine sNil (kSeqN ?_)
      refine cRet ?_
      exact ⟨.inr rfl, _, rfl, by rw [decide_eq_true hall]; rfl, rfl⟩
theorem okf91 : okF Tryd.prog H0 91 17 = true := by kernel_rfl
theorem spec_has {m : Mem} {a b : Value} {G : List (List Nat)} {L : List Nat} (ha : RowsAt m a (ofs2 G)) (hb : IntsAt m b (ofs L)) (hl : L.length < 1000000) (hG : G.length < 1000000) : ∃ v m', ACalls Tryd.prog 91 #[a, b] m v m' ∧ (v = .bool (decide (L ∈ G)) ∧ m = m') := by
  obtain ⟨q, cap, rfl⟩ := ha.len
  obtain ⟨q2, cap2, rfl⟩ := hb.lenN
  rw [ofs2_length] at *
  refine wpF (args := [_, _]) mixed okf91 (fn := Tryd.f91) rfl rfl rfl (by simp) ?_
  refine cSeq ?_
  refine cRegion ?_
  refine sAs (v := .bool _) rfl ?_
  refine sNil (kSeqN ?_)
  refine cSeq ?_
  refine cSeq ?_
  refine cRegion ?_
  refine sMv (v := .slice _ _ _) rfl ?_
  refine sLen T34 rfl ?_
  refine sMv (v := nv 0) rfl ?_
  refine sNil (kSeqN ?_)
  refine cBlock ?_
  refine wpC_loop (fun k ρ m' => ∃ i, k = G.length - i ∧ i ≤ G.length ∧ (∀ j, j < i → G[j]? ≠ some L) ∧ m = m' ∧ Has ρ [(1, .slice q2 L.length cap2), (7, .slice q G.length cap), (8, nv G.length), (9, nv i)]) ⟨0, rfl, Nat.zero_le _, by omega, rfl, rfl, rfl, rfl, rfl, trivial⟩ ?_
  rintro k ρ _ ⟨i, rfl, hi, hr, rfl, hh⟩
  rw [hh.env]; clear hh
  refine cSeq ?_
  refine cRegion ?_
  refine sBin rfl rfl (aInt_lss) ?_
  refine sNil (kSeqN ?_)
  refine cSeq ?_   -- seq 4
  refine cCond rfl (fun c0 => ?_) (fun c0 => ?_)
  ·
    obtain ⟨b1, o1, p1, r1, cc, e1, g1, x1⟩ := ha.at (by rw [ofs2_length]; omega)
    rw [ofs2_length] at e1
    cases e1
    obtain ⟨x, hx⟩ : ∃ x, G[i]? = some x := ⟨_, List.getElem?_eq_getElem c0⟩
    obtain ⟨s, hs, hI⟩ := x1 i _ (ofs2_get hx)
    obtain ⟨qs, cs, rfl⟩ := hI.lenN
    refine cSkip (kSeqN ?_)
    refine cSeq ?_
    refine cBlock ?_
    refine cSeq ?_
    refine cRegion ?_
    refine sIx T34 S22 rfl rfl (by omega) ?_
    refine sLd (v := .slice qs x.length cs) A22 rfl g1 hs ?_
    refine sAs (v := .slice _ _ _) rfl ?_
    refine sNil (kSeqN ?_)
    refine cSeq ?_
    refine cRegion ?_
    refine sMv (v := .slice _ _ _) rfl ?_
    refine sMv (v := .slice _ _ _) rfl ?_
    obtain ⟨v15, m15, h15, rfl, rfl⟩ := spec_rEqual hb hI (by rw [ofs_length]; omega)
    refine sCall2 rfl call99 rfl rfl h15 ?_
    refine sNil (kSeqN ?_)
    refine cCond (p := ofs L = ofs x) rfl (fun c1 => ?_) (fun c1 => ?_)
    ·
      refine cSeq ?_
      refine cRegion ?_
      refine sAs (v := .bool _) rfl ?_
      refine sNil (kSeqN ?_)
      refine cRet (kBlkR (kSeqR (kSeqR (kBlkR (kSeqR ?_)))))
      have : L ∈ G := mem_ofs2.1 (by rw [c1]; exact List.mem_of_getElem? (ofs2_get hx))
      exact ⟨.inr rfl, _, rfl, by rw [decide_eq_true this]; rfl, rfl⟩
    ·
      refine cSkip (kBlkN (kSeqN ?_))
      refine cRegion ?_
      refine sBin rfl rfl (aInt_add (b := 1) (by omega)) ?_
      refine sMv (v := nv _) rfl ?_
      refine sNil (kSeqN ?_)
      refine ⟨_, ?_, i + 1, rfl, by omega, fun j hj e => ?_, rfl, rfl, rfl, rfl, rfl, trivial⟩
      · omega
      · by_cases h : j = i
        · subst h
          rw [hx] at e
          exact c1 (by rw [Option.some.inj e])
        · exact hr j (by omega) e
  ·
    refine cExit (kSeqE (kSeqE (kBlkS (kSeqN ?_))))
    refine cSeq ?_
    refine cRegion ?_
    refine sAs (v := .bool _) rfl ?_
    refine sNil (kSeqN ?_)
    refine cRet ?_
    have : ¬ L ∈ G := fun h => by
      obtain ⟨j, hj, e⟩ := List.getElem_of_mem h
      exact hr j (by omega) (by rw [List.getElem?_eq_getElem hj, e])
    exact ⟨.inr rfl, _, rfl, by rw [decide_eq_false this]; rfl, rfl⟩
theorem okf30 : okF Tryd.prog H0 30 38 = true := by kernel_rfl
theorem spec_Need {m : Mem} {a : Value} {p : List Int} {most : Int} (ha : IntsAt m a p) (hk : CapOk a) (hl : p.length < 1000000) : ∃ v m', ACalls Tryd.prog 30 #[a, .int .i64 most] m v m' ∧ (v = .tuple #[nv (needN p most), nv (needE p most)] ∧ Ext m m') := by
  obtain ⟨q, cap, rfl⟩ := ha.len
  refine wpF (args := [_, _]) mixed okf30 (fn := Tryd.f30) rfl rfl rfl (by simp) ?_
  refine cSeq ?_
  refine cRegion ?_
  refine sAs (v := nv 0) rfl ?_
  refine sAs (v := nv 0) rfl ?_
  refine sNil (kSeqN ?_)
  refine cSeq ?_
  refine cRegion ?_
  refine sMv (v := .slice _ _ _) rfl ?_
  obtain ⟨v12, m12, h12, rfl, rfl⟩ := spec_rWide ha hk hl
  refine sCall1 rfl call17 rfl h12 ?_
  refine sMv (v := .tuple _) rfl ?_
  refine sP (v := nv _) rfl ?_   -- extract ['t10', '0']
  refine sP (v := nv _) rfl ?_   -- extract ['t10', '1']
  refine sAs (v := nv _) rfl ?_
  refine sAs (v := nv _) rfl ?_
  refine sNil (kSeqN ?_)
  refine cSeq ?_   -- seq 2
  refine cSeq ?_
  refine cRegion ?_
  refine sMv (v := nv _) rfl ?_
  refine sBin (a := wideE p) (b := 0) rfl rfl aInt_neq ?_
  refine sNil (kSeqN ?_)
  refine cCond rfl (fun c0 => ?_) (fun c0 => ?_)
  ·
    refine cSeq ?_
    refine cRegion ?_
    refine sMv (v := nv _) rfl ?_
    refine sAs (v := nv 0) rfl ?_
    refine sAs (v := nv _) rfl ?_
    refine sNil (kSeqN ?_)
    refine cRet (kSeqR ?_)
    exact ⟨.inr rfl, _, rfl, by rw [needN, needE, if_pos c0, if_pos c0]; rfl, .refl _⟩
  ·
    have h0 := Decidable.not_not.1 c0
    have hlast : ∀ (V E : Nat), (¬ (most < 0 ∨ 4 < most) → (needF (lenN p.length) (nats p) most.toNat).getD 0 = V ∧ (if (needF (lenN p.length) (nats p) most.toNat).isSome then 0 else 6) = E) → ¬ (most < 0 ∨ 4 < most) → needN p most = V ∧ needE p most = E := fun V E h hm => by
      rw [needN, needE, if_neg c0, if_neg c0, if_neg hm, if_neg hm]; exact h hm
    refine cSkip (kSeqN ?_)
    refine cSeq ?_   -- seq 5
    refine cSeq ?_
    refine cRegion ?_
    refine sMv (v := .int .i64 most) rfl ?_
    refine sBinI (v := .bool (decide (most < 0))) rfl rfl aInt_lssI ?_
    refine sMv (v := .bool _) rfl ?_
    by_cases h1 : most < 0
    ·
      rw [decide_eq_true h1]
      refine sGno (q' := true) rfl rfl (by simp) ?_
      refine sGno (q' := true) rfl rfl (by simp) ?_
      refine sP (v := .bool _) rfl ?_
      refine sNil (kSeqN ?_)
      refine cCondT rfl ?_
      refine cSeq ?_
      refine cRegion ?_
      refine sAs (v := nv 0) rfl ?_
      refine sAs (v := nv 3) rfl ?_
      refine sNil (kSeqN ?_)
      refine cRet (kSeqR ?_)
      exact ⟨.inr rfl, _, rfl, by rw [needN, needE, if_neg c0, if_neg c0, if_pos (.inl h1), if_pos (.inl h1)]; rfl, .refl _⟩
    ·
      rw [decide_eq_false h1]
      refine sG rfl rfl ?_
      refine sMv (v := .int .i64 most) rfl ?_
      refine sG rfl rfl ?_
      refine sBinI (v := .bool (decide (4 < most))) rfl rfl aInt_gtrI ?_
      refine sP (v := .bool _) rfl ?_
      refine sNil (kSeqN ?_)
      refine cCond (p := 4 < most) rfl (fun c2 => ?_) (fun c2 => ?_)
      ·
        refine cSeq ?_
        refine cRegion ?_
        refine sAs (v := nv 0) rfl ?_
        refine sAs (v := nv 3) rfl ?_
        refine sNil (kSeqN ?_)
        refine cRet (kSeqR ?_)
        exact ⟨.inr rfl, _, rfl, by rw [needN, needE, if_neg c0, if_neg c0, if_pos (.inr c2), if_pos (.inr c2)]; rfl, .refl _⟩
      ·
        obtain ⟨G, rfl⟩ : ∃ G : Nat, most = Int.ofNat G := ⟨most.toNat, by simp; omega⟩
        have hG : G ≤ 4 := by have : ¬ (4 < (G : Int)) := c2; omega
        obtain ⟨L, rfl, hLl, hnd, hL8⟩ := wide_nat h0
        obtain ⟨hn1, hn3, hn0⟩ := wide_len hL8
        have hm : ¬ (Int.ofNat G < 0 ∨ 4 < Int.ofNat G) := fun h => h.elim h1 c2
        rw [ofs_length, nats_ofs, show (Int.ofNat G).toNat = G from rfl] at hlast
        rw [show wideN (ofs L) = lenN L.length by rw [wideN, if_pos h0, ofs_length], ofs_length]
        generalize lenN L.length = n at *
        refine cSkip (kSeqN ?_)
        refine cSeq ?_
        refine cSeq ?_
        refine cRegion ?_
        refine sMv (v := nv n) rfl ?_
        refine sMv (v := nv G) rfl ?_
        obtain ⟨v26, m26, h26, ⟨bo, capo, co, rfl, go, xo⟩, e26⟩ := spec_Levels (m := m) hn3 hG
        rw [lvls_len] at *
        refine sCall2 rfl call90 rfl rfl h26 ?_
        refine sLen T119 rfl ?_
        refine sMv (v := nv 0) rfl ?_
        refine sNil (kSeqN ?_)
        refine cBlock ?_
        refine wpC_loop (fun k ρ m' => ∃ d, k = G + 1 - d ∧ d ≤ G + 1 ∧ (∀ j, j < d → ¬ L ∈ lvl n j) ∧ m26 = m' ∧ Has ρ [(0, .slice q L.length cap), (26, .slice (some ⟨bo, 0, some 1⟩) (G + 1) capo), (27, nv (G + 1)), (28, nv d)]) ⟨0, rfl, Nat.zero_le _, by omega, rfl, by rw [← ofs_length]; rfl, rfl, rfl, rfl, trivial⟩ ?_
        rintro k ρ _ ⟨d, rfl, hd, hr, rfl, hh⟩
        rw [hh.env]; clear hh
        refine cSeq ?_
        refine cRegion ?_
        refine sBin rfl rfl (aInt_lss) ?_
        refine sNil (kSeqN ?_)
        refine cSeq ?_   -- seq 12
        refine cCond rfl (fun c3 => ?_) (fun c3 => ?_)
        ·
          obtain ⟨s, hs, hI⟩ := xo d (lvl n d) (by rw [List.getElem?_map, List.getElem?_range (by omega)]; rfl)
          obtain ⟨qs, cs, rfl⟩ := hI.len
          rw [ofs2_length] at *
          have hll : (lvl n d).length < 1000000 := by
            have h1 := (lvS_len hn3 d).2.1
            have h2 := lvS_30000 (d := d) hn3 (by omega)
            unfold lvl; rw [List.length_drop]; omega
          refine cSkip (kSeqN ?_)
          refine cSeq ?_
          refine cBlock ?_
          refine cSeq ?_
          refine cRegion ?_
          refine sMv (v := nv _) rfl ?_
          refine sIx T119 S34 rfl rfl (show d < G + 1 by omega) ?_
          refine sLd (v := .slice qs (lvl n d).length cs) A34 rfl go (by simpa using hs) ?_
          refine sAs (v := nv _) rfl ?_
          refine sAs (v := .slice _ _ _) rfl ?_
          refine sNil (kSeqN ?_)
          refine cSeq ?_
          refine cRegion ?_
          refine sMv (v := .slice _ _ _) rfl ?_
          refine sMv (v := .slice _ _ _) rfl ?_
          obtain ⟨v35, m35, h35, rfl, rfl⟩ := spec_has hI (ha.ext e26) (by rw [ofs_length] at hl; exact hl) hll
          rw [ofs_length] at h35
          refine sCall2 rfl call91 rfl rfl h35 ?_
          refine sNil (kSeqN ?_)
          refine cCond (p := L ∈ lvl n d) rfl (fun c4 => ?_) (fun c4 => ?_)
          ·
            refine cSeq ?_
            refine cRegion ?_
            refine sMv (v := nv _) rfl ?_
            refine sAs (v := nv _) rfl ?_
            refine sAs (v := nv 0) rfl ?_
            refine sNil (kSeqN ?_)
            refine cRet (kBlkR (kSeqR (kSeqR (kBlkR (kSeqR ?_)))))
            have hf : needF n L G = some d := find_range (by omega) (decide_eq_true c4) fun j hj => decide_eq_false (hr j hj)
            obtain ⟨a1, a2⟩ := hlast d 0 (fun _ => by rw [hf]; exact ⟨rfl, rfl⟩) hm
            exact ⟨.inr rfl, _, rfl, by rw [a1, a2]; rfl, e26⟩
          ·
            refine cSkip (kBlkN (kSeqN ?_))
            refine cRegion ?_
            refine sBin rfl rfl (aInt_add (b := 1) (by omega)) ?_
            refine sMv (v := nv _) rfl ?_
            refine sNil (kSeqN ?_)
            refine ⟨_, ?_, d + 1, rfl, by omega, fun j hj => ?_, rfl, rfl, rfl, rfl, rfl, trivial⟩
            · omega
            · by_cases h : j = d
              · subst h; exact c4
              · exact hr j (by omega)
        ·
          refine cExit (kSeqE (kSeqE (kBlkS (kSeqN ?_))))
          refine cSeq ?_
          refine cRegion ?_
          refine sAs (v := nv 0) rfl ?_
          refine sAs (v := nv 6) rfl ?_
          refine sNil (kSeqN ?_)
          refine cRet ?_
          have hf : needF n L G = none := find_none fun j hj => decide_eq_false (hr j (by omega))
          obtain ⟨a1, a2⟩ := hlast 0 6 (fun _ => by rw [hf]; exact ⟨rfl, rfl⟩) hm
          exact ⟨.inr rfl, _, rfl, by rw [a1, a2]; rfl, e26⟩
theorem okf94 : okF Tryd.prog H0 94 19 = true := by kernel_rfl
theorem spec_Through {m : Mem} {N n x : Nat} {s : Value} {cs : Array Value} {Gs : List (Nat × List Nat)} (hG : OwnG N m s cs Gs) (hc : CircOk n Gs) (hx : x < 2 ^ n) : ∃ v m', ACalls Tryd.prog 94 #[.agg #[nv n, nv 0, s], nv x] m v m' ∧ (v = nv (runM Gs x) ∧ Ext m m') := by
  obtain ⟨q, cap, rfl⟩ := hG.1.len
  obtain ⟨h1, h10, hf, hall⟩ := hc
  have h2n : 2 ^ n ≤ 2 ^ 10 := Nat.pow_le_pow_right (by decide) h10
  refine wpF (args := [_, _]) mixed okf94 (fn := Tryd.f94) rfl rfl rfl (by simp) ?_
  refine cSeq ?_
  refine cRegion ?_
  refine sBox (v := .agg _) rfl ?_
  change wpOps _ _ _ _ _ (m.push (.cells true #[nv n, nv 0, .slice q Gs.length cap]))
  have e1 : Ext m (m.push (.cells true #[nv n, nv 0, .slice q Gs.length cap])) := .push _ _
  have g1 : Mem.get (m.push (.cells true #[nv n, nv 0, .slice q Gs.length cap])) m.size = .cells true #[nv n, nv 0, .slice q Gs.length cap] := gP rfl
  generalize m.push (.cells true #[nv n, nv 0, .slice q Gs.length cap]) = M at *
  refine sAs (v := nv 0) rfl ?_
  refine sNil (kSeqN ?_)
  refine cSeq ?_
  refine cSeq ?_
  refine cRegion ?_
  refine sFA F30_2 rfl ?_
  refine sLd (v := .slice q Gs.length cap) A28 rfl g1 rfl ?_
  refine sLen T28 rfl ?_
  refine sMv (v := nv 0) rfl ?_
  refine sNil (kSeqN ?_)
  refine cBlock ?_
  refine wpC_loop (fun k ρ m' => ∃ i, k = Gs.length - i ∧ i ≤ Gs.length ∧ Ext M m' ∧ runM (Gs.take i) x < 2 ^ n ∧ Has ρ [(1, nv (runM (Gs.take i) x)), (8, .slice q Gs.length cap), (9, nv Gs.length), (10, nv i)]) ⟨0, rfl, Nat.zero_le _, .refl _, hx, rfl, rfl, rfl, rfl, trivial⟩ ?_
  rintro k ρ m' ⟨i, rfl, hi, hE, hxl, hh⟩
  rw [hh.env]; clear hh
  refine cSeq ?_
  refine cRegion ?_
  refine sBin rfl rfl (aInt_lss) ?_
  refine sNil (kSeqN ?_)
  refine cSeq ?_   -- seq 4
  refine cCond rfl (fun c0 => ?_) (fun c0 => ?_)
  ·
    obtain ⟨g, hgi⟩ : ∃ g, Gs[i]? = some g := ⟨_, List.getElem?_eq_getElem c0⟩
    have hgo := hall g (List.mem_of_getElem? hgi)
    obtain ⟨b2, cp2, cc, ws, ee, gb, hcs, hex, hws⟩ := (hG.ext (e1.trans hE)).gate hgi
    cases ee
    obtain ⟨qw, cw, rfl⟩ := hws.ints.lenN
    have hkd : g.1 = kindM (g.2.length - 1) ∧ 0 < g.2.length ∧ g.2.length ≤ 3 := by
      rcases hgo.kind with ⟨a1, a2⟩ | ⟨a1, a2⟩ | ⟨a1, a2⟩ <;> rw [a1, a2] <;> decide
    have hrt := runM_take hgi x
    refine cSkip (kSeqN ?_)
    refine cSeq ?_
    refine cBlock ?_
    refine cSeq ?_
    refine cRegion ?_
    refine sIx T28 S49 rfl rfl c0 ?_
    refine sLdA A49 S49 rfl gb (by omega) ?_
    rw [hex]
    refine sAllocB (bl := m'.size) rfl Z49 (by kernel_rfl) ?_
    refine sStNAB rfl S49 rfl rfl rfl rfl (by kernel_rfl) ?_
    have eg : Ext m' (m'.push (.cells true #[nv g.1, .slice qw g.2.length cw, nv 0, nv 0])) := .push _ _
    have gg : Mem.get (m'.push (.cells true #[nv g.1, .slice qw g.2.length cw, nv 0, nv 0])) m'.size = .cells true #[nv g.1, .slice qw g.2.length cw, nv 0, nv 0] := gP rfl
    generalize m'.push (.cells true #[nv g.1, .slice qw g.2.length cw, nv 0, nv 0]) = M6 at *
    refine sNil (kSeqN ?_)
    refine cRegion ?_
    refine sLdAll A49 S49 rfl gg rfl ?_
    refine sMv (v := nv _) rfl ?_
    obtain ⟨v16, m16, h16, rfl, e16⟩ := spec_Done (x := runM (Gs.take i) x) (hws.ext eg) hkd.2.1 hkd.2.2 hkd.1 (fun y hy => by have := hgo.lt y hy; omega) (by omega)
    rw [← hrt] at h16
    refine sCall2 rfl call82 rfl rfl h16 ?_
    refine sAs (v := nv _) rfl ?_
    refine sNil (kBlkN (kSeqN ?_))
    refine cRegion ?_
    refine sBin rfl rfl (aInt_add (b := 1) (by omega)) ?_
    refine sMv (v := nv _) rfl ?_
    refine sNil (kSeqN ?_)
    refine ⟨_, ?_, i + 1, rfl, by omega, (hE.trans eg).trans e16, ?_, rfl, rfl, rfl, rfl, trivial⟩
    · omega
    · rw [hrt]; exact turnM_lt hxl (fun y hy => hgo.lt y hy) hkd.2.1
  ·
    obtain rfl : i = Gs.length := by omega
    rw [List.take_length]
    refine cExit (kSeqE (kSeqE (kBlkS (kSeqN ?_))))
    refine cSeq ?_
    refine cRegion ?_
    refine sMv (v := nv _) rfl ?_
    refine sAs (v := nv _) rfl ?_
    refine sNil (kSeqN ?_)
    refine cRet ?_
    exact ⟨.inr rfl, _, rfl, rfl, e1.trans hE⟩
theorem okf34 : okF Tryd.prog H0 34 19 = true := by kernel_rfl
theorem spec_All {m : Mem} {N n : Nat} {s : Value} {cs : Array Value} {Gs : List (Nat × List Nat)} (hG : OwnG N m s cs Gs) (hc : CircOk n Gs) : ∃ v m', ACalls Tryd.prog 34 #[.agg #[nv n, nv 0, s]] m v m' ∧ (OwnF m.size m' v (ofs (rtabM n Gs)) ∧ Ext m m') := by
  obtain ⟨q, cap, rfl⟩ := hG.1.len
  have h1 := hc.one
  have h10 := hc.ten
  have h2n : 2 ^ n ≤ 2 ^ 10 := Nat.pow_le_pow_right (by decide) h10
  refine wpF (args := [_]) mixed okf34 (fn := Tryd.f34) rfl rfl rfl (by simp) ?_
  refine cSeq ?_
  refine cRegion ?_
  refine sBox (v := .agg _) rfl ?_
  change wpOps _ _ _ _ _ (m.push (.cells true #[nv n, nv 0, .slice q Gs.length cap]))
  have e1 : Ext m (m.push (.cells true #[nv n, nv 0, .slice q Gs.length cap])) := .push _ _
  have g1 : Mem.get (m.push (.cells true #[nv n, nv 0, .slice q Gs.length cap])) m.size = .cells true #[nv n, nv 0, .slice q Gs.length cap] := gP rfl
  have z1 : (m.push (.cells true #[nv n, nv 0, .slice q Gs.length cap])).size = m.size + 1 := by simp
  generalize m.push (.cells true #[nv n, nv 0, .slice q Gs.length cap]) = M at *
  refine sAs (v := .slice _ _ _) rfl ?_
  refine sNil (kSeqN ?_)
  refine cSeq ?_
  refine cRegion ?_
  refine sAs (v := .slice _ _ _) rfl ?_
  refine sNil (kSeqN ?_)
  refine cSeq ?_
  refine cSeq ?_
  refine cRegion ?_
  refine sAs (v := nv 0) rfl ?_
  refine sNil (kSeqN ?_)
  refine cBlock ?_
  refine wpC_loop (fun k ρ m' => ∃ i v, k = 2 ^ n - i ∧ i ≤ 2 ^ n ∧ Ext M m' ∧ OwnF M.size m' v (ofs (rtabUp i Gs)) ∧ Has ρ [(1, .pointer (some ⟨m.size, 0, none⟩)), (3, v), (4, nv i)]) ⟨0, _, rfl, Nat.zero_le _, .refl _, .nil _ _, rfl, rfl, rfl, trivial⟩ ?_
  rintro k ρ m' ⟨i, v, rfl, hi, hE, hO, hh⟩
  obtain ⟨qv, cv, rfl⟩ := hO.ints.lenN
  rw [hh.env]; clear hh
  have g1' := hE.cells g1
  have hz := hE.1
  have hul : (rtabUp i Gs).length = i := by simp [rtabUp]
  refine cSeq ?_   -- seq 4
  refine cSeq ?_
  refine cRegion ?_
  refine sMv (v := nv _) rfl ?_
  refine sFA F30_0 rfl ?_
  refine sLd (v := nv n) A3 rfl g1' rfl ?_
  refine sBin rfl rfl (aInt_shl (a := 1) (by omega)) ?_
  rw [Nat.shiftLeft_eq, Nat.one_mul]
  refine sBin (a := i) (b := 2 ^ n) rfl rfl aInt_lss ?_
  refine sNil (kSeqN ?_)
  refine cCond rfl (fun c0 => ?_) (fun c0 => ?_)
  ·
    refine cSkip (kSeqN ?_)
    refine cSeq ?_
    refine cBlock ?_
    refine cRegion ?_
    refine sMv (v := .slice _ _ _) rfl ?_
    refine sLdAll A30 S30 rfl g1' rfl ?_
    refine sMv (v := nv _) rfl ?_
    obtain ⟨v15, m15, h15, rfl, e15⟩ := spec_Through (x := i) (hG.ext (e1.trans hE)) hc c0
    refine sCall2 rfl call94 rfl rfl h15 ?_
    have z15 := e15.1
    refine sBuildS T22 S3 Z3 (by decide) (by decide) (by decide) (by kernel_rfl) fill1 rfl ?_
    refine sApp App22 rfl rfl (N := M.size) ((hO.ext e15).ext (.push _ _)) one_ints (by simp; omega) (by rw [ofs_length, hul]; simp; omega) fun v3 m3 hO3 hL3 => ?_
    rw [show ofs (rtabUp i Gs) ++ [Int.ofNat (runM Gs i)] = ofs (rtabUp (i + 1) Gs) by rw [rtabUp, rtabUp, List.range_succ, List.map_append, ofs_append]; rfl] at hO3
    obtain ⟨q3, cp3, rfl⟩ := hO3.ints.lenN
    refine sAs (v := .slice _ _ _) rfl ?_
    refine sNil (kBlkN (kSeqN ?_))
    refine cRegion ?_
    refine sMv (v := nv _) rfl ?_
    refine sBin rfl rfl (aInt_add (b := 1) (by omega)) ?_
    refine sAs (v := nv _) rfl ?_
    refine sNil (kSeqN ?_)
    refine ⟨_, ?_, i + 1, _, rfl, by omega, Low.to_ext ((hE.trans e15).trans (.push _ _)) hL3 (Nat.le_refl _), hO3, rfl, rfl, rfl, trivial⟩
    omega
  ·
    obtain rfl : i = 2 ^ n := by omega
    refine cExit (kSeqE (kSeqE (kBlkS (kSeqN ?_))))
    refine cSeq ?_
    refine cRegion ?_
    refine sMv (v := .slice _ _ _) rfl ?_
    refine sAs (v := .slice _ _ _) rfl ?_
    refine sNil (kSeqN ?_)
    refine cRet ?_
    exact ⟨.inr rfl, _, rfl, hO.mono (by omega), e1.trans hE⟩
theorem okf33 : okF Tryd.prog H0 33 6 = true := by kernel_rfl
theorem spec_noSwap {m : Mem} {k : Nat} {q : Option Addr} {n c : Nat} (hk : k ≠ 11) : ∃ v m', ACalls Tryd.prog 33 #[.agg #[nv k, .slice q n c, nv 0, nv 0]] m v m' ∧ (v = .bool false ∧ Ext m m') := by
  refine wpF (args := [_]) mixed okf33 (fn := Tryd.f33) rfl rfl rfl (by simp) ?_
  refine cSeq ?_
  refine cRegion ?_
  refine sBox (v := .agg _) rfl ?_
  change wpOps _ _ _ _ _ (m.push (.cells true #[nv k, .slice q n c, nv 0, nv 0]))
  refine sAs (v := .bool _) rfl ?_
  refine sNil (kSeqN ?_)
  refine cSeq ?_
  refine cRegion ?_
  refine sFA F49_0 rfl ?_
  refine sLd (v := nv k) A3 rfl (gP rfl) rfl ?_
  refine sBin (v := .bool false) (a := k) (b := 11) rfl rfl (by rw [aInt_eql, decide_eq_false hk]) ?_
  refine sAs (v := .bool _) rfl ?_
  refine sNil (kSeqN ?_)
  refine cRet ?_
  exact ⟨.inr rfl, _, rfl, rfl, .push _ _⟩
theorem spec_IndexSwap {m : Mem} {N n : Nat} {s : Value} {cs : Array Value} {Gs : List (Nat × List Nat)} (hG : OwnG N m s cs Gs) (hc : CircOk n Gs) : ∃ v m', ACalls Tryd.prog 93 #[s, .func (.func 33) #[] #[]] m v m' ∧ (v = .int .i64 (-1) ∧ Ext m m') := by
  obtain ⟨q, cap, rfl⟩ := hG.1.len
  obtain ⟨h1, h10, hf, hall⟩ := hc
  refine wpF (args := [_, _]) mixed okf93 (fn := Tryd.f93) rfl rfl rfl (by simp) ?_
  refine cSeq ?_
  refine cRegion ?_
  refine sAs (v := nv 0) rfl ?_
  refine sNil (kSeqN ?_)
  refine cSeq ?_
  refine cSeq ?_
  refine cRegion ?_
  refine sMv (v := .slice _ _ _) rfl ?_
  refine sLen T28 rfl ?_
  refine sMv (v := nv 0) rfl ?_
  refine sNil (kSeqN ?_)
  refine cBlock ?_
  refine wpC_loop (fun k' ρ m' => ∃ i, k' = Gs.length - i ∧ i ≤ Gs.length ∧ Ext m m' ∧ Has ρ [(0, .slice q Gs.length cap), (1, .func (.func 33) #[] #[]), (7, nv Gs.length), (8, nv i)]) ⟨0, rfl, by omega, .refl _, rfl, rfl, rfl, rfl, trivial⟩ ?_
  rintro k' ρ m' ⟨i, rfl, hi, X, hh⟩
  rw [hh.env]; clear hh
  refine cSeq ?_
  refine cRegion ?_
  refine sBin rfl rfl (aInt_lss) ?_
  refine sNil (kSeqN ?_)
  refine cSeq ?_   -- seq 4
  refine cCond rfl (fun c0 => ?_) (fun c0 => ?_)
  ·
    obtain ⟨g, hgi⟩ : ∃ g, Gs[i]? = some g := ⟨_, List.getElem?_eq_getElem c0⟩
    have hgo := hall g (List.mem_of_getElem? hgi)
    obtain ⟨b2, cp2, cc, ws, ee, gb, hcs, hex, hws⟩ := (hG.ext X).gate hgi
    cases ee
    obtain ⟨qw, cw, rfl⟩ := hws.ints.lenN
    refine cSkip (kSeqN ?_)
    refine cSeq ?_
    refine cBlock ?_
    refine cSeq ?_
    refine cRegion ?_
    refine sMv (v := nv _) rfl ?_
    refine sAs (v := nv _) rfl ?_
    refine sNil (kSeqN ?_)
    refine cSeq ?_
    refine cRegion ?_
    refine sMv (v := .func _ _ _) rfl ?_
    refine sMv (v := .slice _ _ _) rfl ?_
    refine sMv (v := nv _) rfl ?_
    refine sIx T28 S49 rfl rfl c0 ?_
    refine sLdA A49 S49 rfl gb (by omega) ?_
    rw [hex]
    obtain ⟨v16, m16, h16, rfl, e16⟩ := spec_noSwap (m := m') (k := g.1) (q := qw) (n := g.2.length) (c := cw) (by rcases hgo.kind with h | h | h <;> omega)
    refine sCall1 rfl call33 rfl h16 ?_
    refine sNil (kSeqN ?_)
    refine cCondF rfl ?_
    refine cSkip (kBlkN (kSeqN ?_))
    refine cRegion ?_
    refine sBin rfl rfl (aInt_add (b := 1) (by omega)) ?_
    refine sMv (v := nv _) rfl ?_
    refine sNil (kSeqN ?_)
    refine ⟨_, ?_, i + 1, rfl, by omega, X.trans e16, rfl, rfl, rfl, rfl, trivial⟩
    omega
  ·
    refine cExit (kSeqE (kSeqE (kBlkS (kSeqN ?_))))
    refine cSeq ?_
    refine cRegion ?_
    refine sAs (v := .int .i64 (-1)) rfl ?_
    refine sNil (kSeqN ?_)
    refine cRet ?_
    exact ⟨.inr rfl, _, rfl, rfl, X⟩
theorem spec_ContainsSwap {m : Mem} {N n : Nat} {s : Value} {cs : Array Value} {Gs : List (Nat × List Nat)} (hG : OwnG N m s cs Gs) (hc : CircOk n Gs) : ∃ v m', ACalls Tryd.prog 32 #[s, .func (.func 33) #[] #[]] m v m' ∧ (v = .bool false ∧ Ext m m') := by
  obtain ⟨q, cap, rfl⟩ := hG.1.len
  refine wpF (args := [_, _]) mixed okf32 (fn := Tryd.f32) rfl rfl rfl (by simp) ?_
  refine cSeq ?_
  refine cRegion ?_
  refine sAs (v := .bool _) rfl ?_
  refine sNil (kSeqN ?_)
  refine cSeq ?_
  refine cRegion ?_
  refine sMv (v := .slice _ _ _) rfl ?_
  refine sMv (v := .func _ _ _) rfl ?_
  obtain ⟨v7, m7, h7, rfl, e7⟩ := spec_IndexSwap hG hc
  refine sCall2 rfl call93 rfl rfl h7 ?_
  refine sBinI (v := .bool false) (a := -1) (b := 0) rfl rfl (by rw [aInt_geqI]; rfl) ?_
  refine sAs (v := .bool _) rfl ?_
  refine sNil (kSeqN ?_)
  refine cRet ?_
  exact ⟨.inr rfl, _, rfl, rfl, e7⟩
end Go.AM

/-! ### N9 -/
namespace Go.AM
open Go.Proofs
set_option maxRecDepth 100000
set_option linter.unusedVariables false
set_option linter.unusedSimpArgs false
theorem KeyOk.try {n k : Nat} {L : List Met} {e : Met} {g : Nat × List Nat} (h : KeyOk L) : KeyOk (tryR n e g k L) := by
  unfold tryR
  by_cases hs : (metFind (nextT n g e.tab) L).isSome
  · rw [if_pos hs]; exact h
  · rw [if_neg hs]
    refine h.add ?_
    show metFind (nextT n g e.tab) L = none
    cases hf : metFind (nextT n g e.tab) L with
    | none => rfl
    | some x => rw [hf] at hs; exact absurd rfl hs
theorem KeyOk.tries {n : Nat} {e : Met} : ∀ (gs : List (Nat × List Nat)) (k : Nat) (L : List Met), KeyOk L → KeyOk (triesR n e gs k L)
  | [], k, L, h => h
  | g :: gs, k, L, h => KeyOk.tries gs (k + 1) _ h.try
theorem KeyOk.run {n most : Nat} : ∀ (f i : Nat) (L : List Met), KeyOk L → KeyOk (runR n most f i L)
  | 0, i, L, h => h
  | f + 1, i, L, h => by
    simp only [runR]
    split
    · refine KeyOk.run f (i + 1) _ ?_
      unfold roundR
      split
      · exact h
      · exact KeyOk.tries _ 0 L h
    · exact h
theorem reachM_key (n most : Nat) : KeyOk (reachM n most) := KeyOk.run _ _ _ (.one _)
theorem tryR_app {n k : Nat} {L : List Met} {e : Met} {g : Nat × List Nat} : ∃ S, tryR n e g k L = L ++ S := by
  unfold tryR
  split
  · exact ⟨[], by simp⟩
  · exact ⟨_, rfl⟩
theorem triesR_app {n : Nat} {e : Met} : ∀ (gs : List (Nat × List Nat)) (k : Nat) (L : List Met), ∃ S, triesR n e gs k L = L ++ S
  | [], k, L => ⟨[], by simp [triesR]⟩
  | g :: gs, k, L => by
    obtain ⟨S, h⟩ := tryR_app (n := n) (k := k) (L := L) (e := e) (g := g)
    obtain ⟨T, h'⟩ := triesR_app (n := n) (e := e) gs (k + 1) (tryR n e g k L)
    exact ⟨S ++ T, by rw [triesR, h', h, List.append_assoc]⟩
theorem runR_app {n most : Nat} : ∀ (f i : Nat) (L : List Met), ∃ S, runR n most f i L = L ++ S
  | 0, i, L => ⟨[], by simp [runR]⟩
  | f + 1, i, L => by
    rw [runR]
    split
    · rename_i e he
      obtain ⟨S, h⟩ : ∃ S, roundR n most e L = L ++ S := by
        unfold roundR
        split
        · exact ⟨[], by simp⟩
        · exact triesR_app _ _ _
      obtain ⟨T, h'⟩ := runR_app (n := n) (most := most) f (i + 1) (roundR n most e L)
      exact ⟨S ++ T, by rw [h', h, List.append_assoc]⟩
    · exact ⟨[], by simp⟩
theorem lvl_met {n most d : Nat} {q : List Nat} (hn : n ≤ 3) (hm : most ≤ 4) (hd : d ≤ most) (hq : q ∈ lvl n d) : ∃ e, metFind (tab8 q) (reachM n most) = some e ∧ e.many = d := by
  obtain ⟨L, h1, h2, h3⟩ := level_cor hn hm d hd
  obtain ⟨S, h4⟩ := runR_app (n := n) (most := most) (30000 - (lvS n d).1) (lvS n d).1 L
  rw [← h3] at h4
  obtain ⟨i, hi, e1⟩ := List.getElem_of_mem hq
  unfold lvl at hi e1
  rw [List.length_drop] at hi
  rw [List.getElem_drop] at e1
  have hj : (lvS n d).1 + i < L.length := by omega
  obtain ⟨e, he, ht, _⟩ := h1.at hj
  have hg : (lvS n d).2.getD ((lvS n d).1 + i) [] = q := by
    rw [List.getD_eq_getElem?_getD, List.getElem?_eq_getElem (by omega), e1]; rfl
  rw [hg] at ht
  have hm' := h1.mid _ e he (by omega) (by omega)
  have hmem : e ∈ reachM n most := by rw [h4]; exact List.mem_append_left _ (List.mem_of_getElem? he)
  have := reachM_key n most e hmem
  rw [ht] at this
  exact ⟨e, this, hm'⟩
theorem lvS_lvl {n : Nat} (hn : n ≤ 3) : ∀ d q, q ∈ (lvS n d).2 → ∃ j, j ≤ d ∧ q ∈ lvl n j
  | 0, q, h => ⟨0, Nat.le_refl _, h⟩
  | d + 1, q, h => by
    obtain ⟨R, e, _⟩ := lvRun_app n ((lvS n d).2.length - (lvS n d).1) (lvS n d).1 (lvS n d).2
    have e' : (lvS n (d + 1)).2 = (lvS n d).2 ++ R := e
    rw [e', List.mem_append] at h
    rcases h with h | h
    · obtain ⟨j, hj, hq⟩ := lvS_lvl hn d q h
      exact ⟨j, by omega, hq⟩
    · refine ⟨d + 1, Nat.le_refl _, ?_⟩
      unfold lvl
      rw [e', show (lvS n (d + 1)).1 = (lvS n d).2.length from rfl, List.drop_append_of_le_length (Nat.le_refl _), List.drop_length]
      simpa using h
theorem need_met {n most : Nat} {q : List Nat} (hn : n ≤ 3) (hm : most ≤ 4) (hq : PermT n q) : needF n q most = (metFind (tab8 q) (reachM n most)).map (·.many) := by
  have hc := reach_cor hn hm
  have hf := find_mem hc.tab hc.per hq
  cases hx : metFind (tab8 q) (reachM n most) with
  | none =>
    refine find_none fun j hj => decide_eq_false fun h => ?_
    obtain ⟨e, h1, _⟩ := lvl_met hn hm (show j ≤ most by omega) h
    rw [hx] at h1; cases h1
  | some e =>
    rw [hx] at hf
    obtain ⟨j, hj, hl⟩ := lvS_lvl hn most q (hf.1 rfl)
    have key : ∀ d, d ≤ most → q ∈ lvl n d → e.many = d := fun d hd hl => by
      obtain ⟨e', h1, h2⟩ := lvl_met hn hm hd hl
      rw [hx] at h1
      obtain rfl := Option.some.inj h1
      exact h2
    have hej := key j hj hl
    show needF n q most = some e.many
    rw [hej]
    exact find_range (by omega) (decide_eq_true hl) fun i hi => decide_eq_false fun h => by have := key i (by omega) h; omega
theorem gates_okD : ∀ n < 4, ∀ g ∈ gatesM n, ((g.1 = 1 ∧ g.2.length = 1) ∨ (g.1 = 9 ∧ g.2.length = 2) ∨ (g.1 = 12 ∧ g.2.length = 3)) ∧ (∀ w ∈ g.2, w < n) ∧ g.2.Nodup := by decide +kernel
theorem rtab_snoc {n : Nat} (Gs : List (Nat × List Nat)) (g : Nat × List Nat) : rtabM n (Gs ++ [g]) = doL g.2 (rtabM n Gs) := by
  unfold rtabM doL
  rw [List.map_map]
  apply List.map_congr_left
  intro x _
  unfold runM
  rw [List.foldl_append]; rfl
theorem path_spec {n most : Nat} (hn : n ≤ 3) (hm : most ≤ 4) : ∀ (f : Nat) (e : Met) (q : List Nat), e ∈ reachM n most → e.tab = tab8 q → PermT n q → e.many ≤ f →
    (pathM n (reachM n most) f e.tab).length = e.many ∧ (∀ g ∈ pathM n (reachM n most) f e.tab, g ∈ gatesM n) ∧ rtabM n (pathM n (reachM n most) f e.tab).reverse = q := by
  intro f
  have hbase : ∀ (e : Met) (q : List Nat), e = met0 n → e.tab = tab8 q → PermT n q → rtabM n [] = q := fun e q he ht hq => by
    subst he
    have h1 : idM n = tab8 q := ht
    rw [id_tab8 hn] at h1
    have := tab8_inj (by rw [hq.1]; simp) h1
    rw [← this]
    unfold rtabM runM
    simp
  have hc := reach_cor hn hm
  induction f with
  | zero =>
    intro e q he ht hq hf
    rcases reachM_met n most e he with h | ⟨e', _, k, g, _, h⟩
    · exact ⟨by rw [pathM]; simp; omega, by simp [pathM], by rw [pathM]; exact hbase e q h ht hq⟩
    · rw [h] at hf; simp [stepOf] at hf
  | succ f ih =>
    intro e q he ht hq hf
    have hk := reachM_key n most e he
    rw [pathM, hk]
    simp only []
    rcases reachM_met n most e he with h | ⟨e', he', k, g, hg, h⟩
    · have h0 : e.many = 0 := by rw [h]; rfl
      rw [if_pos h0]
      exact ⟨by simp [h0], by simp, hbase e q h ht hq⟩
    · have h0 : e.many = e'.many + 1 := by rw [h]; rfl
      have hs : e.src = e'.tab := by rw [h]; rfl
      have hgt : (gatesM n).getD e.gate.toNat (0, []) = g := by
        have : e.gate = (k : Int) := by rw [h]; rfl
        rw [this, List.getD_eq_getElem?_getD]
        simp [hg]
      rw [if_neg (by omega), hs, hgt]
      obtain ⟨i, hi, e1⟩ := List.getElem_of_mem he'
      obtain ⟨e2, he2, ht2, hp2⟩ := hc.at hi
      rw [List.getElem?_eq_getElem hi, e1] at he2
      obtain rfl := Option.some.inj he2
      obtain ⟨a1, a2, a3⟩ := ih e' _ he' ht2 hp2 (by omega)
      have hgm := List.mem_of_getElem? hg
      refine ⟨by rw [List.length_cons, a1, h0], fun x hx => ?_, ?_⟩
      · rcases List.mem_cons.1 hx with rfl | hx
        · exact hgm
        · exact a2 x hx
      · rw [List.reverse_cons, rtab_snoc, a3]
        have h5 : e.tab = nextT n g e'.tab := by rw [h]; rfl
        rw [ht, ht2, next_tab8 hn hp2] at h5
        exact (tab8_inj (hq.1.trans (hp2.next hgm).1.symm) h5).symm
/-- A shortest circuit is right, is as long as it must be, and makes the permutation. -/
theorem short_spec {p : List Int} {most : Int} : needE p most = shortE p most ∧ (shortP p most).length = needN p most ∧ (shortP p most).length ≤ 4 ∧ (shortE p most = 0 → ∃ L, p = ofs L ∧ wideE p = 0 ∧ CircOk (lenN p.length) (shortP p most) ∧ rtabM (lenN p.length) (shortP p most) = L) ∧ ∀ g ∈ shortP p most, g.2.length ≤ 3 := by
  by_cases h0 : wideE p = 0
  · by_cases hm : most < 0 ∨ 4 < most
    · have e1 : shortE p most = 3 := by rw [shortE, if_neg (fun h => h h0), if_pos hm]
      have e2 : shortP p most = [] := by rw [shortP, e1]; rfl
      have n1 : needE p most = 3 := by rw [needE, if_neg (fun h => h h0), if_pos hm]
      have n2 : needN p most = 0 := by rw [needN, if_neg (fun h => h h0), if_pos hm]
      rw [n1, n2, e1, e2]
      exact ⟨rfl, rfl, by simp, fun h => by omega, by simp⟩
    · obtain ⟨L, rfl, hLl, hnd, hL8⟩ := wide_nat h0
      obtain ⟨hn1, hn3, hn0⟩ := wide_len hL8
      obtain ⟨G, rfl⟩ : ∃ G : Nat, most = Int.ofNat G := ⟨most.toNat, by simp; omega⟩
      have hG : G ≤ 4 := by have : ¬ (4 < (G : Int)) := fun h => hm (.inr h); omega
      have hq : PermT (lenN L.length) L := ⟨hn1, fun x hx => by rw [← hn1]; exact hLl x hx⟩
      have hnm := need_met hn3 hG hq
      have eE : shortE (ofs L) (Int.ofNat G) = if tab8 L = idM (lenN L.length) then 0 else if (metFind (tab8 L) (reachM (lenN L.length) G)).isSome then 0 else 6 := by
        rw [shortE, if_neg (fun h => h h0), if_neg hm, nats_ofs, ofs_length]; rfl
      have eP : shortP (ofs L) (Int.ofNat G) = if shortE (ofs L) (Int.ofNat G) = 0 then (if tab8 L = idM (lenN L.length) then [] else (pathM (lenN L.length) (reachM (lenN L.length) G) 6 (tab8 L)).reverse) else [] := by
        rw [shortP, nats_ofs, ofs_length]; rfl
      have nE : needE (ofs L) (Int.ofNat G) = if (needF (lenN L.length) L G).isSome then 0 else 6 := by
        rw [needE, if_neg (fun h => h h0), if_neg hm, nats_ofs, ofs_length]; rfl
      have nN : needN (ofs L) (Int.ofNat G) = (needF (lenN L.length) L G).getD 0 := by
        rw [needN, if_neg (fun h => h h0), if_neg hm, nats_ofs, ofs_length]; rfl
      have e0 : (ofs L).length = L.length := ofs_length L
      rw [nE, nN, eP, eE, e0]
      clear eE eP nE nN
      generalize lenN L.length = n at *
      have hid : tab8 L = idM n → (needF n L G = some 0) ∧ rtabM n [] = L := fun h => by
        have : L = List.range (2 ^ n) := tab8_inj (by rw [hn1]; simp) (by rw [h, id_tab8 hn3])
        refine ⟨find_range (by omega) (decide_eq_true ?_) (fun j hj => by omega), ?_⟩
        · rw [this]; simp [lvl, lvS]
        · rw [this]; unfold rtabM runM; simp
      by_cases ht : tab8 L = idM n
      · obtain ⟨a1, a2⟩ := hid ht
        rw [if_pos ht, a1]
        simp only [if_true]
        exact ⟨rfl, by rw [if_pos ht]; rfl, by rw [if_pos ht]; simp, fun _ => ⟨L, rfl, h0, by rw [if_pos ht]; exact ⟨by omega, by omega, by simp, by simp⟩, by rw [if_pos ht]; exact a2⟩, by rw [if_pos ht]; simp⟩
      · rw [if_neg ht]
        cases hx : metFind (tab8 L) (reachM n G) with
        | none =>
          rw [hx] at hnm
          rw [hnm]
          refine ⟨rfl, rfl, by simp, fun h => ?_, by simp⟩
          simp at h
        | some e =>
          rw [hx] at hnm
          rw [hnm]
          obtain ⟨h1, h2⟩ := metFind_tab hx
          have hc := reach_cor hn3 hG
          have hmany : e.many ≤ 4 := by
            obtain ⟨i, hi, e1⟩ := List.getElem_of_mem h2
            have he := List.getElem?_eq_getElem hi
            rw [e1] at he
            by_cases hia : i < (lvS n G).1
            · have := hc.lo i e he hia; omega
            · have := hc.mid i e he (by omega) (by rw [← hc.len]; exact hi); omega
          obtain ⟨a1, a2, a3⟩ := path_spec hn3 hG 6 e L h2 h1 hq (by omega)
          rw [h1] at a1 a2 a3
          simp only [Option.isSome_some, if_true, if_neg ht, List.length_reverse, a1]
          refine ⟨rfl, rfl, hmany, fun _ => ⟨L, rfl, h0, ⟨by omega, by omega, by rw [List.length_reverse, a1]; omega, fun g hg => ?_⟩, a3⟩, fun g hg => ?_⟩
          · obtain ⟨k1, k2, k3⟩ := gates_okD n (by omega) g (a2 g (List.mem_reverse.1 hg))
            exact ⟨k1, k2, k3⟩
          · obtain ⟨k1, k2, k3⟩ := gates_okD n (by omega) g (a2 g (List.mem_reverse.1 hg))
            omega
  · have e1 : shortE p most = wideE p := by rw [shortE, if_pos h0]
    have e2 : shortP p most = [] := by rw [shortP, e1, if_neg h0]
    have n1 : needE p most = wideE p := by rw [needE, if_pos h0]
    have n2 : needN p most = 0 := by rw [needN, if_pos h0]
    rw [n1, n2, e1, e2]
    exact ⟨rfl, rfl, by simp, fun h => absurd h h0, by simp⟩
end Go.AM

/-! ### R43 -/
namespace Go.AM
open Go.Proofs
set_option maxRecDepth 100000
set_option linter.unusedVariables false
set_option linter.unusedSimpArgs false
theorem okf4 : okF Tryd.prog H0 4 90 = true := by kernel_rfl
theorem spec_ShortestLaw {m : Mem} {a : Value} {p : List Int} {most : Int} (hC : GlobC m) (hW : GlobW m) (ha : IntsAt m a p) (hk : CapOk a) : ∃ v m', ACalls Tryd.prog 4 #[a, .int .i64 most] m v m' ∧ (v = .bool true ∧ Ext m m') := by
  obtain ⟨q, cap, rfl⟩ := ha.len
  refine wpF (args := [_, _]) mixed okf4 (fn := Tryd.f4) rfl rfl rfl (by simp) ?_
  refine cSeq ?_
  refine cRegion ?_
  refine sAs (v := .bool _) rfl ?_
  refine sNil (kSeqN ?_)
  refine cSeq ?_   -- seq 1
  refine cSeq ?_
  refine cRegion ?_
  refine sMv (v := .slice _ _ _) rfl ?_
  refine sLen T22 rfl ?_
  refine sBin (a := p.length) (b := 20) rfl rfl aInt_gtr ?_
  refine sNil (kSeqN ?_)
  refine cCond rfl (fun c0 => ?_) (fun c0 => ?_)
  ·
    refine cSeq ?_
    refine cRegion ?_
    obtain ⟨v15, m15, h15, rfl, e15⟩ := spec_awake hC hW
    refine sCall0 rfl call14 h15 ?_
    refine sAs (v := .bool _) rfl ?_
    refine sNil (kSeqN ?_)
    refine cRet (kSeqR ?_)
    exact ⟨.inr rfl, _, rfl, rfl, e15⟩
  ·
    have hp : p.length ≤ 20 := by omega
    have hl : p.length < 1000000 := by omega
    obtain ⟨hNE, hNN, hS4, hok, hw3⟩ := short_spec (p := p) (most := most)
    refine cSkip (kSeqN ?_)
    refine cSeq ?_
    refine cRegion ?_
    refine sMv (v := .slice _ _ _) rfl ?_
    obtain ⟨v17, m17, h17, o17, e17⟩ := spec_Clone ha (by omega)
    have i17 := o17.ints
    obtain ⟨q17, c17, rfl⟩ := i17.len
    refine sCall1 rfl call15 rfl h17 ?_
    refine sAs (v := .slice _ _ _) rfl ?_
    refine sNil (kSeqN ?_)
    refine cSeq ?_
    refine cRegion ?_
    refine sMv (v := .slice _ _ _) rfl ?_
    refine sMv (v := .int .i64 most) rfl ?_
    obtain ⟨v21, m21, h21, s21, cs21, rfl, o21, e21⟩ := spec_Shortest (most := most) i17 hl
    obtain ⟨q21, c21, rfl⟩ := o21.1.len
    refine sCall2 rfl call29 rfl rfl h21 ?_
    refine sMv (v := .tuple _) rfl ?_
    refine sP (v := .agg _) rfl ?_   -- extract ['t18', '0']
    refine sP (v := nv _) rfl ?_   -- extract ['t18', '1']
    refine sAllocB (bl := m21.size) rfl Z30 (by kernel_rfl) ?_
    refine sStNAB rfl S30 rfl rfl rfl rfl (by kernel_rfl) ?_
    have x6 : Ext m21 (m21.push (.cells true #[nv (shortN p most), nv 0, .slice q21 (shortP p most).length c21])) := .push _ _
    have g6 : Mem.get (m21.push (.cells true #[nv (shortN p most), nv 0, .slice q21 (shortP p most).length c21])) m21.size = .cells true #[nv (shortN p most), nv 0, .slice q21 (shortP p most).length c21] := gP rfl
    have o6 := o21.ext x6
    generalize m21.push (.cells true #[nv (shortN p most), nv 0, .slice q21 (shortP p most).length c21]) = M at *
    refine sAs (v := nv _) rfl ?_
    refine sNil (kSeqN ?_)
    refine cSeq ?_
    refine cRegion ?_
    refine sMv (v := .slice _ _ _) rfl ?_
    refine sMv (v := .int .i64 most) rfl ?_
    obtain ⟨v27, m27, h27, rfl, e27⟩ := spec_Need (most := most) (ha.ext ((e17.trans e21).trans x6)) hk hl
    rw [← hNN, hNE] at h27
    refine sCall2 rfl call30 rfl rfl h27 ?_
    have g27 := e27.cells g6
    have E27 : Ext m17 m27 := (e21.trans x6).trans e27
    refine sMv (v := .tuple _) rfl ?_
    refine sP (v := nv _) rfl ?_   -- extract ['t24', '0']
    refine sP (v := nv _) rfl ?_   -- extract ['t24', '1']
    refine sAs (v := nv _) rfl ?_
    refine sAs (v := nv _) rfl ?_
    refine sNil (kSeqN ?_)
    refine cSeq ?_   -- seq 7
    refine cSeq ?_
    refine cRegion ?_
    refine sMv (v := nv _) rfl ?_
    refine sMv (v := nv _) rfl ?_
    refine sBin (v := .bool false) (a := shortE p most) (b := shortE p most) rfl rfl (neqF rfl) ?_
    refine sMv (v := .bool false) rfl ?_
    refine sG rfl rfl ?_
    refine sFA F30_2 rfl ?_
    refine sG rfl rfl ?_
    refine sLd (v := .slice q21 (shortP p most).length c21) A28 rfl g27 rfl ?_
    refine sG rfl rfl ?_
    refine sLen T28 rfl ?_
    refine sG rfl rfl ?_
    refine sMv (v := nv _) rfl ?_
    refine sG rfl rfl ?_
    refine sBin (v := .bool false) (a := (shortP p most).length) (b := (shortP p most).length) rfl rfl (neqF rfl) ?_
    refine sP (v := .bool false) rfl ?_
    refine sMv (v := .bool false) rfl ?_
    refine sG rfl rfl ?_
    refine sMv (v := .slice _ _ _) rfl ?_
    refine sG rfl rfl ?_
    refine sMv (v := .slice _ _ _) rfl ?_
    refine sG rfl rfl ?_
    have h43 := spec_Equal (i17.ext E27) (ha.ext (e17.trans E27)) (by omega)
    rw [decide_eq_true rfl] at h43
    refine sCall2 rfl call28 rfl rfl h43 ?_
    refine sG rfl rfl ?_
    refine sP (v := .bool false) rfl ?_
    refine sP (v := .bool false) rfl ?_
    refine sNil (kSeqN ?_)
    refine cCondF rfl ?_
    refine cSkip (kSeqN ?_)
    refine cSeq ?_   -- seq 9
    refine cSeq ?_
    refine cRegion ?_
    refine sMv (v := nv _) rfl ?_
    refine sBin (a := shortE p most) (b := 0) rfl rfl aInt_neq ?_
    refine sNil (kSeqN ?_)
    refine cCond (p := shortE p most ≠ 0) rfl (fun c2 => ?_) (fun c2 => ?_)
    ·
      have hN0 : shortN p most = 0 := by rw [shortN, if_neg c2]
      refine cSeq ?_
      refine cRegion ?_
      refine sFA F30_0 rfl ?_
      refine sLd (v := nv (shortN p most)) A3 rfl g27 rfl ?_
      refine sBin (v := .bool true) (a := shortN p most) (b := 0) rfl rfl (by rw [hN0]; exact eqlT rfl) ?_
      refine sMv (v := .bool true) rfl ?_
      refine sG rfl rfl ?_
      refine sFA F30_1 rfl ?_
      refine sG rfl rfl ?_
      refine sLd (v := nv 0) A3 rfl g27 rfl ?_
      refine sG rfl rfl ?_
      refine sBin (v := .bool true) (a := 0) (b := 0) rfl rfl (eqlT rfl) ?_
      refine sP (v := .bool true) rfl ?_
      refine sMv (v := .bool true) rfl ?_
      refine sG rfl rfl ?_
      obtain ⟨v57, m57, h57, rfl, e57⟩ := spec_awake (hC.ext (e17.trans E27)) (hW.ext (e17.trans E27))
      refine sCall0 rfl call14 h57 ?_
      refine sP (v := .bool true) rfl ?_
      refine sAs (v := .bool _) rfl ?_
      refine sNil (kSeqN ?_)
      refine cRet (kSeqR ?_)
      exact ⟨.inr rfl, _, rfl, rfl, (e17.trans E27).trans e57⟩
    ·
      have h0 := Decidable.not_not.1 c2
      obtain ⟨L, hpL, hw0, hc, hrt⟩ := hok h0
      have hN : shortN p most = lenN p.length := by rw [shortN, if_pos h0]
      have hWN : wideN p = lenN p.length := by rw [wideN, if_pos hw0]
      rw [← hN] at hc hrt hWN
      refine cSkip (kSeqN ?_)
      refine cSeq ?_
      refine cRegion ?_
      refine sMv (v := .slice _ _ _) rfl ?_
      obtain ⟨v61, m61, h61, rfl, rfl⟩ := spec_rWide (ha.ext (e17.trans E27)) hk hl
      refine sCall1 rfl call17 rfl h61 ?_
      refine sMv (v := .tuple _) rfl ?_
      refine sP (v := nv _) rfl ?_   -- extract ['t59', '0']
      refine sP (v := nv _) rfl ?_   -- extract ['t59', '1']
      refine sAs (v := nv _) rfl ?_
      refine sAs (v := nv _) rfl ?_
      refine sNil (kSeqN ?_)
      refine cSeq ?_   -- seq 13
      refine cSeq ?_
      refine cRegion ?_
      refine sFA F30_0 rfl ?_
      refine sLd (v := nv (shortN p most)) A3 rfl g27 rfl ?_
      refine sMv (v := nv _) rfl ?_
      refine sBin (v := .bool false) (a := shortN p most) (b := wideN p) rfl rfl (by rw [hWN]; exact neqF rfl) ?_
      refine sMv (v := .bool false) rfl ?_
      refine sG rfl rfl ?_
      refine sFA F30_1 rfl ?_
      refine sG rfl rfl ?_
      refine sLd (v := nv 0) A3 rfl g27 rfl ?_
      refine sG rfl rfl ?_
      refine sBin (v := .bool false) (a := 0) (b := 0) rfl rfl (neqF rfl) ?_
      refine sP (v := .bool false) rfl ?_
      refine sMv (v := .bool false) rfl ?_
      refine sG rfl rfl ?_
      refine sLdAll A30 S30 rfl g27 rfl ?_
      refine sG rfl rfl ?_
      obtain ⟨v75, m75, h75, rfl, e75⟩ := spec_rCheck (o6.ext e27) hc
      refine sCall1 rfl call31 rfl h75 ?_
      have g75 := e75.cells g27
      refine sG rfl rfl ?_
      refine sBin (v := .bool false) (a := 0) (b := 0) rfl rfl (neqF rfl) ?_
      refine sP (v := .bool false) rfl ?_
      refine sMv (v := .bool false) rfl ?_
      refine sG rfl rfl ?_
      refine sFA F30_2 rfl ?_
      refine sG rfl rfl ?_
      refine sLd (v := .slice q21 (shortP p most).length c21) A28 rfl g75 rfl ?_
      refine sG rfl rfl ?_
      obtain ⟨v81, m81, h81, rfl, e81⟩ := spec_ContainsSwap ((o6.ext e27).ext e75) hc
      refine sCall2 rfl call32 rfl rfl h81 ?_
      have g81 := e81.cells g75
      have E81 : Ext m m81 := ((e17.trans E27).trans e75).trans e81
      refine sP (v := .bool false) rfl ?_
      refine sNil (kSeqN ?_)
      refine cCondF rfl ?_
      refine cSkip (kSeqN ?_)
      refine cSeq ?_
      refine cRegion ?_
      refine sLdAll A30 S30 rfl g81 rfl ?_
      obtain ⟨v84, m84, h84, o84, e84⟩ := spec_All (((o6.ext e27).ext e75).ext e81) hc
      rw [hrt, ← hpL] at o84
      obtain ⟨q84, c84, rfl⟩ := o84.ints.len
      refine sCall1 rfl call34 rfl h84 ?_
      refine sMv (v := .slice _ _ _) rfl ?_
      have h86 := spec_Equal o84.ints (ha.ext (E81.trans e84)) (by omega)
      rw [decide_eq_true rfl] at h86
      refine sCall2 rfl call28 rfl rfl h86 ?_
      refine sMv (v := .bool true) rfl ?_
      refine sG rfl rfl ?_
      obtain ⟨v88, m88, h88, rfl, e88⟩ := spec_awake (hC.ext (E81.trans e84)) (hW.ext (E81.trans e84))
      refine sCall0 rfl call14 h88 ?_
      refine sP (v := .bool true) rfl ?_
      refine sAs (v := .bool _) rfl ?_
      refine sNil (kSeqN ?_)
      refine cRet ?_
      exact ⟨.inr rfl, _, rfl, rfl, (E81.trans e84).trans e88⟩
end Go.AM

/-! ### F50 -/
namespace Go.AM
open Go.Proofs Go.Proofs.YtdokoekgdeebpaaDoor Go.ChangeShapes
set_option maxRecDepth 100000
set_option linter.unusedVariables false
set_option linter.unusedSimpArgs false
theorem gSize : Tryd.prog.globals.size = 3 := by kernel_rfl
theorem u4 : Tryd.prog.underlying 4 = some .bool := by kernel_rfl
theorem var_block {P : Program} {w : World} {n : String} {g : Nat} {cs : Array Value} (hg : P.globalNamed n = some g) (h : w.var? P n = some cs) : ∃ t fz, w.heap[g]? = some (.cells cs t fz) := by
  simp only [World.var?, hg, Option.bind_some] at h
  split at h
  · rename_i c t fz e
    injection h with h; subst h
    exact ⟨t, fz, e⟩
  · cases h
theorem gCla : Tryd.prog.globalNamed "spoondrift/rev.classical" = some 1 := by kernel_rfl
theorem tCla : (Tryd.prog.globals[1]?).map (·.type) = some 129 := by kernel_rfl
theorem u3 : Tryd.prog.underlying 3 = some (.int .i64) := by kernel_rfl
theorem u98 : Tryd.prog.underlying 98 = some (.func #[3, 22] #[3] false) := by kernel_rfl
theorem u127 : Tryd.prog.underlying 127 = some (.struct #[{ name := "controls", type := 3, offset := 0, embedded := false, tag := "", pkgPath := "spoondrift/rev", byteOffset := 0 }, { name := "does", type := 98, offset := 1, embedded := false, tag := "", pkgPath := "spoondrift/rev", byteOffset := 8 }]) := by kernel_rfl
theorem u129 : Tryd.prog.underlying 129 = some (.map 3 127) := by kernel_rfl
theorem hc3 : Tryd.prog.cellsOf 3 = 1 := by kernel_rfl
theorem hc98 : Tryd.prog.cellsOf 98 = 1 := by kernel_rfl
theorem hc127 : Tryd.prog.cellsOf 127 = 2 := by kernel_rfl
def tokT : List UInt8 := [115, 112, 111, 111, 110, 100, 114, 105, 102, 116, 47, 114, 101, 118, 46, 116, 117, 114, 110, 101, 100]
def tokS : List UInt8 := [115, 112, 111, 111, 110, 100, 114, 105, 102, 116, 47, 114, 101, 118, 46, 115, 119, 97, 112, 112, 101, 100]
theorem oneT : ((List.range Tryd.prog.funcs.size).filter fun f => (Tryd.prog.funcs[f]?).any (·.name.toUTF8.data.toList == tokT)) = [76] := by kernel_rfl
theorem oneS : ((List.range Tryd.prog.funcs.size).filter fun f => (Tryd.prog.funcs[f]?).any (·.name.toUTF8.data.toList == tokS)) = [181] := by kernel_rfl
/-- A kind's entry: how many controls, what it does. -/
theorem entry_kind {w : World} {n : Nat} {c : Int} {q : FuncId} {tk : List UInt8} (ht : (tk = tokT ∧ q = 76) ∨ (tk = tokS ∧ q = 181)) {cs : List Value} {y : DataW (List UInt8) × List MemPlace}
    (h : DataW.trod (funcToken Tryd.prog) Tryd.prog w 0 (fun _ => true) true n 127 cs = some y) (hy : y.1 = .agg [.lit (.int .i64 c), .held tk]) : cs = [.int .i64 c, .func (.func q) #[] #[]] := by
  obtain ⟨xs, m, rfl, hx, hl, hn, hel⟩ := DataW.trod_struct u127 h
  have h0 := hel 0 _ rfl
  have h1 := hel 1 _ rfl
  rw [hx] at hy
  simp only [DataW.agg.injEq] at hy
  rw [hc127] at hl
  match cs, hl with
  | [a, b], _ =>
    match xs, hn, hy, h0, h1 with
    | [e0, e1], _, hy, h0, h1 =>
      simp only [List.map_cons, List.map_nil, List.cons.injEq, and_true] at hy
      have h2 : DataW.trod (funcToken Tryd.prog) Tryd.prog w 0 (fun _ => true) true m 3 [a] = some (.lit (.int .i64 c), e0.2) := by
        rw [← hy.1]; simpa [hc3] using h0
      have h3 : DataW.trod (funcToken Tryd.prog) Tryd.prog w 0 (fun _ => true) true m 98 [b] = some (.held tk, e1.2) := by
        rw [← hy.2]; simpa [hc98] using h1
      have hb : b = .func (.func q) #[] #[] := by
        rcases ht with ⟨rfl, rfl⟩ | ⟨rfl, rfl⟩
        · exact func_of_trod u98 oneT h3
        · exact func_of_trod u98 oneS h3
      subst hb
      cases m with
      | zero => simp [DataW.trod] at h2
      | succ m =>
        rw [DataW.trod_step] at h2
        unfold DataW.trodStep at h2
        rw [u3] at h2
        cases a <;> simp at h2
        simp_all
def claD : DataW Unit := .map [(.int .i64 1, .agg [.lit (.int .i64 0), .iface "func" (.lit (.string tokT))]), (.int .i64 9, .agg [.lit (.int .i64 1), .iface "func" (.lit (.string tokT))]), (.int .i64 11, .agg [.lit (.int .i64 0), .iface "func" (.lit (.string tokS))]), (.int .i64 12, .agg [.lit (.int .i64 2), .iface "func" (.lit (.string tokT))])]
/-- One of the table's entries. -/
def IsKind (k v : Value) : Prop := (k = .int .i64 1 ∧ v = .agg #[.int .i64 0, .func (.func 76) #[] #[]]) ∨ (k = .int .i64 9 ∧ v = .agg #[.int .i64 1, .func (.func 76) #[] #[]]) ∨ (k = .int .i64 11 ∧ v = .agg #[.int .i64 0, .func (.func 181) #[] #[]]) ∨ (k = .int .i64 12 ∧ v = .agg #[.int .i64 2, .func (.func 76) #[] #[]])
theorem mem_fold {x : Lit × DataW (List UInt8)} : ∀ {l : List (Lit × DataW (List UInt8))}, x ∈ l.foldr DataW.insert [] ↔ x ∈ l
  | [] => by simp
  | y :: l => by
    rw [List.foldr_cons, Go.ChangeMaps.mem_insert_iff, mem_fold, List.mem_cons]
theorem open_kinds {w : World} (h : funcsAt Tryd.prog w "spoondrift/rev.classical" claD) :
    ∃ c t fz b es clk, w.heap[1]? = some (.cells c t fz) ∧ c[0]? = some (.map (some b)) ∧ w.heap[b]? = some (.map es clk) ∧ (∀ x ∈ es.toList, IsKind x.key x.val) ∧ ∀ k, (k = 1 ∨ k = 9 ∨ k = 12) → ∃ x ∈ es.toList, x.key = .int .i64 k := by
  obtain ⟨g, t, cs, fuel, p, hg, ht, hc, hd⟩ := h
  obtain rfl := Option.some.inj (gCla.symm.trans hg)
  obtain rfl := Option.some.inj (tCla.symm.trans ht)
  obtain ⟨ty, fz, hb0⟩ := var_block hg hc
  have hout : claD.funcsOut = .map [(.int .i64 1, .agg [.lit (.int .i64 0), .held tokT]), (.int .i64 9, .agg [.lit (.int .i64 1), .held tokT]), (.int .i64 11, .agg [.lit (.int .i64 0), .held tokS]), (.int .i64 12, .agg [.lit (.int .i64 2), .held tokT])] := by rfl
  rw [hout] at hd
  rcases Go.WideElems.open_map u129 hd with ⟨_, h2⟩ | ⟨b, es, clk, n, _, hcs, hb, _, F, hx⟩
  · simp at h2
  simp only [Prod.mk.injEq, DataW.map.injEq] at hx
  have hx1 := hx.1
  have hmem : ∀ z, z ∈ es.toList.map (Go.WideElems.rg Tryd.prog 3 (Go.WideElems.elemAt (funcToken Tryd.prog) Tryd.prog w 0 (fun _ => true) true n 127)) ↔ z ∈ [((.int .i64 1 : Lit), (.agg [.lit (.int .i64 0), .held tokT] : DataW (List UInt8))), (.int .i64 9, .agg [.lit (.int .i64 1), .held tokT]), (.int .i64 11, .agg [.lit (.int .i64 0), .held tokS]), (.int .i64 12, .agg [.lit (.int .i64 2), .held tokT])] := fun z => by
    rw [hx1, mem_fold]
  have key : ∀ x ∈ es.toList, ∀ (k c : Int) (tk : List UInt8) (q : FuncId), ((tk = tokT ∧ q = 76) ∨ (tk = tokS ∧ q = 181)) → Go.WideElems.rg Tryd.prog 3 (Go.WideElems.elemAt (funcToken Tryd.prog) Tryd.prog w 0 (fun _ => true) true n 127) x = (.int .i64 k, .agg [.lit (.int .i64 c), .held tk]) → x.key = .int .i64 k ∧ x.val = .agg #[.int .i64 c, .func (.func q) #[] #[]] := by
    intro x hx k c tk q htk hr
    obtain ⟨y, hy⟩ := F.reads x hx
    rw [Go.WideElems.rg_of hy] at hr
    subst hr
    have h1 := Go.WideElems.rd_key hy
    obtain ⟨z, hz, h2⟩ := Go.WideElems.rd_val hy
    refine ⟨?_, ?_⟩
    · simp only [keyOf, u3, mapKey] at h1
      split at h1 <;> simp_all
    · simp only [Go.WideElems.elemAt] at hz
      split at hz
      · rename_i hf
        have := entry_kind htk hz h2.symm
        cases hv : x.val with
        | agg cs2 =>
          rw [hv] at this
          have e : cs2.toList = [.int .i64 c, .func (.func q) #[] #[]] := this
          obtain ⟨l⟩ := cs2
          simp only at e
          subst e; rfl
        | _ => rw [hv] at hf; simp [Value.formed, u127] at hf
      · cases hz
  have hcs0 : cs[0]? = some (.map (some b)) := by
    have := congrArg (·[0]?) hcs
    simpa using this
  refine ⟨cs, ty, fz, b, es, clk, hb0, hcs0, hb, fun x hx => ?_, fun k hk => ?_⟩
  · have h1 := (hmem _).1 (List.mem_map.2 ⟨x, hx, rfl⟩)
    simp only [List.mem_cons, List.not_mem_nil, or_false] at h1
    rcases h1 with h1 | h1 | h1 | h1
    · exact .inl (key x hx _ _ _ 76 (.inl ⟨rfl, rfl⟩) h1)
    · exact .inr (.inl (key x hx _ _ _ 76 (.inl ⟨rfl, rfl⟩) h1))
    · exact .inr (.inr (.inl (key x hx _ _ _ 181 (.inr ⟨rfl, rfl⟩) h1)))
    · exact .inr (.inr (.inr (key x hx _ _ _ 76 (.inl ⟨rfl, rfl⟩) h1)))
  · have : ∃ c : Int, ((.int .i64 k : Lit), (.agg [.lit (.int .i64 c), .held tokT] : DataW (List UInt8))) ∈ [((.int .i64 1 : Lit), (.agg [.lit (.int .i64 0), .held tokT] : DataW (List UInt8))), (.int .i64 9, .agg [.lit (.int .i64 1), .held tokT]), (.int .i64 11, .agg [.lit (.int .i64 0), .held tokS]), (.int .i64 12, .agg [.lit (.int .i64 2), .held tokT])] := by
      rcases hk with rfl | rfl | rfl
      · exact ⟨0, by simp⟩
      · exact ⟨1, by simp⟩
      · exact ⟨2, by simp⟩
    obtain ⟨c, hm⟩ := this
    obtain ⟨x, hx, hr⟩ := List.mem_map.1 ((hmem _).2 hm)
    exact ⟨x, hx, (key x hx _ _ _ 76 (.inl ⟨rfl, rfl⟩) hr).1⟩
theorem cla_data : (Rows.laid_spoondrift_rev_classical : DataW Unit) = .iface "func table" claD := by rfl
/-- An array of numbers that is read. -/
theorem open_nums {H : Type} {enc : TypeId × Value → H} {P : Program} {w : World} {sp : Nat → Bool} {held : Bool} {t e n fuel : Nat} {k : IntKind} {cs : List Value} {ds : List (DataW H)} {p : List MemPlace}
    (ht : P.underlying t = some (.array n e)) (he : P.underlying e = some (.int k)) (hc : P.cellsOf e = 1) (h : DataW.trod enc P w 0 sp held fuel t cs = some (.agg ds, p)) {i : Nat} {v : Int} (hi : ds[i]? = some (.lit (.int k v))) :
    cs[i]? = some (.int k v) := by
  obtain ⟨xs, m, rfl, hx, hl, hn, hel⟩ := DataW.trod_array ht h
  simp only [Prod.mk.injEq, DataW.agg.injEq] at hx
  obtain ⟨rfl, _⟩ := hx
  rw [List.getElem?_map, Option.map_eq_some_iff] at hi
  obtain ⟨y, hy, hy1⟩ := hi
  have hin : i < n := by rw [← hn]; exact (List.getElem?_eq_some_iff.1 hy).1
  have h0 := hel i hin
  rw [hy, hc, Nat.mul_one] at h0
  obtain ⟨q, e1, e2, _⟩ := DataW.trod_int he h0
  have e3 : q = v := by
    rw [e2] at hy1
    simpa using hy1
  subst e3
  have := congrArg (·[0]?) e1
  simpa [List.getElem?_take, List.getElem?_drop] using this
theorem gWan : Tryd.prog.globalNamed "spoondrift/rev.wants" = some 2 := by kernel_rfl
theorem tWan : (Tryd.prog.globals[2]?).map (·.type) = some 108 := by kernel_rfl
theorem u108 : Tryd.prog.underlying 108 = some (.array 8 3) := by kernel_rfl
def wanL : List Nat := [0, 0, 1, 2, 2, 2, 0, 0]
def laid1 : List (String × DataW Unit) := [("spoondrift/rev.classical", Rows.laid_spoondrift_rev_classical), ("spoondrift/rev.wants", Rows.laid_spoondrift_rev_wants)]
theorem wan_data : (Rows.laid_spoondrift_rev_wants : DataW Unit) = .agg (wanL.map fun x => .lit (.int .i64 (Int.ofNat x))) := by rfl
theorem of_laid0 {w : World} (h : laidMetH Tryd.prog laid1 w) : ∃ c t fz b es clk, w.heap[1]? = some (.cells c t fz) ∧ c[0]? = some (.map (some b)) ∧ w.heap[b]? = some (.map es clk) ∧ (∀ x ∈ es.toList, IsKind x.key x.val) ∧ ∀ k, (k = 1 ∨ k = 9 ∨ k = 12) → ∃ x ∈ es.toList, x.key = .int .i64 k :=
  open_kinds (h.funcs (n := "spoondrift/rev.classical") (by rw [← cla_data]; simp [laid1]))
theorem of_laid {w : World} (h : laidMetH Tryd.prog laid1 w) : ∃ c t fz, w.heap[2]? = some (.cells c t fz) ∧ ∀ (i x : Nat), wanL[i]? = some x → c[i]? = some (Value.int .i64 (Int.ofNat x)) := by
  have h1 : laidMet Tryd.prog [("spoondrift/rev.wants", Rows.laid_spoondrift_rev_wants)] w := by
    have e1 : laid1.filter (fun x => x.2.handleName?.isSome) = [("spoondrift/rev.classical", Rows.laid_spoondrift_rev_classical)] := by rfl
    have e2 : laid1.filter (fun x => x.2.handleName?.isNone) = [("spoondrift/rev.wants", Rows.laid_spoondrift_rev_wants)] := by rfl
    unfold laidMetH at h
    rw [e1, e2] at h
    exact h.1
  obtain ⟨ps, ⟨g1, t1, cs1, f1, p1, q1, hg1, ht1, hv1, hd1, _, _⟩, _, _⟩ := h1
  obtain rfl := Option.some.inj (gWan.symm.trans hg1)
  obtain rfl := Option.some.inj (tWan.symm.trans ht1)
  obtain ⟨ty, fz, hb⟩ := var_block hg1 hv1
  refine ⟨cs1, ty, fz, hb, fun i x hx => ?_⟩
  rw [wan_data] at hd1
  have := open_nums (i := i) (v := Int.ofNat x) u108 u3 hc3 hd1 (by rw [List.getElem?_map, hx]; rfl)
  simpa using this
end Go.AM

/-! ### F51 -/
namespace Go.AM
open Go.Proofs Go.Proofs.YtdokoekgdeebpaaDoor Go.RowKit
set_option maxRecDepth 100000
set_option linter.unusedVariables false
/-- An argument's block: where it lies, and its abstract cells (each stands for the machine's cell at the same place), or the entries of a map. -/
structure Arg0 where
  blk : Nat
  off : Nat
  cap : Nat
  cs : Array Value
  es : Option (List (Value × Value))
def arg0 : Arg0 := ⟨0, 0, 0, #[], none⟩
def Arg0.obj (a : Arg0) : AObj := match a.es with
  | none => .cells false a.cs
  | some es => .map false es
theorem Arg0.obj_rw (a : Arg0) : a.obj.rw = false := by
  unfold Arg0.obj; split <;> rfl
def wanCs : Array Value := #[nv 0, nv 0, nv 1, nv 2, nv 2, nv 2, nv 0, nv 0]
def mem0 (A : List Arg0) : Mem := (AObj.dead :: AObj.cells false #[.map (some 3)] :: AObj.cells false wanCs :: A.map Arg0.obj).toArray
def beta0 (A : List Arg0) : Beta where
  blk i := if i < 3 then i else (A.getD (i - 3) arg0).blk
  sh i := if i < 3 then 0 else (A.getD (i - 3) arg0).off
  cap i := if i < 3 then 1000000 else (A.getD (i - 3) arg0).off + max (A.getD (i - 3) arg0).cs.size (A.getD (i - 3) arg0).cap
/-- What is known of an argument's cells, all arguments' places being known. -/
def Arg0.ok (W : World) (A : List Arg0) (a : Arg0) : Prop :=
  (a.es = none → ∃ c t fz, W.heap[a.blk]? = some (.cells c t fz) ∧ ∀ (i : Nat) v, a.cs[i]? = some v → ∃ v', c[a.off + i]? = some v' ∧ VRel (beta0 A) (3 + A.length) v v') ∧
  ∀ es, a.es = some es → ∃ es' clk, W.heap[a.blk]? = some (.map es' clk) ∧ es'.size = es.length ∧ ∀ (i : Nat) x e', es[i]? = some x → es'[i]? = some e' → VRel (beta0 A) (3 + A.length) x.1 e'.key ∧ VRel (beta0 A) (3 + A.length) x.2 e'.val
theorem mem0_size (A : List Arg0) : (mem0 A).size = 3 + A.length := by simp [mem0]; omega
theorem mem0_get (A : List Arg0) (i : Nat) : Mem.get (mem0 A) i = if i = 0 then .dead else if i = 1 then .cells false #[.map (some 3)] else if i = 2 then .cells false wanCs else if h : i - 3 < A.length then (A[i - 3]).obj else .dead := by
  unfold Mem.get mem0
  rw [Array.getD_eq_getD_getElem?, List.getElem?_toArray]
  match i with
  | 0 => rfl
  | 1 => rfl
  | 2 => rfl
  | i + 3 =>
    rw [if_neg (by omega), if_neg (by omega), if_neg (by omega)]
    simp only [List.getElem?_cons_succ, Nat.add_sub_cancel, List.getElem?_map]
    by_cases h : i < A.length
    · rw [dif_pos h, List.getElem?_eq_getElem h]; rfl
    · rw [dif_neg h, List.getElem?_eq_none (by omega)]; rfl
theorem globW0 (A : List Arg0) : GlobW (mem0 A) := ⟨false, by rw [mem0_get]; rfl⟩
/-- The table of kinds: its block, its entries. -/
structure Kinds (W : World) (a : Arg0) : Prop where
  glob : ∃ c t fz, W.heap[1]? = some (.cells c t fz) ∧ c[0]? = some (.map (some a.blk))
  es : ∃ es, a.es = some es ∧ (∀ x ∈ es, IsKind x.1 x.2) ∧ ∀ k, (k = 1 ∨ k = 9 ∨ k = 12) → ∃ x ∈ es, x.1 = .int .i64 k
  ok : ∀ A, a.ok W A
theorem flat_kind {β : Beta} {N : Nat} {c : Int} {q : FuncId} : VRel β N (.agg #[.int .i64 c, .func (.func q) #[] #[]]) (.agg #[.int .i64 c, .func (.func q) #[] #[]]) := by
  refine .agg _ _ rfl fun i v v' h h' => ?_
  match i with
  | 0 => simp at h h'; subst h h'; exact .int _ _
  | 1 => simp at h h'; subst h h'; exact .func _ _ _ _ _ rfl (fun i v v' h => by simp at h) rfl (fun i v v' h => by simp at h)
  | i + 2 => simp at h
theorem kinds_ex {W : World} (hL : laidMetH Tryd.prog laid1 W) : ∃ a, Kinds W a := by
  obtain ⟨c, t, fz, b, es, clk, h0, h1, h2, h3, h4⟩ := of_laid0 hL
  refine ⟨⟨b, 0, 0, #[], some (es.toList.map fun x => (x.key, x.val))⟩, ⟨c, t, fz, h0, h1⟩, ⟨_, rfl, fun x hx => ?_, fun k hk => ?_⟩, fun A => ⟨fun h => (by cases h), fun es2 he => ?_⟩⟩
  · obtain ⟨y, hy, rfl⟩ := List.mem_map.1 hx
    exact h3 y hy
  · obtain ⟨y, hy, e⟩ := h4 k hk
    exact ⟨_, List.mem_map.2 ⟨y, hy, rfl⟩, e⟩
  · cases he
    refine ⟨es, clk, h2, by simp, fun i x e' hx he' => ?_⟩
    rw [List.getElem?_map, Array.getElem?_toList, he'] at hx
    cases hx
    have := h3 e' (by rw [← Array.mem_def]; exact Array.mem_of_getElem? he')
    rcases this with ⟨e1, e2⟩ | ⟨e1, e2⟩ | ⟨e1, e2⟩ | ⟨e1, e2⟩ <;> (simp only [e1, e2]; exact ⟨.int _ _, flat_kind⟩)
theorem sameI (a b : Int) : Instr.sameNow (.int .i64) (.int .i64 a) (.int .i64 b) = some (decide (a = b)) := by
  by_cases h : a = b
  · subst h; simp [Instr.sameNow]
  · simp [Instr.sameNow, h]
theorem find_kind {k : Nat} (hk : k = 1 ∨ k = 9 ∨ k = 12) : ∀ {es : List (Value × Value)} (i : Nat), (∀ x ∈ es, IsKind x.1 x.2) → (∃ x ∈ es, x.1 = .int .i64 (Int.ofNat k)) → ∃ j c, aFindNow (.int .i64) (nv k) es i = some (some (j, .agg #[nv c, .func (.func 76) #[] #[]]))
  | [], i, _, ⟨x, hx, _⟩ => by cases hx
  | e :: es, i, h1, h2 => by
    have hk1 := h1 e (by simp)
    obtain ⟨z, hz⟩ : ∃ z, e.1 = .int .i64 z := by rcases hk1 with h | h | h | h <;> exact ⟨_, h.1⟩
    rw [aFindNow, hz, nv, sameI]
    by_cases e1 : Int.ofNat k = z
    · subst e1
      rw [decide_eq_true rfl]
      rcases hk1 with ⟨a, b⟩ | ⟨a, b⟩ | ⟨a, b⟩ | ⟨a, b⟩
      · exact ⟨i, 0, by rw [b]; rfl⟩
      · exact ⟨i, 1, by rw [b]; rfl⟩
      · rw [hz] at a
        have := (Value.int.inj a).2
        simp at this; omega
      · exact ⟨i, 2, by rw [b]; rfl⟩
    · rw [decide_eq_false e1]
      refine find_kind hk (i + 1) (fun x hx => h1 x (by simp [hx])) ?_
      obtain ⟨x, hx, e2⟩ := h2
      rcases List.mem_cons.1 hx with rfl | hx
      · rw [hz] at e2; exact absurd (Value.int.inj e2).2.symm e1
      · exact ⟨x, hx, e2⟩
theorem globC0 {W : World} {a : Arg0} (h : Kinds W a) {A : List Arg0} (hA : A[0]? = some a) : GlobC (mem0 A) := by
  obtain ⟨es, he, h1, h2⟩ := h.es
  obtain ⟨hl, e0⟩ := List.getElem?_eq_some_iff.1 hA
  refine ⟨false, 3, false, es, by rw [mem0_get]; rfl, ?_, fun k hk => find_kind hk 0 h1 ?_⟩
  · rw [mem0_get, if_neg (by omega), if_neg (by omega), if_neg (by omega), dif_pos (by omega)]
    rw [show A[3 - 3] = a from e0, Arg0.obj, he]
  · exact h2 (Int.ofNat k) (by rcases hk with rfl | rfl | rfl <;> simp)
theorem rel0 {W : World} (hL : laidMetH Tryd.prog laid1 W) {A : List Arg0} {a0 : Arg0} (hK : Kinds W a0) (hA0 : A[0]? = some a0) (hA : ∀ a ∈ A, a.ok W A) : Rel Tryd.prog (beta0 A) (mem0 A) W := by
  obtain ⟨c, t, fz, h0, hc0⟩ := of_laid hL
  obtain ⟨ck, tk, fk, k0, k1⟩ := hK.glob
  obtain ⟨hl0, e0⟩ := List.getElem?_eq_some_iff.1 hA0
  refine ⟨by rw [mem0_size, gSize]; omega, fun g hg => ?_, fun i hi => ?_, fun i j _ hr _ => ?_⟩
  · rw [gSize] at hg
    exact ⟨if_pos hg, if_pos hg⟩
  · rw [mem0_get] at hi ⊢
    by_cases ez : i = 0
    · rw [if_pos ez] at hi; cases hi
    rw [if_neg ez] at hi ⊢
    by_cases ei : i = 1
    · subst ei
      rw [if_pos rfl] at hi ⊢
      refine ⟨_, k0, ck, tk, fk, rfl, by simp [beta0], fun j v hj => ?_, fun h => by cases h⟩
      match j with
      | 0 =>
        simp at hj; subst hj
        refine ⟨_, by simpa [beta0] using k1, ?_⟩
        have hb : (beta0 A).blk 3 = a0.blk := by
          simp only [beta0]; rw [if_neg (by omega), List.getD_eq_getElem?_getD, hA0]; rfl
        rw [← hb]
        exact .map _ (by rw [mem0_size]; omega)
      | j + 1 => simp at hj
    rw [if_neg ei] at hi ⊢
    by_cases e1 : i = 2
    · subst e1
      rw [if_pos rfl] at hi ⊢
      refine ⟨_, h0, c, t, fz, rfl, by simp [beta0, wanCs], fun j v hj => ?_, fun h => by cases h⟩
      have hj8 := (Array.getElem?_eq_some_iff.1 hj).1
      have hj8' : j < 8 := hj8
      obtain ⟨x, hx⟩ : ∃ x, wanL[j]? = some x := ⟨_, List.getElem?_eq_getElem hj8'⟩
      have hv : v = nv x := by
        have hall : ∀ j < 8, wanCs[j]? = (wanL[j]?).map fun x => nv x := by
          intro j hj
          match j, hj with
          | 0, _ => rfl
          | 1, _ => rfl
          | 2, _ => rfl
          | 3, _ => rfl
          | 4, _ => rfl
          | 5, _ => rfl
          | 6, _ => rfl
          | 7, _ => rfl
        rw [hall j hj8', hx] at hj
        exact (Option.some.inj hj).symm
      subst hv
      exact ⟨_, by simpa [beta0] using hc0 j x hx, .int _ _⟩
    rw [if_neg e1] at hi ⊢
    by_cases e4 : i - 3 < A.length
    · rw [dif_pos e4] at hi ⊢
      obtain ⟨o1, o2⟩ := hA _ (List.getElem_mem e4)
      have hb : (beta0 A).blk i = (A[i - 3]).blk := by
        simp only [beta0]; rw [if_neg (by omega), List.getD_eq_getElem?_getD, List.getElem?_eq_getElem e4]; rfl
      have hsh : (beta0 A).sh i = (A[i - 3]).off := by
        simp only [beta0]; rw [if_neg (by omega), List.getD_eq_getElem?_getD, List.getElem?_eq_getElem e4]; rfl
      have hcp : (beta0 A).cap i = (A[i - 3]).off + max (A[i - 3]).cs.size (A[i - 3]).cap := by
        simp only [beta0]; rw [if_neg (by omega), List.getD_eq_getElem?_getD, List.getElem?_eq_getElem e4]; rfl
      cases hes : (A[i - 3]).es with
      | none =>
        obtain ⟨c, t, fz, g1, g2⟩ := o1 hes
        rw [Arg0.obj, hes]
        refine ⟨_, by rw [hb]; exact g1, c, t, fz, rfl, by rw [hsh, hcp]; omega, fun j v hj => ?_, fun h => by cases h⟩
        obtain ⟨v', q1, q2⟩ := g2 j v hj
        exact ⟨v', by rw [hsh]; exact q1, by rw [mem0_size]; exact q2⟩
      | some es =>
        obtain ⟨es', clk, g1, g2, g3⟩ := o2 es hes
        rw [Arg0.obj, hes]
        exact ⟨_, by rw [hb]; exact g1, es', clk, rfl, g2, fun i x e' hx he => by rw [mem0_size]; exact g3 i x e' hx he, fun h => by cases h⟩
    · rw [dif_neg e4] at hi; cases hi
  · rw [mem0_get] at hr
    split at hr
    · cases hr
    split at hr
    · cases hr
    split at hr
    · cases hr
    split at hr
    · rw [Arg0.obj_rw] at hr; cases hr
    · cases hr
theorem arel_nil {β : Beta} {N : Nat} : ARel β N #[] #[] := ⟨rfl, fun i v v' h => by simp at h⟩
theorem arel_cons {β : Beta} {N : Nat} {v v' : Value} {l l' : List Value} (hv : VRel β N v v') (h : ARel β N l.toArray l'.toArray) : ARel β N (v :: l).toArray (v' :: l').toArray := by
  refine ⟨by have := h.1; simp at this ⊢; exact this, fun i x x' h1 h2 => ?_⟩
  cases i with
  | zero => simp at h1 h2; subst h1 h2; exact hv
  | succ i => exact h.2 i x x' (by simpa using h1) (by simpa using h2)
/-- From the abstract call to the machine's. -/
theorem entry {f : FuncId} {args args' : Array Value} {W : World} {A : List Arg0} (hL : laidMetH Tryd.prog laid1 W) {a0 : Arg0} (hK : Kinds W a0) (hA0 : A[0]? = some a0) (hA : ∀ a ∈ A, a.ok W A)
    (hargs : ARel (beta0 A) (3 + A.length) args args') (hc : ∃ v m', ACalls Tryd.prog f args (mem0 A) v m' ∧ v = .bool true) :
    Calls Tryd.prog f args' W fun e W' => e = .returned (.bool true) ∧ Below W.heap.size W W' := by
  have hR := rel0 hL hK hA0 hA
  obtain ⟨v, m', hcall, rfl⟩ := hc
  refine (hcall.2 _ W args' hR (by rw [mem0_size]; exact hargs)).mono ?_
  rintro e W' ⟨v', rfl, β', hv, _, hS⟩
  cases hv
  refine ⟨rfl, hS.os, hS.tape, hS.output, hS.wsz, fun k hk => hS.keep k hk fun i hi => ?_⟩
  rw [mem0_get] at hi
  split at hi
  · cases hi
  split at hi
  · cases hi
  split at hi
  · cases hi
  split at hi
  · rw [Arg0.obj_rw] at hi; cases hi
  · cases hi
end Go.AM

/-! ### F52 -/
namespace Go.AM
open Go Go.Proofs Go.Proofs.YtdokoekgdeebpaaDoor Go.RowKit Go.ChangeShapes Go.WideShapes
set_option maxRecDepth 100000
set_option linter.unusedVariables false
/-- A slice of whole numbers of a kind, readable. -/
def KAt (k : IntKind) (m : Mem) (v : Value) (l : List Int) : Prop :=
  (l = [] ∧ (v = .slice none 0 0 ∨ ∃ b o, v = .slice (some ⟨b, o, none⟩) 0 0)) ∨
  ∃ b o cap r c, v = .slice (some ⟨b, o, some 1⟩) l.length cap ∧ l.length ≤ cap ∧ Mem.get m b = .cells r c ∧ ∀ i x, l[i]? = some x → c[o + i]? = some (.int k x)
theorem KAt.ints {m : Mem} {v : Value} {l : List Int} (h : KAt .i64 m v l) : IntsAt m v l := by
  rcases h with h | ⟨b, o, cap, r, c, h1, _, h2, h3⟩
  · exact .inl h
  · exact .inr ⟨b, o, cap, r, c, h1, h2, h3⟩
theorem cell_heap {W : World} {a : Addr} {v : Value} (h : W.cell? a = some v) : a.spot = none ∧ ∃ c t fz, W.heap[a.block]? = some (.cells c t fz) ∧ c[a.off]? = some v := by
  unfold World.cell? at h
  split at h
  · rename_i c t fz e
    split at h
    · cases h
    · rename_i hs
      exact ⟨by simpa using hs, c, t, fz, e, h⟩
  · cases h
theorem add_block (a : Addr) (n : Nat) : (a.add n).block = a.block := by unfold Addr.add; split <;> rfl
theorem add0 (a : Addr) : a.add 0 = a := if_pos rfl
theorem add_off {a : Addr} {n : Nat} (h : a.spot = none) : (a.add n).off = a.off + n := by
  unfold Addr.add
  split <;> simp_all
theorem mem0_arg {A : List Arg0} {i : Nat} {a : Arg0} (h : A[i]? = some a) (hn : a.es = none) : Mem.get (mem0 A) (3 + i) = .cells false a.cs := by
  obtain ⟨hi, e⟩ := List.getElem?_eq_some_iff.1 h
  rw [mem0_get, if_neg (by omega), if_neg (by omega), if_neg (by omega), dif_pos (by omega)]
  simp only [Nat.add_sub_cancel_left, e, Arg0.obj, hn]
theorem beta0_arg {A : List Arg0} {i : Nat} {a : Arg0} (h : A[i]? = some a) : (beta0 A).blk (3 + i) = a.blk ∧ (beta0 A).sh (3 + i) = a.off ∧ (beta0 A).cap (3 + i) = a.off + max a.cs.size a.cap := by
  have e : A.getD (3 + i - 3) arg0 = a := by rw [Nat.add_sub_cancel_left, List.getD_eq_getElem?_getD, h]; rfl
  refine ⟨?_, ?_, ?_⟩
  · simp only [beta0]; rw [if_neg (by omega), e]
  · simp only [beta0]; rw [if_neg (by omega), e]
  · simp only [beta0]; rw [if_neg (by omega), e]
/-- The blocks of an argument lie from a place on. -/
def PartAt (A : List Arg0) (pos : Nat) (B : List Arg0) : Prop := ∀ (j : Nat) a, B[j]? = some a → A[pos + j]? = some a
theorem part_right {X Y : List Arg0} {pos : Nat} (h : X.length = pos) : PartAt (X ++ Y) pos Y := fun j a hj => by
  subst h
  rw [List.getElem?_append_right (by omega), Nat.add_sub_cancel_left]; exact hj
/-- A slice of whole numbers that is read: its block, what it holds, its abstract value by the place of its block. -/
structure RowP (W : World) (k : IntKind) (s : Value) where
  a : Arg0
  l : List Int
  f : Nat → Value
  ok : ∀ A : List Arg0, a.ok W A
  wf : ∀ n ∈ l, (Lit.int k n).wf = true
  rel : ∀ (A : List Arg0) (i : Nat), A[i]? = some a → KAt k (mem0 A) (f i) l ∧ VRel (beta0 A) (3 + A.length) (f i) s
theorem ok0 {W : World} (hL : laidMetH Tryd.prog laid1 W) (A : List Arg0) : Arg0.ok W A ⟨1, 0, 0, #[], none⟩ := by
  obtain ⟨c0, t0, fz0, _, _, _, h0, _⟩ := of_laid0 hL
  exact ⟨fun _ => ⟨c0, t0, fz0, h0, fun i v h => by simp at h⟩, fun es h => by cases h⟩
theorem row_of {H : Type} {enc : TypeId × Value → H} {W : World} {k : IntKind} {t e : TypeId} {s : Value} {fuel : Nat} {x : DataW H × List MemPlace} (hL : laidMetH Tryd.prog laid1 W)
    (ht : Tryd.prog.underlying t = some (.slice e)) (he : Tryd.prog.underlying e = some (.int k)) (hc : Tryd.prog.cellsOf e = 1)
    (hd : DataW.trod enc Tryd.prog W 0 (fun _ => true) true fuel t [s] = some x) : Nonempty (RowP W k s) := by
  rcases open_ints ht he hc hd with ⟨hcs, _⟩ | ⟨x, ln, cp, zs, hcs, _, hl, hm, hz, _, hcell, hwz⟩
  · simp at hcs
    subst hcs
    exact ⟨⟨_, [], fun _ => .slice none 0 0, ok0 hL, by simp, fun A i _ => ⟨.inl ⟨rfl, .inl rfl⟩, .sliceNil⟩⟩⟩
  · simp at hcs
    subst hcs
    rw [if_pos rfl] at hz
    by_cases h0 : ln = 0
    · subst h0
      exact ⟨⟨_, [], fun _ => .slice (some ⟨0, 0, none⟩) 0 0, ok0 hL, by simp, fun A i _ => ⟨.inl ⟨rfl, .inr ⟨_, _, rfl⟩⟩, .lost _ _ _ trivial⟩⟩⟩
    · obtain ⟨hsp, c, t1, fz, hh, _⟩ := cell_heap (hcell 0 (by omega))
      rw [add0] at hsp
      rw [add_block] at hh
      have hcs : ∀ j, j < ln → c[x.off + j]? = some (.int k (zs.getD j 0)) := fun j hj => by
        obtain ⟨_, c', t2, fz2, h2, h3⟩ := cell_heap (hcell j (by omega))
        rw [add_block, hh] at h2
        obtain ⟨rfl, rfl, rfl⟩ : c = c' ∧ t1 = t2 ∧ fz = fz2 := by injection h2 with h2; injection h2 with a b c; exact ⟨a, b, c⟩
        rwa [add_off hsp] at h3
      have hlz : (zs.take ln).length = ln := by rw [List.length_take]; omega
      refine ⟨⟨⟨x.block, x.off, cp, ((zs.take ln).map fun n => Value.int k n).toArray, none⟩, zs.take ln, fun i => .slice (some ⟨3 + i, 0, some 1⟩) ln cp, fun A => ⟨fun _ => ⟨c, t1, fz, hh, fun j y hy => ?_⟩, fun es h => by cases h⟩, fun n hn => hwz n (List.mem_of_mem_take hn), fun A i hA => ⟨?_, ?_⟩⟩⟩
      · simp only [List.getElem?_toArray, List.getElem?_map, Option.map_eq_some_iff] at hy
        obtain ⟨n, hn, rfl⟩ := hy
        rw [List.getElem?_take] at hn
        split at hn
        · refine ⟨_, ?_, .int _ _⟩
          rw [hcs j (by assumption), List.getD_eq_getElem?_getD, hn]; rfl
        · cases hn
      · refine .inr ⟨3 + i, 0, cp, false, _, by rw [hlz], by rw [hlz]; exact hl, mem0_arg hA rfl, fun j n hn => ?_⟩
        simp only [List.getElem?_toArray, List.getElem?_map, hn, Option.map_some, Nat.zero_add]
      · obtain ⟨e1, e2, e3⟩ := beta0_arg hA
        have hi := (List.getElem?_eq_some_iff.1 hA).1
        have := VRel.slice (β := beta0 A) (N := 3 + A.length) (3 + i) 0 1 ln cp cp (by omega) (by omega) hl (Nat.le_refl _) (by rw [e2, e3]; simp only; omega) (by unfold maxLen at hm; omega)
        rw [e1, e2] at this
        obtain ⟨xb, xo, xs⟩ := x
        obtain rfl : xs = none := hsp
        exact this
/-- An argument that is a slice of whole numbers. -/
theorem ints_arg {H : Type} {enc : TypeId × Value → H} {W : World} {k : IntKind} {t e : TypeId} {r : Reach} {base : Nat} {v : Value} {d : DataW H} {p : List MemPlace} (hL : laidMetH Tryd.prog laid1 W)
    (ht : Tryd.prog.underlying t = some (.slice e)) (he : Tryd.prog.underlying e = some (.int k)) (hc : Tryd.prog.cellsOf e = 1)
    (hval : Value.okWide Tryd.prog W r base t v) (hd : DataW.Trod enc Tryd.prog W 0 (fun _ => true) true t v d p) :
    ∃ (L : Nat) (B : Nat → List Arg0) (l : List Int) (f : Nat → Value), (∀ pos, (B pos).length = L) ∧ (∀ n ∈ l, (Lit.int k n).wf = true) ∧
      ∀ (A : List Arg0) (pos : Nat), PartAt A pos (B pos) → (∀ a ∈ B pos, a.ok W A) ∧ KAt k (mem0 A) (f pos) l ∧ VRel (beta0 A) (3 + A.length) (f pos) v := by
  obtain ⟨q, len, cap, rfl⟩ := okWide_slice ht hval
  obtain ⟨fuel, hf⟩ := hd
  obtain ⟨R⟩ := row_of hL ht he hc hf
  refine ⟨1, fun _ => [R.a], R.l, R.f, fun _ => rfl, R.wf, fun A pos hp => ⟨fun a ha => ?_, R.rel A pos (hp 0 _ rfl)⟩⟩
  rw [List.mem_singleton.1 ha]; exact R.ok A
theorem u22 : Tryd.prog.underlying 22 = some (.slice 3) := by kernel_rfl
theorem c3 : Tryd.prog.cellsOf 3 = 1 := by kernel_rfl
theorem c5 : Tryd.prog.cellsOf 5 = 1 := by kernel_rfl
theorem laidOut : laidOutB Tryd.prog = true := by kernel_rfl
end Go.AM
namespace Go.AM
theorem KAt.capOk {k : IntKind} {m : Mem} {v : Value} {l : List Int} (h : KAt k m v l) : CapOk v := by
  intro q n c e
  rcases h with ⟨_, rfl | ⟨b, o, rfl⟩⟩ | ⟨b, o, cap, r, cc, rfl, h1, _⟩
  · cases e; exact Nat.le_refl _
  · cases e; exact Nat.le_refl _
  · cases e; exact h1
end Go.AM
