/- Part 6 of the proof: Contracts of the program's functions. -/
import Derived.Test.YthfhbddnkgfhaaaGreatDoorPartE
import Derived.Shelf.Spec.SlicesInsert
import Derived.Shelf.Spec.SlicesInsertGrow
set_option linter.unusedVariables false
set_option linter.unusedSimpArgs false
/-! ### P15 -/
namespace Go.AM
open Go.Proofs
set_option maxRecDepth 100000
set_option linter.unusedVariables false
set_option linter.unusedSimpArgs false
theorem callx {k : Nat} (h : callable Tryz.prog k = true) : callable Tryz.prog k = true := h
theorem call128 : callable Tryz.prog 128 = true := by kernel_rfl
theorem call129 : callable Tryz.prog 129 = true := by kernel_rfl
theorem call130 : callable Tryz.prog 130 = true := by kernel_rfl
theorem call131 : callable Tryz.prog 131 = true := by kernel_rfl
theorem call132 : callable Tryz.prog 132 = true := by kernel_rfl

theorem okf102 : okF Tryz.prog H0 102 6 = true := by kernel_rfl
theorem spec_isNaN {m : Mem} {x : Int} : ACalls Tryz.prog 102 #[.int .i64 x] m (.bool false) m := by
  suffices h : ∃ v m', ACalls Tryz.prog 102 #[.int .i64 x] m v m' ∧ (v = .bool false ∧ m' = m) by
    obtain ⟨v, m', h, rfl, rfl⟩ := h; exact h
  refine wpF (args := [_]) mixed okf102 (fn := Tryz.f102) rfl rfl rfl (by simp) ?_
  refine cSeq ?_
  refine cRegion ?_
  refine sAs (v := .bool _) rfl ?_
  refine sNil (kSeqN ?_)
  refine cSeq ?_
  refine cRegion ?_
  refine sMv (v := .int _ _) rfl ?_
  refine sMv (v := .int _ _) rfl ?_
  refine sBinI (v := .bool false) rfl rfl (by rw [aInt_neqI]; simp) ?_
  refine sAs (v := .bool _) rfl ?_
  refine sNil (kSeqN ?_)
  refine cRet ?_
  exact ⟨.inr rfl, _, rfl, rfl, rfl⟩

theorem okf81 : okF Tryz.prog H0 81 17 = true := by kernel_rfl
theorem spec_Less {m : Mem} {x y : Int} : ACalls Tryz.prog 81 #[.int .i64 x, .int .i64 y] m (.bool (decide (x < y))) m := by
  suffices h : ∃ v m', ACalls Tryz.prog 81 #[.int .i64 x, .int .i64 y] m v m' ∧ (v = .bool (decide (x < y)) ∧ m' = m) by
    obtain ⟨v, m', h, rfl, rfl⟩ := h; exact h
  refine wpF (args := [_, _]) mixed okf81 (fn := Tryz.f81) rfl rfl rfl (by simp) ?_
  refine cSeq ?_
  refine cRegion ?_
  refine sAs (v := .bool _) rfl ?_
  refine sNil (kSeqN ?_)
  refine cSeq ?_
  refine cRegion ?_
  refine sMv (v := .int _ _) rfl ?_
  refine sCall1 (v := .bool false) rfl call102 rfl spec_isNaN ?_
  refine sMv (v := .bool _) rfl ?_
  refine sGno (q' := false) rfl rfl (by simp) ?_
  refine sGno (q' := false) rfl rfl (by simp) ?_
  refine sGno (q' := false) rfl rfl (by simp) ?_
  refine sP (v := .bool _) rfl ?_   -- t11 pick ['t7', 't10', '(bool false)']
  refine sMv (v := .bool _) rfl ?_
  refine sG rfl rfl ?_
  refine sMv (v := .int _ _) rfl ?_
  refine sG rfl rfl ?_
  refine sMv (v := .int _ _) rfl ?_
  refine sG rfl rfl ?_
  refine sBinI rfl rfl aInt_lssI ?_
  refine sP (v := .bool _) rfl ?_
  refine sAs (v := .bool _) rfl ?_
  refine sNil (kSeqN ?_)
  refine cRet ?_
  exact ⟨.inr rfl, _, rfl, rfl, rfl⟩

theorem okf129 : okF Tryz.prog H0 129 21 = true := by kernel_rfl
theorem spec_IsSorted {m : Mem} {a : Value} {l : List Nat} (ha : IntsAt m a (ofs l)) (hl : l.length < 1000000) : ACalls Tryz.prog 129 #[a] m (.bool (risingB l)) m := by
  suffices h : ∃ v m', ACalls Tryz.prog 129 #[a] m v m' ∧ (v = .bool (risingB l) ∧ m' = m) by
    obtain ⟨v, m', h, rfl, rfl⟩ := h; exact h
  obtain ⟨q, cap, rfl⟩ := ha.lenN
  refine wpF (args := [_]) mixed okf129 (fn := Tryz.f129) rfl rfl rfl (by simp) ?_
  refine cSeq ?_
  refine cRegion ?_
  refine sAs (v := .bool _) rfl ?_
  refine sNil (kSeqN ?_)
  refine cSeq ?_
  refine cSeq ?_
  refine cRegion ?_
  refine sMv (v := .slice _ _ _) rfl ?_
  refine sLen T29 rfl ?_
  refine sBinI (v := .int .i64 (Int.ofNat l.length - 1)) rfl rfl (aInt_subI (b := 1) (by simp; omega)) ?_
  refine sAs (v := .int _ _) rfl ?_
  refine sNil (kSeqN ?_)
  refine cBlock ?_
  refine wpC_loop (fun k ρ m' => ∃ i : Nat, k = i ∧ i ≤ l.length ∧ (∀ j, i ≤ j + 1 → j + 1 < l.length → l.getD j 0 ≤ l.getD (j + 1) 0) ∧ m = m' ∧ Has ρ [(0, .slice q l.length cap), (3, .int .i64 (Int.ofNat i - 1))]) ⟨l.length, rfl, Nat.le_refl _, fun j h1 h2 => by omega, rfl, rfl, rfl, trivial⟩ ?_
  rintro k ρ _ ⟨i, rfl, hi, hj, rfl, hh⟩
  rw [hh.env]; clear hh
  refine cSeq ?_   -- seq 3
  refine cSeq ?_
  refine cRegion ?_
  refine sMv (v := .int _ _) rfl ?_
  refine sBinI (v := .bool (decide (1 < k))) (b := 0) rfl rfl (by
    have : aInt .gtr .i64 (Int.ofNat k - 1) 0 = some (.bool (decide (Int.ofNat k - 1 > 0))) := rfl
    rw [this]; congr 2
    exact decide_eq_decide.2 (by simp; omega)) ?_
  refine sNil (kSeqN ?_)
  refine cCond (p := 1 < k) rfl (fun c0 => ?_) (fun c0 => ?_)
  ·
    obtain ⟨j, rfl⟩ : ∃ j, k = j + 2 := ⟨k - 2, by omega⟩
    obtain ⟨b1, o1, p1, r1, cc, e1, g1, x1⟩ := ha.atN (by omega)
    cases e1
    have hk1 : Int.ofNat (j + 2) - 1 = Int.ofNat (j + 1) := by simp; omega
    rw [hk1]
    refine cSkip (kSeqN ?_)
    refine cSeq ?_
    refine cBlock ?_
    refine cSeq ?_
    refine cDraw rfl ?_
    refine sMv (v := .slice _ _ _) rfl ?_
    refine sMv (v := nv (j + 1)) rfl ?_
    refine sIx T29 S3 rfl rfl (by omega) ?_
    refine sLd (v := nv (l.getD (j + 1) 0)) A3 rfl g1 (x1 _ _ (getDeq (by omega))) ?_
    refine sMv (v := .slice _ _ _) rfl ?_
    refine sMv (v := nv (j + 1)) rfl ?_
    refine sBin (v := nv j) (a := j + 1) (b := 1) rfl rfl (aInt_sub (by omega)) ?_
    refine sIx T29 S3 rfl rfl (by omega) ?_
    refine sLd (v := nv (l.getD j 0)) A3 rfl g1 (x1 _ _ (getDeq (by omega))) ?_
    refine sCall2 rfl call81 rfl rfl spec_Less ?_
    refine sNil (kSeqN ?_)
    refine cCond (p := l.getD (j + 1) 0 < l.getD j 0) (by show Value.bool _ = Value.bool _; congr 1; exact decide_eq_decide.2 (by simp)) (fun c1 => ?_) (fun c1 => ?_)
    ·
      refine cSeq ?_
      refine cRegion ?_
      refine sAs (v := .bool _) rfl ?_
      refine sNil (kSeqN ?_)
      refine cRet (kBlkR (kSeqR (kSeqR (kBlkR (kSeqR ?_)))))
      refine ⟨.inr rfl, _, rfl, ?_, rfl⟩
      have : risingB l = false := by
        rw [risingB, Bool.eq_false_iff]
        intro h
        have := of_decide_eq_true (List.all_eq_true.1 h j (List.mem_range.2 (by omega)))
        omega
      rw [this]; rfl
    ·
      refine cSkip (kBlkN (kSeqN ?_))
      refine cRegion ?_
      refine sMv (v := nv (j + 1)) rfl ?_
      refine sBinI (v := .int .i64 (Int.ofNat (j + 1) - 1)) (a := Int.ofNat (j + 1)) (b := 1) rfl rfl (aInt_subI (by simp; omega)) ?_
      refine sAs (v := .int _ _) rfl ?_
      refine sNil (kSeqN ?_)
      refine ⟨j + 1, by omega, j + 1, rfl, by omega, fun i h1 h2 => ?_, rfl, rfl, rfl, trivial⟩
      by_cases h : i = j
      · subst h; omega
      · exact hj i (by omega) h2
  ·
    refine cExit (kSeqE (kSeqE (kBlkS (kSeqN ?_))))
    refine cSeq ?_
    refine cRegion ?_
    refine sAs (v := .bool _) rfl ?_
    refine sNil (kSeqN ?_)
    refine cRet ?_
    refine ⟨.inr rfl, _, rfl, ?_, rfl⟩
    have : risingB l = true := by
      rw [risingB, List.all_eq_true]
      intro i hi2
      have := List.mem_range.1 hi2
      exact decide_eq_true (hj i (by omega) (by omega))
    rw [this]; rfl

theorem okf130 : okF Tryz.prog H0 130 61 = true := by kernel_rfl
theorem spec_CompactC {m : Mem} {b : Nat} {l : List Nat} {C : Array Value} (hb : Mem.get m b = .cells true C) (hlC : l.length ≤ C.size) (hgd : ∀ i, i < l.length → C[i]? = some (nv (l.getD i 0))) (hl : l.length < 1000000) : ∃ v m', ACalls Tryz.prog 130 #[.slice (some ⟨b, 0, some 1⟩) l.length C.size] m v m' ∧ (∃ q n c, v = .slice q n c ∧ (n = l.length ↔ apartB l = true) ∧ But b m m' ∧ m'.size = m.size) := by
  have hbm := live hb
  refine wpF (args := [_]) mixed okf130 (fn := Tryz.f130) rfl rfl rfl (by simp) ?_
  refine cSeq ?_
  refine cRegion ?_
  refine sAs (v := .slice _ _ _) rfl ?_
  refine sNil (kSeqN ?_)
  refine cSeq ?_   -- seq 1
  refine cSeq ?_
  refine cRegion ?_
  refine sMv (v := .slice _ _ _) rfl ?_
  refine sLen T29 rfl ?_
  refine sBin (b := 2) rfl rfl aInt_lss ?_
  refine sNil (kSeqN ?_)
  refine cCond rfl (fun c0 => ?_) (fun c0 => ?_)
  ·
    refine cSeq ?_
    refine cRegion ?_
    refine sMv (v := .slice _ _ _) rfl ?_
    refine sAs (v := .slice _ _ _) rfl ?_
    refine sNil (kSeqN ?_)
    refine cRet (kSeqR ?_)
    refine ⟨.inr rfl, _, rfl, _, _, _, rfl, ⟨fun _ => ?_, fun _ => rfl⟩, ⟨Nat.le_refl _, fun _ _ _ => rfl⟩, rfl⟩
    rw [apartB, show l.length - 1 = 0 by omega]; rfl
  ·
    refine cSkip (kSeqN ?_)
    refine cSeq ?_
    refine cSeq ?_
    refine cRegion ?_
    refine sAs (v := nv 1) rfl ?_
    refine sNil (kSeqN ?_)
    refine cBlock ?_
    refine wpC_loop (fun k ρ m' => ∃ i, k = l.length - i ∧ 1 ≤ i ∧ i ≤ l.length ∧ (∀ j, j + 1 < i → l.getD j 0 ≠ l.getD (j + 1) 0) ∧ m = m' ∧ Has ρ [(0, .slice (some ⟨b, 0, some 1⟩) l.length C.size), (3, nv i)]) ⟨1, rfl, Nat.le_refl _, by omega, by omega, rfl, rfl, rfl, trivial⟩ ?_
    rintro k ρ _ ⟨i, rfl, hi1, hi, hj, rfl, hh⟩
    rw [hh.env]; clear hh
    refine cSeq ?_   -- seq 6
    refine cSeq ?_
    refine cRegion ?_
    refine sMv (v := nv _) rfl ?_
    refine sMv (v := .slice _ _ _) rfl ?_
    refine sLen T29 rfl ?_
    refine sBin rfl rfl (aInt_lss) ?_
    refine sNil (kSeqN ?_)
    refine cCond rfl (fun c1 => ?_) (fun c1 => ?_)
    ·
      obtain ⟨j, rfl⟩ : ∃ j, i = j + 1 := ⟨i - 1, by omega⟩
      refine cSkip (kSeqN ?_)
      refine cSeq ?_
      refine cBlock ?_
      refine cSeq ?_
      refine cDraw rfl ?_
      refine sMv (v := .slice _ _ _) rfl ?_
      refine sMv (v := nv _) rfl ?_
      refine sIx T29 S3 rfl rfl (by omega) ?_
      refine sLd (v := nv (l.getD (j + 1) 0)) A3 rfl (by simp (disch := first | omega | (simp only [Array.size_push, Array.size_setIfInBounds]; done) | (simp only [Array.size_push, Array.size_setIfInBounds]; omega)) only [gP, gPn, gS, gSn, hb]; try rfl) (by rw [Nat.zero_add, Nat.mul_one]; exact hgd _ (by omega)) ?_
      refine sMv (v := .slice _ _ _) rfl ?_
      refine sMv (v := nv _) rfl ?_
      refine sBin (v := nv j) (a := j + 1) (b := 1) rfl rfl (aInt_sub (by omega)) ?_
      refine sIx T29 S3 rfl rfl (by omega) ?_
      refine sLd (v := nv (l.getD j 0)) A3 rfl (by simp (disch := first | omega | (simp only [Array.size_push, Array.size_setIfInBounds]; done) | (simp only [Array.size_push, Array.size_setIfInBounds]; omega)) only [gP, gPn, gS, gSn, hb]; try rfl) (by rw [Nat.zero_add, Nat.mul_one]; exact hgd _ (by omega)) ?_
      refine sBin (a := l.getD (j + 1) 0) (b := l.getD j 0) rfl rfl aInt_eql ?_
      refine sNil (kSeqN ?_)
      refine cCond rfl (fun c2 => ?_) (fun c2 => ?_)
      ·
        have hap : apartB l = false := by
          rw [apartB, Bool.eq_false_iff]
          intro h
          exact of_decide_eq_true (List.all_eq_true.1 h j (List.mem_range.2 (by omega))) c2.symm
        refine cSeq ?_
        refine cRegion ?_
        refine sMv (v := .slice _ _ _) rfl ?_
        refine sMv (v := nv _) rfl ?_
        refine sSlLo T29 S3 rfl rfl (by omega) (by omega) ?_
        refine sAs (v := .slice _ _ _) rfl ?_
        refine sNil (kSeqN ?_)
        refine cSeq ?_
        refine cSeq ?_
        refine cRegion ?_
        refine sAs (v := nv 1) rfl ?_
        refine sNil (kSeqN ?_)
        refine cBlock ?_
        refine wpC_loop (fun k' ρ m' => ∃ (s e : Nat) (T : Array Value), k' = l.length - e ∧ 1 ≤ e ∧ e ≤ l.length - (j + 1) ∧ j + 1 ≤ s ∧ s ≤ j + e ∧ T.size = C.size ∧ (∀ i, i < l.length → ∃ x, T[i]? = some (nv x)) ∧ Mem.get m' b = .cells true T ∧ But b m m' ∧ m'.size = m.size ∧ Has ρ [(0, .slice (some ⟨b, 0, some 1⟩) l.length C.size), (3, nv s), (4, .slice (some ⟨b, 0 + (j + 1) * 1, some 1⟩) (l.length - (j + 1)) (C.size - (j + 1))), (5, nv e)]) ⟨j + 1, 1, C, rfl, Nat.le_refl _, by omega, Nat.le_refl _, by omega, rfl, fun i hi => ⟨_, hgd i hi⟩, hb, ⟨Nat.le_refl _, fun _ _ _ => rfl⟩, rfl, rfl, rfl, rfl, rfl, trivial⟩ ?_
        rintro k' ρ m' ⟨s, e, T, rfl, he1, he, hs1, hs, hT, hTd, g1, hB, hz, hh⟩
        rw [hh.env]; clear hh
        refine cSeq ?_   -- seq 13
        refine cSeq ?_
        refine cRegion ?_
        refine sMv (v := nv _) rfl ?_
        refine sMv (v := .slice _ _ _) rfl ?_
        refine sLen T29 rfl ?_
        refine sBin (a := e) (b := l.length - (j + 1)) rfl rfl aInt_lss ?_
        refine sNil (kSeqN ?_)
        refine cCond rfl (fun c3 => ?_) (fun c3 => ?_)
        ·
          refine cSkip (kSeqN ?_)
          refine cSeq ?_
          refine cBlock ?_
          refine cSeq ?_
          refine cDraw rfl ?_
          refine sMv (v := .slice _ _ _) rfl ?_
          refine sMv (v := nv _) rfl ?_
          refine sIx T29 S3 rfl rfl (by omega) ?_
          obtain ⟨x1, hx1⟩ := hTd (j + 1 + e) (by omega)
          obtain ⟨x2, hx2⟩ := hTd (j + 1 + (e - 1)) (by omega)
          refine sLd (v := nv x1) A3 rfl (by simp (disch := first | omega | (simp only [Array.size_push, Array.size_setIfInBounds]; done) | (simp only [Array.size_push, Array.size_setIfInBounds]; omega)) only [gP, gPn, gS, gSn, g1]; try rfl) (by rw [show 0 + (j + 1) * 1 + e * 1 = j + 1 + e by omega]; exact hx1) ?_
          refine sMv (v := .slice _ _ _) rfl ?_
          refine sMv (v := nv _) rfl ?_
          refine sBin (v := nv (e - 1)) (a := e) (b := 1) rfl rfl (aInt_sub (by omega)) ?_
          refine sIx T29 S3 rfl rfl (by omega) ?_
          refine sLd (v := nv x2) A3 rfl (by simp (disch := first | omega | (simp only [Array.size_push, Array.size_setIfInBounds]; done) | (simp only [Array.size_push, Array.size_setIfInBounds]; omega)) only [gP, gPn, gS, gSn, g1]; try rfl) (by rw [show 0 + (j + 1) * 1 + (e - 1) * 1 = j + 1 + (e - 1) by omega]; exact hx2) ?_
          refine sBin (a := x1) (b := x2) rfl rfl aInt_neq ?_
          refine sNil (kSeqN ?_)
          refine cCond rfl (fun c4 => ?_) (fun c4 => ?_)
          ·
            refine cSeq ?_
            refine cRegion ?_
            refine sMv (v := .slice _ _ _) rfl ?_
            refine sMv (v := nv _) rfl ?_
            refine sMv (v := .slice _ _ _) rfl ?_
            refine sMv (v := nv _) rfl ?_
            refine sIx T29 S3 rfl rfl (by omega) ?_
            refine sLd (v := nv x1) A3 rfl (by simp (disch := first | omega | (simp only [Array.size_push, Array.size_setIfInBounds]; done) | (simp only [Array.size_push, Array.size_setIfInBounds]; omega)) only [gP, gPn, gS, gSn, g1]; try rfl) (by rw [show 0 + (j + 1) * 1 + e * 1 = j + 1 + e by omega]; exact hx1) ?_
            refine sIx T29 S3 rfl rfl (by omega) ?_
            refine sSt (v := nv _) S3 rfl rfl (by simp (disch := first | omega | (simp only [Array.size_push, Array.size_setIfInBounds]; done) | (simp only [Array.size_push, Array.size_setIfInBounds]; omega)) only [gP, gPn, gS, gSn, g1]; try rfl) (by omega) rfl rfl ?_
            refine sNil (kSeqN ?_)
            refine cRegion ?_
            refine sMv (v := nv _) rfl ?_
            refine sBin rfl rfl (aInt_add (b := 1) (by omega)) ?_
            refine sAs (v := nv _) rfl ?_
            refine sNil (kBlkN (kSeqN ?_))
            refine cRegion ?_
            refine sMv (v := nv _) rfl ?_
            refine sBin rfl rfl (aInt_add (b := 1) (by omega)) ?_
            refine sAs (v := nv _) rfl ?_
            refine sNil (kSeqN ?_)
            refine ⟨_, ?_, s + 1, e + 1, T.setIfInBounds (0 + s * 1) (nv x1), rfl, by omega, by omega, by omega, by omega, by simpa using hT, fun i hi => ?_, (by simp (disch := first | omega | (simp only [Array.size_push, Array.size_setIfInBounds]; done) | (simp only [Array.size_push, Array.size_setIfInBounds]; omega)) only [gP, gPn, gS, gSn, g1]; try rfl), hB.set (.inl rfl) _, by simpa using hz, rfl, rfl, rfl, rfl, trivial⟩
            · omega
            · rw [Array.getElem?_setIfInBounds]
              split
              · exact ⟨x1, if_pos (by omega)⟩
              · exact hTd i hi
          ·
            refine cSkip (kBlkN (kSeqN ?_))
            refine cRegion ?_
            refine sMv (v := nv _) rfl ?_
            refine sBin rfl rfl (aInt_add (b := 1) (by omega)) ?_
            refine sAs (v := nv _) rfl ?_
            refine sNil (kSeqN ?_)
            refine ⟨_, ?_, s, e + 1, T, rfl, by omega, by omega, by omega, by omega, hT, hTd, g1, hB, hz, rfl, rfl, rfl, rfl, trivial⟩
            omega
        ·
          refine cExit (kSeqE (kSeqE (kBlkS (kSeqN ?_))))
          refine cSeq ?_
          refine cRegion ?_
          refine sMv (v := .slice _ _ _) rfl ?_
          refine sMv (v := nv _) rfl ?_
          refine sSlLo (k := s) T29 S3 rfl rfl (by omega) (by omega) ?_
          refine sClr T29 Z3 rfl (by simp (disch := first | omega | (simp only [Array.size_push, Array.size_setIfInBounds]; done) | (simp only [Array.size_push, Array.size_setIfInBounds]; omega)) only [gP, gPn, gS, gSn, g1]; try rfl) (by omega) ?_
          refine sNil (kSeqN ?_)
          refine cSeq ?_
          refine cRegion ?_
          refine sMv (v := .slice _ _ _) rfl ?_
          refine sMv (v := nv _) rfl ?_
          refine sSlHi (k := s) T29 S3 rfl rfl (by omega) ?_
          refine sAs (v := .slice _ _ _) rfl ?_
          refine sNil (kSeqN ?_)
          refine cRet (kBlkR (kSeqR (kSeqR (kBlkR (kSeqR ?_)))))
          exact ⟨.inr rfl, _, rfl, _, _, _, rfl, ⟨fun h => by omega, fun h => by rw [hap] at h; cases h⟩, hB.set (.inl rfl) _, by simpa using hz⟩
      ·
        refine cSkip (kBlkN (kSeqN ?_))
        refine cRegion ?_
        refine sMv (v := nv _) rfl ?_
        refine sBin rfl rfl (aInt_add (b := 1) (by omega)) ?_
        refine sAs (v := nv _) rfl ?_
        refine sNil (kSeqN ?_)
        refine ⟨_, ?_, j + 2, rfl, by omega, by omega, fun i hi => ?_, rfl, rfl, rfl, trivial⟩
        · omega
        · by_cases h : i = j
          · subst h; exact fun e => c2 e.symm
          · exact hj i (by omega)
    ·
      refine cExit (kSeqE (kSeqE (kBlkS (kSeqN ?_))))
      refine cSeq ?_
      refine cRegion ?_
      refine sMv (v := .slice _ _ _) rfl ?_
      refine sAs (v := .slice _ _ _) rfl ?_
      refine sNil (kSeqN ?_)
      refine cRet ?_
      refine ⟨.inr rfl, _, rfl, _, _, _, rfl, ⟨fun _ => ?_, fun _ => rfl⟩, ⟨Nat.le_refl _, fun _ _ _ => rfl⟩, rfl⟩
      rw [apartB, List.all_eq_true]
      intro j hj2
      have := List.mem_range.1 hj2
      exact decide_eq_true (hj j (by omega))

theorem spec_CompactNil {N : Nat} {m : Mem} : ∃ v m', ACalls Tryz.prog 130 #[.slice none 0 0] m v m' ∧ (∃ q n c, v = .slice q n c ∧ (n = ([] : List Nat).length ↔ apartB [] = true) ∧ Low N m m') := by
  refine wpF (args := [_]) mixed okf130 (fn := Tryz.f130) rfl rfl rfl (by simp) ?_
  refine cSeq ?_
  refine cRegion ?_
  refine sAs (v := .slice _ _ _) rfl ?_
  refine sNil (kSeqN ?_)
  refine cSeq ?_   -- seq 1
  refine cSeq ?_
  refine cRegion ?_
  refine sMv (v := .slice _ _ _) rfl ?_
  refine sLen T29 rfl ?_
  refine sBin (a := 0) (b := 2) rfl rfl aInt_lss ?_
  refine sNil (kSeqN ?_)
  refine cCondT' rfl (by omega) ?_
  refine cSeq ?_
  refine cRegion ?_
  refine sMv (v := .slice _ _ _) rfl ?_
  refine sAs (v := .slice _ _ _) rfl ?_
  refine sNil (kSeqN ?_)
  refine cRet (kSeqR ?_)
  exact ⟨.inr rfl, _, rfl, _, _, _, rfl, ⟨fun _ => rfl, fun _ => rfl⟩, .refl _ _⟩

theorem spec_Compact {N : Nat} {m : Mem} {a : Value} {l : List Nat} (h : OwnF N m a (ofs l)) (hl : l.length < 1000000) : ∃ v m', ACalls Tryz.prog 130 #[a] m v m' ∧ (∃ q n c, v = .slice q n c ∧ (n = l.length ↔ apartB l = true) ∧ Low N m m') := by
  by_cases h0 : 0 < l.length
  · rcases h with ⟨h, _⟩ | ⟨b, cap, c, rfl, h2, h3, h4, rfl, h6⟩
    · have : (ofs l).length = 0 := by rw [h]; rfl
      rw [ofs_length] at this; omega
    · rw [ofs_length] at h4
      obtain ⟨v, m', h1, q, n, c', rfl, hn, hB, hz⟩ := spec_CompactC (l := l) h3 h4 (fun i hi => h6 i _ (ofs_get (getDeq hi))) hl
      rw [ofs_length]
      exact ⟨_, m', h1, q, n, c', rfl, hn, by rw [hz]; exact Nat.le_refl _, fun b' hb' => hB.2 b' (by have := live h3; omega) (by omega)⟩
  · obtain rfl := List.length_eq_zero_iff.1 (show l.length = 0 by omega)
    rcases h with ⟨_, rfl⟩ | ⟨b, cap, c, rfl, h2, h3, h4, rfl, h6⟩
    · exact spec_CompactNil
    · obtain ⟨v, m', h1, q, n, c', rfl, hn, hB, hz⟩ := spec_CompactC (l := []) h3 (Nat.zero_le _) (fun i hi => by cases hi) (by simp)
      exact ⟨_, m', h1, q, n, c', rfl, hn, by rw [hz]; exact Nat.le_refl _, fun b' hb' => hB.2 b' (by have := live h3; omega) (by omega)⟩
/-! ### Marks -/
def cellsM (ps : List Nat) : Array Value := ((marksM ps).map Value.bool).toArray
@[simp] theorem cellsM_size (ps : List Nat) : (cellsM ps).size = 1024 := by simp [cellsM]
theorem cellsM_get {ps : List Nat} {i : Nat} (h : i < 1024) : (cellsM ps)[i]? = some (.bool (decide (i ∈ ps))) := by
  simp only [cellsM, List.getElem?_toArray, List.getElem?_map, marksM_get h]; rfl
theorem cellsM_set (ps : List Nat) (x : Nat) : (cellsM ps).setIfInBounds x (.bool true) = cellsM (x :: ps) := by
  rw [cellsM, cellsM, ← marksM_set, List.map_set]
  apply Array.ext_getElem?
  intro i
  simp only [Array.getElem?_setIfInBounds, List.getElem?_toArray, List.getElem?_set, List.size_toArray, List.length_map]
theorem cellsM_nil : cellsM [] = Array.replicate 1024 (.bool false) := by
  apply Array.ext_getElem?
  intro i
  by_cases h : i < 1024
  · rw [cellsM_get h, Array.getElem?_replicate, if_pos h]; simp
  · rw [Array.getElem?_eq_none (by simp; omega), Array.getElem?_eq_none (by simp; omega)]
theorem cellsM_one (ps : List Nat) : (cellsM ps).all Value.oneCell' = true := by
  rw [Array.all_eq_true]
  intro i hi
  have := cellsM_get (ps := ps) (i := i) (by simpa using hi)
  rw [Array.getElem?_eq_getElem hi] at this
  rw [Option.some.inj this]; rfl
theorem cellsM_congr {ps qs : List Nat} (h : ∀ i, i ∈ ps ↔ i ∈ qs) : cellsM ps = cellsM qs := by
  rw [cellsM, cellsM, marksM_congr fun i _ => h i]
theorem eqBools {k : Nat} : ∀ (i : Nat) (t t' : List Bool), t.length = i + k → t'.length = i + k →
    aEqElems (aEq Tryz.prog 5) Tryz.prog 4 1 k i (t.map Value.bool).toArray (t'.map Value.bool).toArray = some (decide (t.drop i = t'.drop i)) := by
  have hI : undOf Tryz.prog 4 = some .bool := by kernel_rfl
  induction k with
  | zero =>
    intro i t t' h h'
    rw [List.drop_of_length_le (by omega), List.drop_of_length_le (by omega)]; rfl
  | succ k ih =>
    intro i t t' h h'
    have e1 : ((t.map Value.bool).toArray)[i * 1]? = some (.bool (t[i]'(by omega))) := by
      rw [Nat.mul_one, List.getElem?_toArray, List.getElem?_map, List.getElem?_eq_getElem (by omega)]; rfl
    have e2 : ((t'.map Value.bool).toArray)[i * 1]? = some (.bool (t'[i]'(by omega))) := by
      rw [Nat.mul_one, List.getElem?_toArray, List.getElem?_map, List.getElem?_eq_getElem (by omega)]; rfl
    have e4 : aEq Tryz.prog 5 4 (.bool (t[i]'(by omega))) (.bool (t'[i]'(by omega))) = some (t[i]'(by omega) == t'[i]'(by omega)) := by
      simp only [aEq, hI, aEq0]
    simp only [aEqElems, aPart, A4, e1, e2, e4]
    have d1 := List.drop_eq_getElem_cons (l := t) (i := i) (by omega)
    have d2 := List.drop_eq_getElem_cons (l := t') (i := i) (by omega)
    by_cases hh : t[i]'(by omega) = t'[i]'(by omega)
    · have : (t[i]'(by omega) == t'[i]'(by omega)) = true := by rw [beq_iff_eq]; exact hh
      rw [this, ih (i + 1) t t' (by omega) (by omega), d1, d2]
      refine congrArg some (decide_eq_decide.2 ⟨fun h => by rw [h, hh], fun h => (List.cons.inj h).2⟩)
    · have : (t[i]'(by omega) == t'[i]'(by omega)) = false := by rw [beq_eq_false_iff_ne]; exact hh
      rw [this, d1, d2]
      exact congrArg some (decide_eq_false fun h => hh (List.cons.inj h).1).symm
theorem eq119 {ps qs : List Nat} : aBin Tryz.prog .eql 119 (.agg (cellsM ps)) (.agg (cellsM qs)) = some (.bool (decide (marksM ps = marksM qs))) := by
  have hG : Tryz.prog.eqGuardType Tryz.prog.depth 93 = false := by kernel_rfl
  have := eqBools (k := 1024) 0 (marksM ps) (marksM qs) (by simp) (by simp)
  simp only [List.drop_zero] at this
  have e : aEq Tryz.prog (5 + 1) 119 (.agg (cellsM ps)) (.agg (cellsM qs)) = aEqElems (aEq Tryz.prog 5) Tryz.prog 4 1 1024 0 (cellsM ps) (cellsM qs) := by
    rw [aEq.eq_def]; simp only [T119, S4]
  simp only [aBin, eqAble, hG]
  rw [show eqDepth = 5 + 1 from rfl, e, cellsM, cellsM, this]; rfl

theorem okf128 : okF Tryz.prog H0 128 22 = true := by kernel_rfl
theorem spec_asks1 {m : Mem} {vs : Array Value} {a b : Int} {s : Value} {ps qs : List Nat} (hs : IntsAt m s (ofs ps)) (hl : ps.length < 1000000) : ∃ v m', ACalls Tryz.prog 128 #[.agg vs, .int .i64 a, .int .i64 b, s, .agg (cellsM qs)] m v m' ∧ (v = .bool (risingB ps && apartB ps) ∧ Ext m m') := by
  obtain ⟨q, cap, rfl⟩ := hs.lenN
  refine wpF (args := [_, _, _, _, _]) mixed okf128 (fn := Tryz.f128) rfl rfl rfl (by simp) ?_
  refine cSeq ?_
  refine cRegion ?_
  refine sBox (v := .agg _) rfl ?_
  refine sBox (v := .agg _) rfl ?_
  refine sAs (v := .bool _) rfl ?_
  refine sNil (kSeqN ?_)
  refine cSeq ?_
  refine cRegion ?_
  refine sMv (v := .slice _ _ _) rfl ?_
  refine sCall1 rfl call129 rfl (spec_IsSorted ((hs.ext (.push _ _)).ext (.push _ _)) hl) ?_
  refine sMv (v := .bool _) rfl ?_
  by_cases hr : risingB ps = true
  ·
    rw [hr]
    refine sG rfl rfl ?_
    refine sMv (v := .slice _ _ _) rfl ?_
    refine sG rfl rfl ?_
    obtain ⟨v15, m15, h15, o15, e15⟩ := spec_Clone (m := (m.push (.cells true vs)).push (.cells true (cellsM qs))) ((hs.ext (.push _ _)).ext (.push _ _)) (by rw [ofs_length]; omega)
    obtain ⟨q15, c15, rfl⟩ := o15.ints.lenN
    refine sCall1 rfl call28 rfl h15 ?_
    refine sG rfl rfl ?_
    obtain ⟨v16, m16, h16, q16, n16, c16, rfl, hn16, k16⟩ := spec_Compact o15 hl
    refine sCall1 rfl call130 rfl h16 ?_
    refine sG rfl rfl ?_
    refine sLen T29 rfl ?_
    refine sG rfl rfl ?_
    refine sMv (v := .slice _ _ _) rfl ?_
    refine sG rfl rfl ?_
    refine sLen T29 rfl ?_
    refine sG rfl rfl ?_
    refine sBin (a := n16) (b := ps.length) rfl rfl aInt_eql ?_
    refine sP (v := .bool _) rfl ?_
    refine sAs (v := .bool _) rfl ?_
    refine sNil (kSeqN ?_)
    refine cRet ?_
    refine ⟨.inr rfl, _, rfl, ?_, Low.to_ext (((Ext.push _ _).trans (.push _ _)).trans e15) k16 (by simp; omega)⟩
    rw [Bool.true_and]
    refine congrArg Value.bool ?_
    cases h : apartB ps
    · exact decide_eq_false fun e => by rw [hn16, h] at e; cases e
    · exact decide_eq_true (hn16.2 h)
  ·
    rw [Bool.not_eq_true] at hr
    rw [hr]
    refine sGno (q' := false) rfl rfl (by simp) ?_
    refine sGno (q' := false) rfl rfl (by simp) ?_
    refine sGno (q' := false) rfl rfl (by simp) ?_
    refine sGno (q' := false) rfl rfl (by simp) ?_
    refine sGno (q' := false) rfl rfl (by simp) ?_
    refine sGno (q' := false) rfl rfl (by simp) ?_
    refine sGno (q' := false) rfl rfl (by simp) ?_
    refine sP (v := .bool _) rfl ?_
    refine sAs (v := .bool _) rfl ?_
    refine sNil (kSeqN ?_)
    refine cRet ?_
    exact ⟨.inr rfl, _, rfl, rfl, (Ext.push _ _).trans (.push _ _)⟩

theorem okf131 : okF Tryz.prog H0 131 19 = true := by kernel_rfl
theorem spec_asks2 {m : Mem} {vs : Array Value} {g : Nat} {b : Int} {s : Value} {ps : List Nat} (hg : g < 1024) : ∃ v m', ACalls Tryz.prog 131 #[.agg vs, nv g, .int .i64 b, s, .agg (cellsM ps)] m v m' ∧ (v = .bool (decide (0 ∈ ps) && !decide (g ∈ ps)) ∧ Ext m m') := by
  refine wpF (args := [_, _, _, _, _]) mixed okf131 (fn := Tryz.f131) rfl rfl rfl (by simp) ?_
  refine cSeq ?_
  refine cRegion ?_
  refine sBox (v := .agg _) rfl ?_
  refine sBox (v := .agg _) rfl ?_
  refine sAs (v := .bool _) rfl ?_
  refine sNil (kSeqN ?_)
  refine cSeq ?_
  refine cRegion ?_
  refine sIxA (i := 0) T119 S4 rfl rfl (by omega) ?_
  refine sLd (v := .bool (decide (0 ∈ ps))) A4 rfl (by simp (disch := first | omega | (simp only [Array.size_push, Array.size_setIfInBounds]; done) | (simp only [Array.size_push, Array.size_setIfInBounds]; omega)) only [gP, gPn, gS, gSn]; try rfl) (by exact cellsM_get (by omega)) ?_
  refine sMv (v := .bool _) rfl ?_
  by_cases h0 : 0 ∈ ps
  ·
    rw [decide_eq_true h0]
    refine sG rfl rfl ?_
    refine sMv (v := nv _) rfl ?_
    refine sG rfl rfl ?_
    refine sIxA (i := g) T119 S4 rfl rfl hg ?_
    refine sG rfl rfl ?_
    refine sLd (v := .bool (decide (g ∈ ps))) A4 rfl (by simp (disch := first | omega | (simp only [Array.size_push, Array.size_setIfInBounds]; done) | (simp only [Array.size_push, Array.size_setIfInBounds]; omega)) only [gP, gPn, gS, gSn]; try rfl) (by rw [Nat.zero_add, Nat.mul_one]; exact cellsM_get hg) ?_
    refine sG rfl rfl ?_
    refine sP (v := .bool (!decide (g ∈ ps))) rfl ?_
    refine sP (v := .bool _) rfl ?_
    refine sAs (v := .bool _) rfl ?_
    refine sNil (kSeqN ?_)
    refine cRet ?_
    exact ⟨.inr rfl, _, rfl, rfl, (Ext.push _ _).trans (.push _ _)⟩
  ·
    rw [decide_eq_false h0]
    refine sGno (q' := false) rfl rfl (by simp) ?_
    refine sGno (q' := false) rfl rfl (by simp) ?_
    refine sGno (q' := false) rfl rfl (by simp) ?_
    refine sGno (q' := false) rfl rfl (by simp) ?_
    refine sP (v := .bool _) rfl ?_
    refine sAs (v := .bool _) rfl ?_
    refine sNil (kSeqN ?_)
    refine cRet ?_
    exact ⟨.inr rfl, _, rfl, rfl, (Ext.push _ _).trans (.push _ _)⟩

theorem okf70 : okF Tryz.prog H0 70 12 = true := by kernel_rfl
theorem spec_Shows1 {m : Mem} {x : Int} {b n : Nat} {r : Bool} {u w : Value} (hb : Mem.get m b = .cells r #[u, w, nv n]) : ACalls Tryz.prog 70 #[.int .i64 x, .pointer (some ⟨b, 0, none⟩)] m (.bool (decide (x < 0 ∨ Int.ofNat n < x))) m := by
  suffices h : ∃ v m', ACalls Tryz.prog 70 #[.int .i64 x, .pointer (some ⟨b, 0, none⟩)] m v m' ∧ (v = .bool (decide (x < 0 ∨ Int.ofNat n < x)) ∧ m' = m) by
    obtain ⟨v, m', h, rfl, rfl⟩ := h; exact h
  refine wpF (args := [_, _]) mixed okf70 (fn := Tryz.f70) rfl rfl rfl (by simp) ?_
  refine cSeq ?_
  refine cRegion ?_
  refine sAs (v := .bool _) rfl ?_
  refine sNil (kSeqN ?_)
  refine cSeq ?_
  refine cRegion ?_
  refine sMv (v := .int _ _) rfl ?_
  refine sBinI (v := .bool (decide (x < 0))) rfl rfl rfl ?_
  refine sMv (v := .bool _) rfl ?_
  by_cases h1 : x < 0
  ·
    rw [decide_eq_true h1]
    refine sGno (q' := true) rfl rfl (by simp) ?_
    refine sGno (q' := true) rfl rfl (by simp) ?_
    refine sGno (q' := true) rfl rfl (by simp) ?_
    refine sGno (q' := true) rfl rfl (by simp) ?_
    refine sP (v := .bool _) rfl ?_
    refine sAs (v := .bool _) rfl ?_
    refine sNil (kSeqN ?_)
    refine cRet ?_
    exact ⟨.inr rfl, _, rfl, by rw [decide_eq_true (.inl h1)]; rfl, rfl⟩
  ·
    rw [decide_eq_false h1]
    refine sG rfl rfl ?_
    refine sMv (v := .int _ _) rfl ?_
    refine sG rfl rfl ?_
    refine sFA F57_2 rfl ?_
    refine sG rfl rfl ?_
    refine sLd A3 rfl (by simp (disch := first | omega | (simp only [Array.size_push, Array.size_setIfInBounds]; done) | (simp only [Array.size_push, Array.size_setIfInBounds]; omega)) only [gP, gPn, gS, gSn, hb]; try rfl) rfl ?_
    refine sG rfl rfl ?_
    refine sBinI (v := .bool (decide (x > Int.ofNat n))) (b := Int.ofNat n) rfl rfl rfl ?_
    refine sP (v := .bool _) rfl ?_
    refine sAs (v := .bool _) rfl ?_
    refine sNil (kSeqN ?_)
    refine cRet ?_
    exact ⟨.inr rfl, _, rfl, congrArg Value.bool (decide_eq_decide.2 ⟨fun h => .inr h, fun h => h.resolve_left h1⟩), rfl⟩

end Go.AM

/-! ### P16 -/
namespace Go.AM
open Go.Proofs
set_option maxRecDepth 100000
set_option linter.unusedVariables false
set_option linter.unusedSimpArgs false
theorem tosM_lt {P : List Nat} {k x n N : Nat} (hx : x < 2 ^ N) (hn : n ≤ N) : ∀ y ∈ tosM P k x n, y < 2 ^ N := by
  intro y hy
  simp only [tosM, List.mem_map, List.mem_filter, List.mem_range] at hy
  obtain ⟨i, ⟨hi, _⟩, rfl⟩ := hy
  exact Nat.xor_lt_two_pow hx (Nat.pow_lt_pow_right (by omega) (by omega))
theorem marks_closed {P : List Nat} {k : Nat} {ps acc : List Nat} (hP : P.length ≤ 10) (hps : ∀ x ∈ ps, x < 2 ^ P.length) (h : ∀ y, y ∈ acc ↔ (y ∈ ps ∨ ∃ x ∈ ps, y ∈ tosM P k x P.length)) : decide (marksM acc = marksM ps) = closedB P k ps := by
  have h1024 : 2 ^ P.length ≤ 1024 := Nat.le_trans (Nat.pow_le_pow_right (by omega) hP) (by decide)
  rw [Bool.eq_iff_iff, decide_eq_true_eq, marksM_iff, closedB, List.all_eq_true]
  constructor
  · intro hh x hx
    rw [List.all_eq_true]
    intro y hy
    have hy1 := tosM_lt (hps x hx) (Nat.le_refl _) y hy
    exact decide_eq_true ((hh y (by omega)).1 ((h y).2 (.inr ⟨x, hx, hy⟩)))
  · intro hh i hi
    rw [h i]
    refine ⟨fun hc => hc.elim id fun ⟨x, hx, hy⟩ => ?_, .inl⟩
    exact of_decide_eq_true (List.all_eq_true.1 (hh x hx) i hy)
theorem flat93 : (Value.agg (Array.replicate 1024 (.bool false))).cells.all flat0 = true := by
  rw [Array.all_eq_true]
  intro i hi
  have : (Value.agg (Array.replicate 1024 (.bool false))).cells[i] = .bool false := Array.getElem_replicate ..
  rw [this]; rfl
structure MkJ (M : Mem) (c : Nat) (acc : List Nat) (vs : Array Value) (p1 lp x k : Nat) (X : ALoop) (m' : Mem) : Prop where
  low : Low c M m'
  gc : Mem.get m' c = .cells true (cellsM acc)
  w1 : Mem.get m' p1 = .cells true vs
  w2 : Mem.get m' (p1 + 1) = .cells true #[nv x]
  w3 : Mem.get m' (p1 + 2) = .cells true #[nv k]
  lp : Mem.get m' lp = .loop X
theorem MkJ.ext {M : Mem} {c : Nat} {acc : List Nat} {vs : Array Value} {p1 lp x k : Nat} {X : ALoop} {m' m'' : Mem} (h : MkJ M c acc vs p1 lp x k X m') (he : Ext m' m'') : MkJ M c acc vs p1 lp x k X m'' :=
  ⟨h.low.trans_ext he (by have := live h.gc; omega), he.cells h.gc, he.cells h.w1, he.cells h.w2, he.cells h.w3, by rw [he.2 lp (Mem.lt_of_live (by rw [h.lp]; rfl)), h.lp]⟩

theorem okf132 : okF Tryz.prog H0 132 34 = true := by kernel_rfl
theorem spec_asks3 {m : Mem} {vs : Array Value} {a : Int} {s : Value} {N : List (List Nat)} {ps : List Nat} {k : Nat} (hB : BoardAt m (.agg vs) N) (hN : Dag N) (hs : IntsAt m s (ofs ps)) (hl : ps.length < 1000000) (hps : ∀ x ∈ ps, x < 2 ^ N.length) (hk : k < 9223372036854775808) : ∃ v m', ACalls Tryz.prog 132 #[.agg vs, .int .i64 a, nv k, s, .agg (cellsM ps)] m v m' ∧ (v = .bool (closedB (needsM N) k ps) ∧ Ext m m') := by
  obtain ⟨q, cap, rfl⟩ := hs.lenN
  have h10 := hN.ten
  have hp10 : 2 ^ N.length ≤ 2 ^ 10 := Nat.pow_le_pow_right (by omega) h10
  have hpl : (needsM N).length = N.length := needsM_length N
  have hvs : vs.size = 3 := by obtain ⟨_, _, _, _, _, _, h, _⟩ := hB; cases h; rfl
  have he : Ext m ((m.push (.cells true vs)).push (.cells true (cellsM ps))) := (Ext.push _ _).trans (.push _ _)
  refine wpF (args := [_, _, _, _, _]) mixed okf132 (fn := Tryz.f132) rfl rfl rfl (by simp) ?_
  refine cSeq ?_
  refine cRegion ?_
  refine sBox (v := .agg _) rfl ?_
  refine sBoxB (bl := m.size + 1) (v := .agg _) (by simp) rfl ?_
  refine sAs (v := .bool _) rfl ?_
  refine sNil (kSeqN ?_)
  refine cSeq ?_
  refine cRegion ?_
  refine sLdAll A119 S119 rfl (gP (by simp)) (cellsM_size ps) ?_
  refine sAllocB (bl := m.size + 2) (by simp) Z119 flat93 ?_
  refine sStNAB (by simp) S119 rfl rfl (Array.size_replicate) (cellsM_size ps) (cellsM_one ps) ?_
  refine sNil (kSeqN ?_)
  refine cSeq ?_
  refine cSeq ?_
  refine cRegion ?_
  refine sMv (v := .slice _ _ _) rfl ?_
  refine sLen T29 rfl ?_
  refine sMv (v := nv 0) rfl ?_
  refine sNil (kSeqN ?_)
  refine cBlock ?_
  refine wpC_loop (fun k' ρ m' => ∃ i acc, k' = ps.length - i ∧ i ≤ ps.length ∧ (∀ y, y ∈ acc ↔ (y ∈ ps ∨ ∃ x ∈ ps.take i, y ∈ tosM (needsM N) k x N.length)) ∧ Low (m.size + 2) ((m.push (.cells true vs)).push (.cells true (cellsM ps))) m' ∧ Mem.get m' (m.size + 2) = .cells true (cellsM acc) ∧ Has ρ [(2, nv k), (5, .pointer (some ⟨m.size, 0, none⟩)), (9, .pointer (some ⟨m.size + 1, 0, none⟩)), (11, .pointer (some ⟨m.size + 2, 0, none⟩)), (16, .slice q ps.length cap), (17, nv ps.length), (18, nv i)]) ⟨0, ps, rfl, Nat.zero_le _, by simp, .push _ (by simp) _, gP (by simp), rfl, rfl, rfl, rfl, rfl, rfl, rfl, trivial⟩ ?_
  rintro k' ρ m' ⟨i, acc, rfl, hi, hacc, hLo, hc, hh⟩
  rw [hh.env]; clear hh
  have ha : Mem.get m' m.size = .cells true vs := hLo.cells (by omega) (by rw [gPn (by simp), gP rfl])
  have hb : Mem.get m' (m.size + 1) = .cells true (cellsM ps) := hLo.cells (by omega) (gP (by simp))
  have hlc := live hc
  have hE : Ext m m' := Low.to_ext he hLo (by omega)
  refine cSeq ?_
  refine cRegion ?_
  refine sBin rfl rfl (aInt_lss) ?_
  refine sNil (kSeqN ?_)
  refine cSeq ?_   -- seq 5
  refine cCond rfl (fun c0 => ?_) (fun c0 => ?_)
  ·
    obtain ⟨b1, o1, p1, r1, cc, e1, gg, x1⟩ := (hs.ext hE).atN (by omega)
    cases e1
    have hxl := hps ps[i] (List.getElem_mem c0)
    generalize hx : ps[i] = x at *
    refine cSkip (kSeqN ?_)
    refine cSeq ?_
    refine cBlock ?_
    refine cSeq ?_
    refine cRegion ?_
    refine sIx T29 S3 rfl rfl (by omega) ?_
    refine sLd (v := nv x) A3 rfl gg (x1 i x (by rw [← hx]; simp)) ?_
    refine sAs (v := nv _) rfl ?_
    refine sNil (kSeqN ?_)
    refine cSeq ?_
    refine cRegion ?_
    refine sLdAll A57 S57 rfl (by simp (disch := first | omega | (simp only [Array.size_push, Array.size_setIfInBounds]; done) | (simp only [Array.size_push, Array.size_setIfInBounds]; omega)) only [gP, gPn, gS, gSn, ha, hb, hc]; try rfl) hvs ?_
    refine sMv (v := nv _) rfl ?_
    refine sMv (v := nv _) rfl ?_
    obtain ⟨v36, m36, h36, rfl, k36⟩ := spec_ways (m := m') (vs := vs) (x := x) (k := k)
    refine sCall3 rfl call57 rfl rfl rfl h36 ?_
    have hz36 : m36.size = m'.size + 3 := by rw [← k36]; simp
    have e36 : Ext m' m36 := by rw [← k36]; exact ((Ext.push _ _).trans (.push _ _)).trans (.push _ _)
    have w1 : Mem.get m36 m'.size = .cells true vs := by rw [← k36, gPn (by simp; omega), gPn (by simp), gP rfl]
    have w2 : Mem.get m36 (m'.size + 1) = .cells true #[nv x] := by rw [← k36, gPn (by simp), gP (by simp)]
    have w3 : Mem.get m36 (m'.size + 2) = .cells true #[nv k] := by rw [← k36, gP (by simp)]
    clear k36
    refine sNil (kSeqN ?_)
    refine cBlock ?_
    refine cRangeJ (by kernel_rfl) mixed (by kernel_rfl) rfl call87 ?_
    intro R B hround
    rw [hz36]
    rw [hz36] at hround
    have hJ : ∀ n m1 m2, n < N.length → wayB (needsM N) k x n = true → (∃ ac, (∀ y, y ∈ ac ↔ (y ∈ acc ∨ y ∈ tosM (needsM N) k x n)) ∧ MkJ ((m.push (.cells true vs)).push (.cells true (cellsM ps))) (m.size + 2) ac vs m'.size (m'.size + 3) x k R m1) → Ext m1 m2 → ∃ m3, ARound Tryz.prog (m'.size + 3) #[.agg #[nv n, nv (x ^^^ 2 ^ n)]] m2 (.bool true) m3 ∧ ((∀ c, m1.size ≤ c → c < m2.size → Mem.get m3 c = Mem.get m2 c) ∧ Mem.get m3 (m'.size + 2) = Mem.get m2 (m'.size + 2) ∧
        ∃ ac, (∀ y, y ∈ ac ↔ (y ∈ acc ∨ y ∈ tosM (needsM N) k x (n + 1))) ∧ MkJ ((m.push (.cells true vs)).push (.cells true (cellsM ps))) (m.size + 2) ac vs m'.size (m'.size + 3) x k R m3) := by
      rintro n m1 m2 hn hw ⟨ac, hac, hj1⟩ he12
      have hj2 := hj1.ext he12
      refine hround m2 _ _ hj2.lp ?_
      have hlp1 : m'.size + 3 < m1.size := Mem.lt_of_live (by rw [hj1.lp]; rfl)
      have hlp2 : m'.size + 3 < m2.size := Mem.lt_of_live (by rw [hj2.lp]; rfl)
      have h2n : 2 ^ n < 2 ^ 10 := Nat.pow_lt_pow_right (by omega) (by omega)
      have hto : x ^^^ 2 ^ n < 1024 := Nat.xor_lt_two_pow (n := 10) (by omega) h2n
      have b1 := hj2.gc
      have b4 : Mem.get ((m2.push (.cells true #[nv n, nv (x ^^^ 2 ^ n)])).setIfInBounds (m'.size + 3) (.loop B)) m2.size = .cells true #[nv n, nv (x ^^^ 2 ^ n)] := by rw [gSn (by omega), gP rfl]
      refine cRegion ?_
      refine sAlloc Z99 (by kernel_rfl) ?_
      refine sStNA S99 rfl rfl rfl rfl (by kernel_rfl) ?_
      refine sNil ?_
      refine ⟨rfl, by rw [gPn (by omega)]; exact hj2.lp, ?_⟩
      refine cBlock ?_
      refine cRegion ?_
      refine sFA F99_1 rfl ?_
      refine sLd (v := nv (x ^^^ 2 ^ n)) A3 rfl b4 rfl ?_
      refine sIxA (i := x ^^^ 2 ^ n) T119 S4 rfl rfl hto ?_
      refine sSt (v := .bool true) S4 rfl rfl (by rw [gSn (by omega), gPn (by omega)]; exact b1) (by simp; omega) rfl rfl ?_
      rw [cellsM_set, show 0 + (x ^^^ 2 ^ n) * 1 = x ^^^ 2 ^ n by omega]
      refine sNil (kBlkN ?_)
      refine ⟨rfl, ?_, fun c hc1 hc2 => ?_, ?_, (x ^^^ 2 ^ n) :: ac, fun y => ?_, ⟨?_, ?_, ?_, ?_, ?_, gS rfl (by simp only [Array.size_setIfInBounds, Array.size_push]; omega)⟩⟩
      · rw [gSn (by omega)]; refine gS rfl ?_; simp; omega
      · rw [gSn (by omega), gSn (by omega), gSn (by omega), gPn hc2]
      · rw [gSn (by omega), gSn (by omega), gSn (by omega), gPn (by omega)]
      · rw [List.mem_cons, hac y, tosM_succ, if_pos hw, List.mem_append, List.mem_singleton]
        constructor
        · rintro (h | h | h)
          · exact .inr (.inr h)
          · exact .inl h
          · exact .inr (.inl h)
        · rintro (h | h | h)
          · exact .inr (.inl h)
          · exact .inr (.inr h)
          · exact .inl h
      · exact hj2.low.trans ((Low.push _ (by omega) _).trans ((Low.set (by omega) _).trans ((Low.set (Nat.le_refl _) _).trans (.set (by omega) _))))
      · rw [gSn (by omega)]; refine gS rfl ?_; simp; omega
      · rw [gSn (by omega), gSn (by omega), gSn (by omega), gPn (by omega)]; exact hj2.w1
      · rw [gSn (by omega), gSn (by omega), gSn (by omega), gPn (by omega)]; exact hj2.w2
      · rw [gSn (by omega), gSn (by omega), gSn (by omega), gPn (by omega)]; exact hj2.w3
    obtain ⟨v2, m2, h2, hor⟩ := spec_ways1 (m := m36.push (.loop R)) (lp := m'.size + 3) (p1 := m'.size) (p2 := m'.size + 1) (p3 := m'.size + 2) (N := N) (x := x) (k := k)
      (J := fun n m2 => ∃ ac, (∀ y, y ∈ ac ↔ (y ∈ acc ∨ y ∈ tosM (needsM N) k x n)) ∧ MkJ ((m.push (.cells true vs)).push (.cells true (cellsM ps))) (m.size + 2) ac vs m'.size (m'.size + 3) x k R m2) (D := fun _ => False) hN (by omega)
      (fun n m2 ⟨ac, _, h⟩ => ⟨true, true, true, vs, h.w1, hB.ext (Low.to_ext he h.low (by omega)), h.w2, h.w3⟩)
      (fun n m2 m3 ⟨ac, h0, h⟩ hee => ⟨ac, h0, h.ext hee⟩)
      (fun n m2 hn hw ⟨ac, h0, h⟩ => ⟨ac, by rw [tosM_succ, if_neg (by rw [hw]; decide), List.append_nil]; exact h0, h⟩)
      (fun n m1 m2 hn hw h1 hee => by
        obtain ⟨m3, r1, r2, r3, r4⟩ := hJ n m1 m2 hn hw h1 hee
        exact ⟨true, m3, r1, r2, r3, fun _ => r4, fun e => by cases e⟩)
      ⟨acc, by simp [tosM], (hLo.trans_ext e36 (by omega)).trans_ext (.push _ _) (by omega), by rw [gPn (by omega)]; exact e36.cells hc, by rw [gPn (by omega)]; exact w1, by rw [gPn (by omega)]; exact w2, by rw [gPn (by omega)]; exact w3, gP (by omega)⟩
    obtain ⟨ac, hac, hj⟩ := hor.resolve_right id
    refine ⟨v2, m2, h2, hj.lp, (kBlkN (kBlkN (kSeqN ?_)))⟩
    refine cRegion ?_
    refine sBin rfl rfl (aInt_add (b := 1) (by omega)) ?_
    refine sMv (v := nv _) rfl ?_
    refine sNil (kSeqN ?_)
    refine ⟨_, ?_, i + 1, ac, rfl, by omega, fun y => ?_, hj.low.trans (.set (by omega) _), by rw [gSn (by omega)]; exact hj.gc, rfl, rfl, rfl, rfl, rfl, rfl, rfl, trivial⟩
    · omega
    · rw [hac y, hacc y, List.take_succ_eq_append_getElem c0, hx]
      constructor
      · rintro ((h | ⟨z, h, h'⟩) | h)
        · exact .inl h
        · exact .inr ⟨z, List.mem_append_left _ h, h'⟩
        · exact .inr ⟨x, by simp, h⟩
      · rintro (h | ⟨z, h, h'⟩)
        · exact .inl (.inl h)
        · rcases List.mem_append.1 h with h | h
          · exact .inl (.inr ⟨z, h, h'⟩)
          · rw [List.mem_singleton.1 h] at h'; exact .inr h'
  ·
    refine cExit (kSeqE (kSeqE (kBlkS (kSeqN ?_))))
    refine cSeq ?_
    refine cRegion ?_
    refine sLdAll A119 S119 rfl (by simp (disch := first | omega | (simp only [Array.size_push, Array.size_setIfInBounds]; done) | (simp only [Array.size_push, Array.size_setIfInBounds]; omega)) only [gP, gPn, gS, gSn, ha, hb, hc]; try rfl) (cellsM_size acc) ?_
    refine sLdAll A119 S119 rfl (by simp (disch := first | omega | (simp only [Array.size_push, Array.size_setIfInBounds]; done) | (simp only [Array.size_push, Array.size_setIfInBounds]; omega)) only [gP, gPn, gS, gSn, ha, hb, hc]; try rfl) (cellsM_size ps) ?_
    refine sP (v := .bool (decide (marksM acc = marksM ps))) eq119 ?_
    refine sAs (v := .bool _) rfl ?_
    refine sNil (kSeqN ?_)
    refine cRet ?_
    obtain rfl : i = ps.length := by omega
    rw [List.take_length] at hacc
    refine ⟨.inr rfl, _, rfl, ?_, hE⟩
    rw [← marks_closed (P := needsM N) (k := k) (by rw [hpl]; exact h10) (by rw [hpl]; exact hps) (by rw [hpl]; exact hacc)]
    rfl

end Go.AM

/-! ### P17 -/
namespace Go.AM
open Go.Proofs
set_option maxRecDepth 100000
set_option linter.unusedVariables false
set_option linter.unusedSimpArgs false
def askF : Nat → Nat
  | 0 => 128
  | 1 => 131
  | _ => 132
def askR (P : List Nat) (g k : Nat) (ps : List Nat) : Nat → Bool
  | 0 => risingB ps && apartB ps
  | 1 => decide (0 ∈ ps) && !decide (g ∈ ps)
  | _ => closedB P k ps
def GlobP (m : Mem) : Prop := ∃ r, Mem.get m 1 = .cells r #[.func (.func 128) #[] #[], .func (.func 131) #[] #[], .func (.func 132) #[] #[]]
theorem GlobP.ext {m m' : Mem} (h : GlobP m) (he : Ext m m') : GlobP m' := by
  obtain ⟨r, h⟩ := h; exact ⟨r, he.cells h⟩
theorem idx96_0 : aIndex Tryz.prog 122 (.agg #[.func (.func 128) #[] #[], .func (.func 131) #[] #[], .func (.func 132) #[] #[]]) (nv 0) = some (.agg #[.func (.func 128) #[] #[]]) := by kernel_rfl
theorem idx96_1 : aIndex Tryz.prog 122 (.agg #[.func (.func 128) #[] #[], .func (.func 131) #[] #[], .func (.func 132) #[] #[]]) (nv 1) = some (.agg #[.func (.func 131) #[] #[]]) := by kernel_rfl
theorem idx96_2 : aIndex Tryz.prog 122 (.agg #[.func (.func 128) #[] #[], .func (.func 131) #[] #[], .func (.func 132) #[] #[]]) (nv 2) = some (.agg #[.func (.func 132) #[] #[]]) := by kernel_rfl
theorem idx96 {j : Nat} (h : j < 3) : aIndex Tryz.prog 122 (.agg #[.func (.func 128) #[] #[], .func (.func 131) #[] #[], .func (.func 132) #[] #[]]) (nv j) = some (.agg #[.func (.func (askF j)) #[] #[]]) := by
  have : j = 0 ∨ j = 1 ∨ j = 2 := by omega
  rcases this with rfl | rfl | rfl
  · exact idx96_0
  · exact idx96_1
  · exact idx96_2
theorem callA {j : Nat} (h : j < 3) : callable Tryz.prog (askF j) = true := by
  have : j = 0 ∨ j = 1 ∨ j = 2 := by omega
  rcases this with rfl | rfl | rfl
  · exact call128
  · exact call131
  · exact call132
theorem spec_ask {m : Mem} {vs : Array Value} {g k j : Nat} {s : Value} {N : List (List Nat)} {ps : List Nat} (hj : j < 3) (hB : BoardAt m (.agg vs) N) (hN : Dag N) (hs : IntsAt m s (ofs ps)) (hl : ps.length < 1000000) (hps : ∀ x ∈ ps, x < 2 ^ N.length) (hg : g < 1024) (hk : k < 9223372036854775808) :
    ∃ v m', ACalls Tryz.prog (askF j) #[.agg vs, nv g, nv k, s, .agg (cellsM ps)] m v m' ∧ (v = .bool (askR (needsM N) g k ps j) ∧ Ext m m') := by
  have : j = 0 ∨ j = 1 ∨ j = 2 := by omega
  rcases this with rfl | rfl | rfl
  · exact spec_asks1 hs hl
  · exact spec_asks2 hg
  · exact spec_asks3 hB hN hs hl hps hk
theorem showsB_asks {P : List Nat} {g k : Nat} {ps : List Nat} : showsB P g k ps = (askR P g k ps 0 && askR P g k ps 1 && askR P g k ps 2) := by
  simp only [showsB, askR]
theorem A120 : isAggT Tryz.prog 120 = some false := by kernel_rfl
theorem Z95f : (Value.agg #[Value.nilFunc]).cells.all flat0 = true := by kernel_rfl

def H27 : Nat → List (Nat × Nat) := fun id => if id = 15 then [(1,5),(2,5),(7,0)] else []
theorem okf46 : okF Tryz.prog H27 46 63 = true := by kernel_rfl
theorem spec_Shows {m : Mem} {s a b : Value} {G : List (List Int)} {gs ps : List Int} {k : Int} (hGl : GlobP m) (hG : RowsAt m s G) (ha : IntsAt m a gs) (hl : gs.length < 1000000) (hb : IntsAt m b ps) (hlp : ps.length < 1000000) : ∃ v m', ACalls Tryz.prog 46 #[.agg #[s], a, .int .i64 k, b] m v m' ∧ (v = .tuple #[.bool (showsG G gs k ps), nv (showsE G gs k ps)] ∧ Ext m m') := by
  obtain ⟨q, cap, rfl⟩ := hG.len
  obtain ⟨qg, cg, rfl⟩ := ha.len
  obtain ⟨qp, cp, rfl⟩ := hb.len
  have hne : ∀ e, showsE G gs k ps = e → e ≠ 0 → showsG G gs k ps = false := fun e h1 h2 => by rw [showsG, h1, decide_eq_false h2]; rfl
  refine wpF (args := [_, _, _, _]) mixed okf46 (fn := Tryz.f46) rfl rfl rfl (by simp) ?_
  refine cSeq ?_
  refine cRegion ?_
  refine sBox (v := .agg _) rfl ?_
  refine sAs (v := .bool _) rfl ?_
  refine sAs (v := nv 0) rfl ?_
  refine sNil (kSeqN ?_)
  refine cSeq ?_
  refine cRegion ?_
  refine sLdAll A27 S27 rfl (by simp (disch := first | omega | (simp only [Array.size_push, Array.size_setIfInBounds]; done) | (simp only [Array.size_push, Array.size_setIfInBounds]; omega)) only [gP, gPn, gS, gSn]; try rfl) rfl ?_
  refine sMv (v := .slice _ _ _) rfl ?_
  obtain ⟨v11, m11, h11, vs, rfl, hv1, hv2, hv3, k11⟩ := spec_with (hG.ext (.push _ (.cells true #[.slice q G.length cap]))) (ha.ext (.push _ _)) (by omega)
  have e11 := (Ext.push m (.cells true #[.slice q G.length cap])).trans k11
  refine sCall2 rfl call22 rfl rfl h11 ?_
  refine sMv (v := .tuple _) rfl ?_
  refine sP (v := .agg _) rfl ?_   -- extract ['t17', '0']
  refine sP (v := nv _) rfl ?_   -- extract ['t17', '1']
  refine sAllocB (bl := m11.size) rfl Z57 (by kernel_rfl) ?_
  refine sStNAB rfl S57 rfl rfl rfl hv1 hv2 ?_
  refine sAs (v := nv _) rfl ?_
  refine sNil (kSeqN ?_)
  refine cSeq ?_
  refine cBlock ?_
  refine cSeq ?_
  refine cRegion ?_
  refine sMv (v := nv _) rfl ?_
  refine sBin (a := withE G gs) rfl rfl (aInt_neq (b := 0)) ?_
  refine sAs (v := .bool _) rfl ?_
  refine sNil (kSeqN ?_)
  refine cCond rfl (fun c0 => ?_) (fun c0 => ?_)
  ·
    refine cSeq ?_
    refine cRegion ?_
    refine sMv (v := nv _) rfl ?_
    refine sAs (v := .bool _) rfl ?_
    refine sAs (v := nv _) rfl ?_
    refine sNil (kSeqN ?_)
    refine cRet (kBlkR (kSeqR ?_))
    have hr : showsE G gs k ps = withE G gs := by rw [showsE, if_neg c0]
    exact ⟨.inr rfl, _, rfl, by rw [hne _ hr c0, hr]; rfl, e11.trans (.push _ _)⟩
  ·
    have h0 := Decidable.not_not.1 c0
    have hr0 : showsE G gs k ps = if (k < 0 ∨ 10 < k) ∨ ps.any (fun x => decide (x < 0 ∨ Int.ofNat (2 ^ G.length - 1) < x)) = true then 3 else 0 := by rw [showsE, if_pos h0]
    obtain ⟨N, g, rfl, hN, rfl, hg⟩ := withE_nat h0
    have hE := e11.trans (.push m11 (.cells true vs))
    have hBO := hv3 h0 N rfl
    have hB := hBO.at ((hG.ext e11))
    obtain ⟨q2, n2, c2, rfl, hO2⟩ := hBO
    have h10 := hN.ten
    have hp10 : 2 ^ N.length ≤ 2 ^ 10 := Nat.pow_le_pow_right (by omega) h10
    have hp1 := Nat.two_pow_pos N.length
    rw [ofs_length] at hl
    rw [ofs2_length] at hr0
    refine cSeq ?_
    refine cRegion ?_
    refine sMv (v := .int _ _) rfl ?_
    refine sBinI (v := .bool (decide (k < 0))) rfl rfl rfl ?_
    refine sMv (v := .bool _) rfl ?_
    by_cases h1 : k < 0
    ·
      rw [decide_eq_true h1]
      refine sGno (q' := true) rfl rfl (by simp) ?_
      refine sGno (q' := true) rfl rfl (by simp) ?_
      refine sP (v := .bool _) rfl ?_   -- t33 pick ['t30', '(bool true)', 't32']
      refine sMv (v := .bool _) rfl ?_
      refine sGno (q' := true) rfl rfl (by simp) ?_
      refine sGno (q' := true) rfl rfl (by simp) ?_
      refine sGno (q' := true) rfl rfl (by simp) ?_
      refine sP (v := .bool _) rfl ?_   -- t38 pick ['t34', '(bool true)', 't37']
      refine sAs (v := .bool _) rfl ?_
      refine sNil (kSeqN ?_)
      refine cCondT rfl ?_
      refine cSeq ?_
      refine cRegion ?_
      refine sAs (v := .bool _) rfl ?_
      refine sAs (v := nv 3) rfl ?_
      refine sNil (kSeqN ?_)
      refine cRet (kBlkR (kSeqR ?_))
      have hr : showsE (ofs2 N) (ofs g) k ps = 3 := by rw [hr0, if_pos (.inl (.inl h1))]
      exact ⟨.inr rfl, _, rfl, by rw [hne _ hr (by decide), hr]; rfl, hE⟩
    ·
      rw [decide_eq_false h1]
      refine sG rfl rfl ?_
      refine sMv (v := .int _ _) rfl ?_
      refine sG rfl rfl ?_
      refine sBinI (v := .bool (decide (k > 10))) rfl rfl rfl ?_
      refine sP (v := .bool _) rfl ?_   -- t33 pick ['t30', '(bool true)', 't32']
      refine sMv (v := .bool _) rfl ?_
      by_cases h2 : k > 10
      ·
        rw [decide_eq_true h2]
        refine sGno (q' := true) rfl rfl (by simp) ?_
        refine sGno (q' := true) rfl rfl (by simp) ?_
        refine sGno (q' := true) rfl rfl (by simp) ?_
        refine sP (v := .bool _) rfl ?_   -- t38 pick ['t34', '(bool true)', 't37']
        refine sAs (v := .bool _) rfl ?_
        refine sNil (kSeqN ?_)
        refine cCondT rfl ?_
        refine cSeq ?_
        refine cRegion ?_
        refine sAs (v := .bool _) rfl ?_
        refine sAs (v := nv 3) rfl ?_
        refine sNil (kSeqN ?_)
        refine cRet (kBlkR (kSeqR ?_))
        have hr : showsE (ofs2 N) (ofs g) k ps = 3 := by rw [hr0, if_pos (.inl (.inr h2))]
        exact ⟨.inr rfl, _, rfl, by rw [hne _ hr (by decide), hr]; rfl, hE⟩
      ·
        rw [decide_eq_false h2]
        refine sG rfl rfl ?_
        refine sMv (v := .slice _ _ _) rfl ?_
        refine sG rfl rfl ?_
        refine sMFc1 rfl ?_
        refine sG rfl rfl ?_
        refine sCall2 (v := .bool (ps.any fun x => decide (x < 0 ∨ Int.ofNat (2 ^ N.length - 1) < x))) rfl call53 rfl rfl (spec_ContainsFunc (hb.ext hE) (by omega) call70 fun x _ => spec_Shows1 (gP rfl)) ?_
        refine sP (v := .bool _) rfl ?_   -- t38 pick ['t34', '(bool true)', 't37']
        refine sAs (v := .bool _) rfl ?_
        refine sNil (kSeqN ?_)
        refine cCond (p := (ps.any fun x => decide (x < 0 ∨ Int.ofNat (2 ^ N.length - 1) < x)) = true) (by show Value.bool _ = Value.bool _; rw [Bool.decide_eq_true]) (fun c3 => ?_) (fun c3 => ?_)
        ·
          refine cSeq ?_
          refine cRegion ?_
          refine sAs (v := .bool _) rfl ?_
          refine sAs (v := nv 3) rfl ?_
          refine sNil (kSeqN ?_)
          refine cRet (kBlkR (kSeqR ?_))
          have hr : showsE (ofs2 N) (ofs g) k ps = 3 := by rw [hr0, if_pos (.inr c3)]
          exact ⟨.inr rfl, _, rfl, by rw [hne _ hr (by decide), hr]; rfl, hE⟩
        ·
          have hr : showsE (ofs2 N) (ofs g) k ps = 0 := by rw [hr0, if_neg (fun h => h.elim (fun h => by omega) c3)]
          obtain ⟨r, rfl, hrl⟩ := range_nat c3
          obtain ⟨K, rfl⟩ : ∃ K : Nat, k = Int.ofNat K := ⟨k.toNat, by simp; omega⟩
          have hK : K ≤ 10 := by simp at h2; omega
          have hsg : showsG (ofs2 N) (ofs g) (Int.ofNat K) (ofs r) = showsB (needsM N) (posM g) K r := by
            rw [showsG, hr, natsG_ofs2, nats_ofs, nats_ofs]; rfl
          rw [hsg, hr]
          clear hr hr0 hne hsg c3
          rw [ofs_length] at hlp
          have hrb : ∀ x ∈ r, x < 2 ^ N.length := fun x hx => by have := hrl x hx; omega
          refine cSkip (kBlkN (kSeqN ?_))
          refine cSeq ?_
          refine cRegion ?_
          refine sAllocB (bl := m11.size + 1) (by simp) Z119 flat93 ?_
          rw [show (Value.agg (Array.replicate 1024 (.bool false))).cells = cellsM [] from cellsM_nil.symm]
          refine sNil (kSeqN ?_)
          refine cSeq ?_
          refine cSeq ?_
          refine cRegion ?_
          refine sMv (v := .slice _ _ _) rfl ?_
          refine sLen T29 rfl ?_
          refine sMv (v := nv 0) rfl ?_
          refine sNil (kSeqN ?_)
          refine cBlock ?_
          refine wpC_loop (fun k' ρ m' => ∃ i acc, k' = r.length - i ∧ i ≤ r.length ∧ (∀ y, y ∈ acc ↔ y ∈ r.take i) ∧ Low (m11.size + 1) (m11.push (.cells true #[.slice q (ofs2 N).length cap, .slice q2 n2 c2, nv (2 ^ N.length - 1)])) m' ∧ Mem.get m' (m11.size + 1) = .cells true (cellsM acc) ∧ Has ρ [(1, .slice qg (ofs g).length cg), (2, nv K), (3, .slice qp (ofs r).length cp), (10, .pointer (some ⟨m11.size, 0, none⟩)), (12, .pointer (some ⟨m11.size + 1, 0, none⟩)), (39, .slice qp (ofs r).length cp), (40, nv r.length), (41, nv i)]) ⟨0, [], rfl, Nat.zero_le _, by simp, .push _ (by simp) _, gP (by simp), rfl, rfl, rfl, rfl, rfl, rfl, by rw [← ofs_length r]; rfl, rfl, trivial⟩ ?_
          rintro k' ρ m' ⟨i, acc, rfl, hi, hacc, hLo, hc, hh⟩
          rw [hh.env]; clear hh
          have hlc := live hc
          have hEE : Ext m m' := Low.to_ext hE hLo (by have := e11.1; omega)
          refine cSeq ?_
          refine cRegion ?_
          refine sBin rfl rfl (aInt_lss) ?_
          refine sNil (kSeqN ?_)
          refine cSeq ?_   -- seq 13
          refine cCond rfl (fun c4 => ?_) (fun c4 => ?_)
          ·
            obtain ⟨b1, o1, p1, r1, cc, e1, gg, x1⟩ := (hb.ext hEE).at (by rw [ofs_length]; omega)
            cases e1
            have hx := hrb r[i] (List.getElem_mem c4)
            refine cSkip (kSeqN ?_)
            refine cSeq ?_
            refine cBlock ?_
            refine cSeq ?_
            refine cRegion ?_
            refine sIx T29 S3 rfl rfl (by rw [ofs_length]; exact c4) ?_
            refine sLd (v := nv r[i]) A3 rfl gg (x1 i (Int.ofNat r[i]) (ofs_get (by simp))) ?_
            refine sAs (v := nv _) rfl ?_
            refine sNil (kSeqN ?_)
            refine cRegion ?_
            refine sMv (v := nv _) rfl ?_
            refine sIxA (i := r[i]) T119 S4 rfl rfl (by omega) ?_
            refine sSt (v := .bool true) S4 rfl rfl hc (by simp; omega) rfl rfl ?_
            rw [cellsM_set, show 0 + r[i] * 1 = r[i] by omega]
            refine sNil (kBlkN (kSeqN ?_))
            refine cRegion ?_
            refine sBin rfl rfl (aInt_add (b := 1) (by omega)) ?_
            refine sMv (v := nv _) rfl ?_
            refine sNil (kSeqN ?_)
            refine ⟨_, ?_, i + 1, r[i] :: acc, rfl, by omega, fun y => ?_, hLo.trans (.set (Nat.le_refl _) _), gS rfl hlc, rfl, rfl, rfl, rfl, rfl, rfl, rfl, rfl, trivial⟩
            · omega
            · rw [List.mem_cons, hacc y, List.take_succ_eq_append_getElem c4, List.mem_append, List.mem_singleton]
              exact ⟨fun h => h.symm, fun h => h.symm⟩
          ·
            obtain rfl : i = r.length := by omega
            rw [List.take_length] at hacc
            rw [cellsM_congr hacc] at hc
            clear hacc acc
            refine cExit (kSeqE (kSeqE (kBlkS (kSeqN ?_))))
            refine cSeq ?_
            refine cSeq ?_
            refine cRegion ?_
            obtain ⟨rg, hgl⟩ := hGl.ext hEE
            refine sLdAll A122 S122 rfl hgl rfl ?_
            refine sMv (v := nv 0) rfl ?_
            refine sNil (kSeqN ?_)
            refine cBlock ?_
            refine wpC_loop (fun k' ρ m2 => ∃ j, k' = 3 - j ∧ j ≤ 3 ∧ (∀ i, i < j → askR (needsM N) (posM g) K r i = true) ∧ Ext m' m2 ∧ Has ρ [(1, .slice qg (ofs g).length cg), (2, nv K), (3, .slice qp (ofs r).length cp), (10, .pointer (some ⟨m11.size, 0, none⟩)), (12, .pointer (some ⟨m11.size + 1, 0, none⟩)), (48, .agg #[.func (.func 128) #[] #[], .func (.func 131) #[] #[], .func (.func 132) #[] #[]]), (49, nv j)]) ⟨0, rfl, Nat.zero_le _, by omega, .refl _, rfl, rfl, rfl, rfl, rfl, rfl, rfl, trivial⟩ ?_
            rintro k' ρ m2 ⟨j, rfl, hj, hall, he2, hh⟩
            rw [hh.env]; clear hh
            have hc2 := he2.cells hc
            have hb2 : Mem.get m2 m11.size = .cells true #[.slice q (ofs2 N).length cap, .slice q2 n2 c2, nv (2 ^ N.length - 1)] := he2.cells (hLo.cells (by omega) (gP rfl))
            have hE2 := hEE.trans he2
            refine cSeq ?_
            refine cRegion ?_
            refine sBin (b := 3) rfl rfl aInt_lss ?_
            refine sNil (kSeqN ?_)
            refine cSeq ?_   -- seq 19
            refine cCond rfl (fun c5 => ?_) (fun c5 => ?_)
            ·
              refine cSkip (kSeqN ?_)
              refine cSeq ?_
              refine cBlock ?_
              refine cSeq ?_
              refine cRegion ?_
              refine sP (v := .agg #[.func (.func (askF j)) #[] #[]]) (idx96 c5) ?_
              refine sAlloc Z121 Z95f ?_
              refine sStNA S121 rfl rfl rfl rfl (by simp [Value.oneCell']) ?_
              refine sNil (kSeqN ?_)
              refine cSeq ?_
              refine cDrawH (hs := [(1,5),(2,5),(7,0)]) rfl (by decide) ?_
              refine lStepO (sFA F121_0 rfl (sNil fun e0 hm0 => ?_))
              refine lStepLd (v := .func _ _ _) A120 rfl (gP rfl) rfl fun e1 hm1 hv1 hr1 => ?_
              refine lStepLdA A57 S57 rfl ((gPn (live hb2)).trans hb2) rfl fun e2 hm2 hv2 hr2 => ?_
              refine lStepO (sMv (v := .slice _ _ _) rfl (sNil fun e3 hm3 => ?_))
              refine lStepO (sCall1 rfl call26 rfl (spec_position ((ha.ext hE2).ext (.push _ _)) hl fun x hx => by have := hg.lt x hx; omega) (sNil fun e4 hm4 => ?_))
              refine lStepO (sMv (v := nv _) rfl (sNil fun e5 hm5 => ?_))
              refine lStepO (sMv (v := .slice _ _ _) rfl (sNil fun e6 hm6 => ?_))
              refine lStepLdA A119 S119 rfl ((gPn (live hc2)).trans hc2) (cellsM_size r) fun e7 hm7 hv7 hr7 => ?_
              obtain ⟨v60, m60, h60, rfl, e60⟩ := spec_ask (m := m2.push (.cells true #[.func (.func (askF j)) #[] #[]])) (g := posM g) (k := K) c5 ((hB.ext (.push _ _)).ext (((hLo.to_ext (.refl _) (by simp)).trans he2).trans (.push _ _))) hN ((hb.ext hE2).ext (.push _ _)) hlp hrb (Nat.lt_of_lt_of_le (posM_lt hg.lt) hp10) (by omega)
              refine lStepO (sCall (v := .bool _) rfl (callA c5) (by simpa [evR, updO] using h60) (sNil fun e8 hm8 => ?_))
              refine lStepO (sP (v := .bool (!askR (needsM N) (posM g) K r j)) rfl (sNil fun e9 hm9 => ?_))
              refine ⟨?_, (kSeqN ?_)⟩
              ·
                refine obl_atE (e := e1) (e' := e5) (by simp) (by rfl) (by simp) ((hr1 e5.m _ _ (by rw [hm5]; exact gP rfl) (by rfl)).trans (congrArg some hv1.symm)) ?_
                refine obl_atE (e := e2) (e' := e5) (by simp) (by rfl) (by simp) ((hr2 e5.m _ (by rw [hm5]; exact (gPn (live hb2)).trans hb2)).trans (congrArg some hv2.symm)) ?_
                refine obl_atE (e := e7) (e' := e0) (by simp) (by rfl) (by simp) ((hr7 e0.m _ (by rw [hm0]; exact (gPn (live hc2)).trans hc2)).trans (congrArg some hv7.symm)) ?_
                trivial
              refine cCond (p := askR (needsM N) (posM g) K r j = false) (by show Value.bool _ = Value.bool _; cases askR (needsM N) (posM g) K r j <;> rfl) (fun c6 => ?_) (fun c6 => ?_)
              ·
                refine cSeq ?_
                refine cRegion ?_
                refine sAs (v := .bool _) rfl ?_
                refine sAs (v := nv 0) rfl ?_
                refine sNil (kSeqN ?_)
                refine cRet (kBlkR (kSeqR (kSeqR (kBlkR (kSeqR ?_)))))
                have hf : showsB (needsM N) (posM g) K r = false := by
                  rw [showsB_asks]
                  have : j = 0 ∨ j = 1 ∨ j = 2 := by omega
                  rcases this with rfl | rfl | rfl
                  · rw [c6]; rfl
                  · rw [c6]; simp
                  · rw [c6]; simp
                exact ⟨.inr rfl, _, rfl, by rw [hf]; rfl, hE2.trans ((Ext.push _ _).trans e60)⟩
              ·
                refine cSkip (kBlkN (kSeqN ?_))
                refine cRegion ?_
                refine sBin rfl rfl (aInt_add (b := 1) (by omega)) ?_
                refine sMv (v := nv _) rfl ?_
                refine sNil (kSeqN ?_)
                refine ⟨_, ?_, j + 1, rfl, by omega, fun i hi => ?_, he2.trans ((Ext.push _ _).trans e60), rfl, rfl, rfl, rfl, rfl, rfl, rfl, trivial⟩
                · omega
                · by_cases h : i = j
                  · subst h; simpa using c6
                  · exact hall i (by omega)
            ·
              refine cExit (kSeqE (kSeqE (kBlkS (kSeqN ?_))))
              refine cSeq ?_
              refine cRegion ?_
              refine sAs (v := .bool _) rfl ?_
              refine sAs (v := nv 0) rfl ?_
              refine sNil (kSeqN ?_)
              refine cRet ?_
              have ht : showsB (needsM N) (posM g) K r = true := by
                rw [showsB_asks, hall 0 (by omega), hall 1 (by omega), hall 2 (by omega)]; rfl
              exact ⟨.inr rfl, _, rfl, by rw [ht]; rfl, hE2⟩

end Go.AM

/-! ### P18 -/
namespace Go.AM
open Go.Proofs
set_option maxRecDepth 100000
set_option linter.unusedVariables false
set_option linter.unusedSimpArgs false

theorem okf92 : okF Tryz.prog H0 92 8 = true := by kernel_rfl
theorem spec_SameRow {m : Mem} {a b : Value} {l r : List Int} (ha : IntsAt m a l) (hb : IntsAt m b r) (hl : l.length < 4611686018427387904) : ACalls Tryz.prog 92 #[a, b] m (.bool (decide (l = r))) m := by
  suffices h : ∃ v m', ACalls Tryz.prog 92 #[a, b] m v m' ∧ (v = .bool (decide (l = r)) ∧ m' = m) by
    obtain ⟨v, m', h, rfl, rfl⟩ := h; exact h
  have h22 := spec_Equal ha hb hl
  obtain ⟨q, cap, rfl⟩ := ha.len
  obtain ⟨q2, cap2, rfl⟩ := hb.len
  refine wpF (args := [_, _]) mixed okf92 (fn := Tryz.f92) rfl rfl rfl (by simp) ?_
  refine cSeq ?_
  refine cRegion ?_
  refine sAs (v := .bool _) rfl ?_
  refine sNil (kSeqN ?_)
  refine cSeq ?_
  refine cRegion ?_
  refine sMv (v := .slice _ _ _) rfl ?_
  refine sMv (v := .slice _ _ _) rfl ?_
  refine sCall2 rfl call69 rfl rfl h22 ?_
  refine sAs (v := .bool _) rfl ?_
  refine sNil (kSeqN ?_)
  refine cRet ?_
  exact ⟨.inr rfl, _, rfl, rfl, rfl⟩

theorem okf91 : okF Tryz.prog H0 91 32 = true := by kernel_rfl
theorem spec_EqualRows {m : Mem} {a b : Value} {G H : List (List Int)} (ha : RowsAt m a G) (hb : RowsAt m b H) (hG : G.length < 4611686018427387904) (hl : ∀ g ∈ G, g.length < 4611686018427387904) : ACalls Tryz.prog 91 #[a, b, .func (.func 92) #[] #[]] m (.bool (decide (G = H))) m := by
  suffices h : ∃ v m', ACalls Tryz.prog 91 #[a, b, .func (.func 92) #[] #[]] m v m' ∧ (v = .bool (decide (G = H)) ∧ m' = m) by
    obtain ⟨v, m', h, rfl, rfl⟩ := h; exact h
  obtain ⟨q, cap, rfl⟩ := ha.len
  obtain ⟨q2, cap2, rfl⟩ := hb.len
  refine wpF (args := [_, _, _]) mixed okf91 (fn := Tryz.f91) rfl rfl rfl (by simp) ?_
  refine cSeq ?_
  refine cRegion ?_
  refine sAs (v := .bool _) rfl ?_
  refine sNil (kSeqN ?_)
  refine cSeq ?_   -- seq 1
  refine cSeq ?_
  refine cRegion ?_
  refine sMv (v := .slice _ _ _) rfl ?_
  refine sLen T25 rfl ?_
  refine sMv (v := .slice _ _ _) rfl ?_
  refine sLen T25 rfl ?_
  refine sBin (a := G.length) (b := H.length) rfl rfl aInt_neq ?_
  refine sNil (kSeqN ?_)
  refine cCond rfl (fun c0 => ?_) (fun c0 => ?_)
  ·
    refine cSeq ?_
    refine cRegion ?_
    refine sAs (v := .bool _) rfl ?_
    refine sNil (kSeqN ?_)
    refine cRet (kSeqR ?_)
    have hGH : ¬ (G = H) := fun e => c0 (by rw [e])
    exact ⟨.inr rfl, _, rfl, by rw [decide_eq_false hGH]; rfl, rfl⟩
  ·
    have hlen : G.length = H.length := Decidable.not_not.1 c0
    refine cSkip (kSeqN ?_)
    refine cSeq ?_
    refine cSeq ?_
    refine cRegion ?_
    refine sMv (v := .slice _ _ _) rfl ?_
    refine sLen T25 rfl ?_
    refine sMv (v := nv 0) rfl ?_
    refine sNil (kSeqN ?_)
    refine cBlock ?_
    refine wpC_loop (fun k ρ m' => ∃ i, k = G.length - i ∧ i ≤ G.length ∧ m = m' ∧ (∀ j, j < i → G[j]? = H[j]?) ∧ Has ρ [(0, .slice q G.length cap), (1, .slice q2 H.length cap2), (2, .func (.func 92) #[] #[]), (15, .slice q G.length cap), (16, nv G.length), (17, nv i)]) ⟨0, rfl, by omega, rfl, by omega, rfl, rfl, rfl, rfl, rfl, rfl, trivial⟩ ?_
    rintro k ρ _ ⟨i, rfl, hi, rfl, hj, hh⟩
    rw [hh.env]; clear hh
    refine cSeq ?_
    refine cRegion ?_
    refine sBin rfl rfl (aInt_lss) ?_
    refine sNil (kSeqN ?_)
    refine cSeq ?_   -- seq 7
    refine cCond rfl (fun c1 => ?_) (fun c1 => ?_)
    ·
      obtain ⟨b1, o1, p1, r1, cc1, e1, g1, x1⟩ := ha.at (by omega)
      obtain ⟨b2, o2, p2, r2, cc2, e2, g2, x2⟩ := hb.at (by omega)
      cases e1
      cases e2
      have hiH : i < H.length := by omega
      obtain ⟨s1, hs1, hi1⟩ := x1 i G[i] (by simp)
      obtain ⟨s2, hs2, hi2⟩ := x2 i H[i] (by simp)
      have h29 := spec_SameRow hi1 hi2 (hl _ (List.getElem_mem c1))
      obtain ⟨qa, ca, rfl⟩ := hi1.len
      obtain ⟨qb, cb, rfl⟩ := hi2.len
      refine cSkip (kSeqN ?_)
      refine cSeq ?_
      refine cBlock ?_
      refine cSeq ?_
      refine cRegion ?_
      refine sMv (v := nv _) rfl ?_
      refine sIx T25 S29 rfl rfl (by omega) ?_
      refine sLd (v := .slice _ _ _) A29 rfl g1 hs1 ?_
      refine sAs (v := nv _) rfl ?_
      refine sAs (v := .slice _ _ _) rfl ?_
      refine sNil (kSeqN ?_)
      refine cSeq ?_
      refine cRegion ?_
      refine sMv (v := .slice _ _ _) rfl ?_
      refine sMv (v := nv _) rfl ?_
      refine sIx T25 S29 rfl rfl (by omega) ?_
      refine sLd (v := .slice _ _ _) A29 rfl g2 hs2 ?_
      refine sAs (v := .slice _ _ _) rfl ?_
      refine sNil (kSeqN ?_)
      refine cSeq ?_
      refine cRegion ?_
      refine sMv (v := .func _ _ _) rfl ?_
      refine sMv (v := .slice _ _ _) rfl ?_
      refine sMv (v := .slice _ _ _) rfl ?_
      refine sCall2 rfl call92 rfl rfl h29 ?_
      refine sP (v := .bool (!decide (G[i] = H[i]))) rfl ?_
      refine sNil (kSeqN ?_)
      refine cCond (p := G[i] ≠ H[i]) (by show Value.bool _ = Value.bool _; rw [← decide_not]) (fun c2 => ?_) (fun c2 => ?_)
      ·
        refine cSeq ?_
        refine cRegion ?_
        refine sAs (v := .bool _) rfl ?_
        refine sNil (kSeqN ?_)
        refine cRet (kBlkR (kSeqR (kSeqR (kBlkR (kSeqR ?_)))))
        refine ⟨.inr rfl, _, rfl, ?_, rfl⟩
        have : G ≠ H := fun e => c2 (by subst e; rfl)
        rw [decide_eq_false this]; rfl
      ·
        refine cSkip (kBlkN (kSeqN ?_))
        refine cRegion ?_
        refine sBin rfl rfl (aInt_add (b := 1) (by omega)) ?_
        refine sMv (v := nv _) rfl ?_
        refine sNil (kSeqN ?_)
        refine ⟨_, ?_, i + 1, rfl, by omega, rfl, fun j hji => ?_, rfl, rfl, rfl, rfl, rfl, rfl, trivial⟩
        · omega
        · by_cases h : j < i
          · exact hj j h
          · obtain rfl : j = i := by omega
            rw [List.getElem?_eq_getElem c1, List.getElem?_eq_getElem hiH, Decidable.not_not.1 c2]
    ·
      refine cExit (kSeqE (kSeqE (kBlkS (kSeqN ?_))))
      refine cSeq ?_
      refine cRegion ?_
      refine sAs (v := .bool _) rfl ?_
      refine sNil (kSeqN ?_)
      refine cRet ?_
      obtain rfl : i = G.length := by omega
      have he : G = H := by
        apply List.ext_getElem? fun j => ?_
        by_cases h : j < G.length
        · exact hj j h
        · rw [List.getElem?_eq_none (by omega), List.getElem?_eq_none (by omega)]
      exact ⟨.inr rfl, _, rfl, by rw [decide_eq_true he]; rfl, rfl⟩

theorem okf65 : okF Tryz.prog H0 65 8 = true := by kernel_rfl
theorem spec_SameRows {m : Mem} {a b : Value} {G H : List (List Int)} (ha : RowsAt m a G) (hb : RowsAt m b H) (hG : G.length < 4611686018427387904) (hl : ∀ g ∈ G, g.length < 4611686018427387904) : ACalls Tryz.prog 65 #[a, b] m (.bool (decide (G = H))) m := by
  suffices h : ∃ v m', ACalls Tryz.prog 65 #[a, b] m v m' ∧ (v = .bool (decide (G = H)) ∧ m' = m) by
    obtain ⟨v, m', h, rfl, rfl⟩ := h; exact h
  have h92 := spec_EqualRows ha hb hG hl
  obtain ⟨q, cap, rfl⟩ := ha.len
  obtain ⟨q2, cap2, rfl⟩ := hb.len
  refine wpF (args := [_, _]) mixed okf65 (fn := Tryz.f65) rfl rfl rfl (by simp) ?_
  refine cSeq ?_
  refine cRegion ?_
  refine sAs (v := .bool _) rfl ?_
  refine sNil (kSeqN ?_)
  refine cSeq ?_
  refine cRegion ?_
  refine sMv (v := .slice _ _ _) rfl ?_
  refine sMv (v := .slice _ _ _) rfl ?_
  refine sCall3 rfl call91 rfl rfl rfl h92 ?_
  refine sAs (v := .bool _) rfl ?_
  refine sNil (kSeqN ?_)
  refine cRet ?_
  exact ⟨.inr rfl, _, rfl, rfl, rfl⟩

theorem okf39 : okF Tryz.prog H0 39 10 = true := by kernel_rfl
theorem spec_same {m : Mem} {a b : Value} {G H : List (List Int)} (ha : RowsAt m a G) (hb : RowsAt m b H) (hG : G.length < 4611686018427387904) (hl : ∀ g ∈ G, g.length < 4611686018427387904) : ∃ v m', ACalls Tryz.prog 39 #[.agg #[a], .agg #[b]] m v m' ∧ (v = .bool (decide (G = H)) ∧ Ext m m') := by
  have h65 := spec_SameRows (m := (m.push (.cells true #[a])).push (.cells true #[b])) ((ha.ext (.push _ _)).ext (.push _ _)) ((hb.ext (.push _ _)).ext (.push _ _)) hG hl
  obtain ⟨q, cap, rfl⟩ := ha.len
  obtain ⟨q2, cap2, rfl⟩ := hb.len
  refine wpF (args := [_, _]) mixed okf39 (fn := Tryz.f39) rfl rfl rfl (by simp) ?_
  refine cSeq ?_
  refine cRegion ?_
  refine sBox (v := .agg _) rfl ?_
  refine sBox (v := .agg _) rfl ?_
  refine sAs (v := .bool _) rfl ?_
  refine sNil (kSeqN ?_)
  refine cSeq ?_
  refine cRegion ?_
  refine sFA F27_0 rfl ?_
  refine sLd A25 rfl (by simp (disch := first | omega | (simp only [Array.size_push, Array.size_setIfInBounds]; done) | (simp only [Array.size_push, Array.size_setIfInBounds]; omega)) only [gP, gPn, gS, gSn]; try rfl) rfl ?_
  refine sFA F27_0 rfl ?_
  refine sLd A25 rfl (by simp (disch := first | omega | (simp only [Array.size_push, Array.size_setIfInBounds]; done) | (simp only [Array.size_push, Array.size_setIfInBounds]; omega)) only [gP, gPn, gS, gSn]; try rfl) rfl ?_
  refine sCall2 rfl call65 rfl rfl h65 ?_
  refine sAs (v := .bool _) rfl ?_
  refine sNil (kSeqN ?_)
  refine cRet ?_
  exact ⟨.inr rfl, _, rfl, rfl, (Ext.push _ _).trans (.push _ _)⟩

theorem okf43 : okF Tryz.prog H0 43 14 = true := by kernel_rfl
theorem spec_known {m : Mem} {a b : Value} {l r : List Int} {e : Nat} (ha : IntsAt m a l) (hb : IntsAt m b r) (hl : l.length < 4611686018427387904) : ∃ v m', ACalls Tryz.prog 43 #[a, nv e, b] m v m' ∧ (v = .bool (decide (e = 0) && decide (l = r)) ∧ m' = m) := by
  have h22 := spec_Equal ha hb hl
  obtain ⟨q, cap, rfl⟩ := ha.len
  obtain ⟨q2, cap2, rfl⟩ := hb.len
  refine wpF (args := [_, _, _]) mixed okf43 (fn := Tryz.f43) rfl rfl rfl (by simp) ?_
  refine cSeq ?_
  refine cRegion ?_
  refine sAs (v := .bool _) rfl ?_
  refine sNil (kSeqN ?_)
  refine cSeq ?_
  refine cRegion ?_
  refine sMv (v := nv _) rfl ?_
  refine sBin (a := e) (b := 0) rfl rfl aInt_eql ?_
  refine sMv (v := .bool _) rfl ?_
  by_cases h0 : e = 0
  ·
    rw [decide_eq_true h0]
    refine sG rfl rfl ?_
    refine sMv (v := .slice _ _ _) rfl ?_
    refine sG rfl rfl ?_
    refine sMv (v := .slice _ _ _) rfl ?_
    refine sG rfl rfl ?_
    refine sCall2 rfl call69 rfl rfl h22 ?_
    refine sP (v := .bool _) rfl ?_
    refine sAs (v := .bool _) rfl ?_
    refine sNil (kSeqN ?_)
    refine cRet ?_
    exact ⟨.inr rfl, _, rfl, rfl, rfl⟩
  ·
    rw [decide_eq_false h0]
    refine sGno (q' := false) rfl rfl (by simp) ?_
    refine sGno (q' := false) rfl rfl (by simp) ?_
    refine sGno (q' := false) rfl rfl (by simp) ?_
    refine sP (v := .bool _) rfl ?_
    refine sAs (v := .bool _) rfl ?_
    refine sNil (kSeqN ?_)
    refine cRet ?_
    exact ⟨.inr rfl, _, rfl, rfl, rfl⟩

theorem neq40 {a b c d : Nat} : aBin Tryz.prog .neq 87 (.agg #[nv a, nv b]) (.agg #[nv c, nv d]) = some (.bool (decide ((a, b) ≠ (c, d)))) := by
  have hG : Tryz.prog.eqGuardType Tryz.prog.depth 40 = false := by kernel_rfl
  have h3 : ∀ b c : Int, aEq Tryz.prog 5 3 (.int .i64 b) (.int .i64 c) = some (b == c) := fun b c => by
    simp only [aEq, U3, aEq0, if_true]
  have e : aEq Tryz.prog (5 + 1) 87 (.agg #[nv a, nv b]) (.agg #[nv c, nv d]) = some (decide ((a, b) = (c, d))) := by
    rw [aEq.eq_def]
    simp only [T87, S3, aEqElems, aPart, A3, nv]
    simp only [List.getElem?_toArray, Nat.zero_mul, Nat.one_mul, Nat.zero_add, List.getElem?_cons_zero, List.getElem?_cons_succ, h3]
    have e1 : ∀ x y : Nat, (Int.ofNat x == Int.ofNat y) = decide (x = y) := fun x y => by
      rw [Bool.eq_iff_iff]; simp; exact Int.ofNat_inj
    rw [e1, e1]
    by_cases h : a = c <;> by_cases h' : b = d <;> simp [h, h']
  simp only [aBin, eqAble, hG]
  rw [show eqDepth = 5 + 1 from rfl, e]
  by_cases h : (a, b) = (c, d) <;> simp [h]
/-- A slice of pairs that may be read. -/
def TwosAt (m : Mem) (v : Value) (r : List (Nat × Nat)) : Prop := (r = [] ∧ v = .slice none 0 0) ∨ ∃ b cap rw_ c, v = .slice (some ⟨b, 0, some 2⟩) r.length cap ∧ Mem.get m b = .cells rw_ c ∧ ∀ (i : Nat) (p : Nat × Nat), r[i]? = some p → c[i * 2]? = some (nv p.1) ∧ c[i * 2 + 1]? = some (nv p.2)
theorem TwosAt.len {m : Mem} {v : Value} {r : List (Nat × Nat)} (h : TwosAt m v r) : ∃ q cap, v = .slice q r.length cap := by
  rcases h with ⟨rfl, rfl⟩ | ⟨b, cap, rw_, c, rfl, _⟩ <;> exact ⟨_, _, rfl⟩
theorem TwosAt.ext {m m' : Mem} {v : Value} {r : List (Nat × Nat)} (h : TwosAt m v r) (he : Ext m m') : TwosAt m' v r := by
  rcases h with h | ⟨b, cap, rw_, c, h1, h2, h3⟩
  · exact .inl h
  · exact .inr ⟨b, cap, rw_, c, h1, he.cells h2, h3⟩
theorem TwosAt.at {m : Mem} {v : Value} {r : List (Nat × Nat)} (h : TwosAt m v r) (h0 : 0 < r.length) : ∃ b cap rw_ c, v = .slice (some ⟨b, 0, some 2⟩) r.length cap ∧ Mem.get m b = .cells rw_ c ∧ ∀ (i : Nat) (p : Nat × Nat), r[i]? = some p → c[i * 2]? = some (nv p.1) ∧ c[i * 2 + 1]? = some (nv p.2) := by
  rcases h with ⟨rfl, _⟩ | h
  · cases h0
  · exact h
theorem OwnC.pairs {N : Nat} {m : Mem} {v : Value} {r : List (Nat × Nat)} (h : OwnC N m v 2 r.length (cellsP r)) : TwosAt m v r := by
  rcases h with ⟨rfl, h, _⟩ | ⟨b, cap, c, rfl, h2, h3, h4, h5, h6, h7⟩
  · exact .inl ⟨List.length_eq_zero_iff.1 h, rfl⟩
  · refine .inr ⟨b, cap, true, c, rfl, h3, fun i p hi => ?_⟩
    have hl := (List.getElem?_eq_some_iff.1 hi).1
    have := cellsP_get hi
    exact ⟨by rw [h7 _ (by omega)]; exact this.1, by rw [h7 _ (by omega)]; exact this.2⟩
theorem extract2 {c : Array Value} {o : Nat} {x y : Value} (hx : c[o]? = some x) (hy : c[o + 1]? = some y) : c.extract o (o + 2) = #[x, y] := by
  have h1 := (Array.getElem?_eq_some_iff.1 hy).1
  apply Array.ext_getElem?
  intro i
  rw [Array.getElem?_extract]
  match i with
  | 0 => rw [if_pos (by omega)]; simpa using hx
  | 1 => rw [if_pos (by omega)]; simpa using hy
  | i + 2 => rw [if_neg (by omega)]; simp
theorem extract4 {c : Array Value} {o : Nat} {x y z w : Value} (hx : c[o]? = some x) (hy : c[o + 1]? = some y) (hz : c[o + 2]? = some z) (hw : c[o + 3]? = some w) : c.extract o (o + 4) = #[x, y, z, w] := by
  have h1 := (Array.getElem?_eq_some_iff.1 hw).1
  apply Array.ext_getElem?
  intro i
  rw [Array.getElem?_extract]
  match i with
  | 0 => rw [if_pos (by omega)]; simpa using hx
  | 1 => rw [if_pos (by omega)]; simpa using hy
  | 2 => rw [if_pos (by omega)]; simpa using hz
  | 3 => rw [if_pos (by omega)]; simpa using hw
  | i + 4 => rw [if_neg (by omega)]; simp

theorem okf47 : okF Tryz.prog H0 47 26 = true := by kernel_rfl
theorem spec_EqualP {m : Mem} {a b : Value} {l r : List (Nat × Nat)} (ha : TwosAt m a l) (hb : TwosAt m b r) (hl : l.length < 4611686018427387904) : ACalls Tryz.prog 47 #[a, b] m (.bool (decide (l = r))) m := by
  suffices h : ∃ v m', ACalls Tryz.prog 47 #[a, b] m v m' ∧ (v = .bool (decide (l = r)) ∧ m' = m) by
    obtain ⟨v, m', h, rfl, rfl⟩ := h; exact h
  obtain ⟨q, cap, rfl⟩ := ha.len
  obtain ⟨q2, cap2, rfl⟩ := hb.len
  refine wpF (args := [_, _]) mixed okf47 (fn := Tryz.f47) rfl rfl rfl (by simp) ?_
  refine cSeq ?_
  refine cRegion ?_
  refine sAs (v := .bool _) rfl ?_
  refine sNil (kSeqN ?_)
  refine cSeq ?_   -- seq 1
  refine cSeq ?_
  refine cRegion ?_
  refine sMv (v := .slice _ _ _) rfl ?_
  refine sLen T80 rfl ?_
  refine sMv (v := .slice _ _ _) rfl ?_
  refine sLen T80 rfl ?_
  refine sBin (a := l.length) (b := r.length) rfl rfl aInt_neq ?_
  refine sNil (kSeqN ?_)
  refine cCond rfl (fun c0 => ?_) (fun c0 => ?_)
  ·
    refine cSeq ?_
    refine cRegion ?_
    refine sAs (v := .bool _) rfl ?_
    refine sNil (kSeqN ?_)
    refine cRet (kSeqR ?_)
    have hGH : ¬ (l = r) := fun e => c0 (by rw [e])
    exact ⟨.inr rfl, _, rfl, by rw [decide_eq_false hGH]; rfl, rfl⟩
  ·
    have hlen : l.length = r.length := Decidable.not_not.1 c0
    refine cSkip (kSeqN ?_)
    refine cSeq ?_
    refine cSeq ?_
    refine cRegion ?_
    refine sMv (v := .slice _ _ _) rfl ?_
    refine sLen T80 rfl ?_
    refine sMv (v := nv 0) rfl ?_
    refine sNil (kSeqN ?_)
    refine cBlock ?_
    refine wpC_loop (fun k ρ m' => ∃ i, k = l.length - i ∧ i ≤ l.length ∧ m = m' ∧ (∀ j, j < i → l[j]? = r[j]?) ∧ Has ρ [(0, .slice q l.length cap), (1, .slice q2 r.length cap2), (12, nv l.length), (13, nv i)]) ⟨0, rfl, by omega, rfl, by omega, rfl, rfl, rfl, rfl, trivial⟩ ?_
    rintro k ρ _ ⟨i, rfl, hi, rfl, hj, hh⟩
    rw [hh.env]; clear hh
    refine cSeq ?_
    refine cRegion ?_
    refine sBin rfl rfl (aInt_lss) ?_
    refine sNil (kSeqN ?_)
    refine cSeq ?_   -- seq 7
    refine cCond rfl (fun c1 => ?_) (fun c1 => ?_)
    ·
      obtain ⟨b1, p1, r1, cc1, e1, g1, x1⟩ := ha.at (by omega)
      obtain ⟨b2, p2, r2, cc2, e2, g2, x2⟩ := hb.at (by omega)
      cases e1
      cases e2
      have hir : i < r.length := by omega
      have y1 := x1 i l[i] (by simp)
      have y2 := x2 i r[i] (by simp)
      have z1 := (Array.getElem?_eq_some_iff.1 y1.2).1
      have z2 := (Array.getElem?_eq_some_iff.1 y2.2).1
      refine cSkip (kSeqN ?_)
      refine cSeq ?_
      refine cBlock ?_
      refine cSeq ?_
      refine cRegion ?_
      refine sMv (v := nv _) rfl ?_
      refine sAs (v := nv _) rfl ?_
      refine sNil (kSeqN ?_)
      refine cSeq ?_
      refine cDraw rfl ?_
      refine sMv (v := .slice _ _ _) rfl ?_
      refine sMv (v := nv _) rfl ?_
      refine sIx T80 S87 rfl rfl c1 ?_
      refine sLdA A87 S87 rfl g1 (by omega) ?_
      rw [Nat.zero_add, extract2 y1.1 y1.2]
      refine sMv (v := .slice _ _ _) rfl ?_
      refine sMv (v := nv _) rfl ?_
      refine sIx T80 S87 rfl rfl hir ?_
      refine sLdA A87 S87 rfl g2 (by omega) ?_
      rw [Nat.zero_add, extract2 y2.1 y2.2]
      refine sP (v := .bool (decide ((l[i].1, l[i].2) ≠ (r[i].1, r[i].2)))) neq40 ?_
      refine sNil (kSeqN ?_)
      refine cCond rfl (fun c2 => ?_) (fun c2 => ?_)
      ·
        refine cSeq ?_
        refine cRegion ?_
        refine sAs (v := .bool _) rfl ?_
        refine sNil (kSeqN ?_)
        refine cRet (kBlkR (kSeqR (kSeqR (kBlkR (kSeqR ?_)))))
        refine ⟨.inr rfl, _, rfl, ?_, rfl⟩
        have : ¬ (l = r) := fun e => c2 (by subst e; rfl)
        rw [decide_eq_false this]; rfl
      ·
        refine cSkip (kBlkN (kSeqN ?_))
        refine cRegion ?_
        refine sBin rfl rfl (aInt_add (b := 1) (by omega)) ?_
        refine sMv (v := nv _) rfl ?_
        refine sNil (kSeqN ?_)
        refine ⟨_, ?_, i + 1, rfl, by omega, rfl, fun j hji => ?_, rfl, rfl, rfl, rfl, trivial⟩
        · omega
        · by_cases h : j < i
          · exact hj j h
          · obtain rfl : j = i := by omega
            rw [List.getElem?_eq_getElem c1, List.getElem?_eq_getElem hir]
            exact congrArg some (Decidable.not_not.1 c2)
    ·
      refine cExit (kSeqE (kSeqE (kBlkS (kSeqN ?_))))
      refine cSeq ?_
      refine cRegion ?_
      refine sAs (v := .bool _) rfl ?_
      refine sNil (kSeqN ?_)
      refine cRet ?_
      obtain rfl : i = l.length := by omega
      have he : l = r := by
        apply List.ext_getElem? fun j => ?_
        by_cases h : j < l.length
        · exact hj j h
        · rw [List.getElem?_eq_none (by omega), List.getElem?_eq_none (by omega)]
      exact ⟨.inr rfl, _, rfl, by rw [decide_eq_true he]; rfl, rfl⟩

end Go.AM

/-! ### P19 -/
namespace Go.AM
open Go.Proofs
set_option maxRecDepth 100000
set_option linter.unusedVariables false
set_option linter.unusedSimpArgs false
/-- A gate as it is compared: kind, wires, two numbers. -/
abbrev GateV := Int × List Int × Int × Int
theorem oneGate {k a b : Int} {q : Option Addr} {n c : Nat} : (#[.int .i64 k, .slice q n c, .int .i64 a, .int .i64 b] : Array Value).all Value.oneCell' = true := by kernel_rfl
def GateAt (m : Mem) (vs : Array Value) (g : GateV) : Prop := ∃ s, vs = #[.int .i64 g.1, s, .int .i64 g.2.2.1, .int .i64 g.2.2.2] ∧ IntsAt m s g.2.1
theorem GateAt.ext {m m' : Mem} {vs : Array Value} {g : GateV} (h : GateAt m vs g) (he : Ext m m') : GateAt m' vs g := by
  obtain ⟨s, h1, h2⟩ := h; exact ⟨s, h1, h2.ext he⟩
def GatesAt (m : Mem) (v : Value) (Gs : List GateV) : Prop :=
  (Gs = [] ∧ v = .slice none 0 0) ∨ ∃ b cap r c, v = .slice (some ⟨b, 0, some 4⟩) Gs.length cap ∧ Mem.get m b = .cells r c ∧ ∀ (i : Nat) (g : GateV), Gs[i]? = some g → GateAt m (c.extract (i * 4) (i * 4 + 4)) g ∧ i * 4 + 4 ≤ c.size
theorem GatesAt.len {m : Mem} {v : Value} {Gs : List GateV} (h : GatesAt m v Gs) : ∃ q cap, v = .slice q Gs.length cap := by
  rcases h with ⟨rfl, rfl⟩ | ⟨b, cap, rw_, c, rfl, _⟩ <;> exact ⟨_, _, rfl⟩
theorem GatesAt.ext {m m' : Mem} {v : Value} {Gs : List GateV} (h : GatesAt m v Gs) (he : Ext m m') : GatesAt m' v Gs := by
  rcases h with h | ⟨b, cap, rw_, c, h1, h2, h3⟩
  · exact .inl h
  · exact .inr ⟨b, cap, rw_, c, h1, he.cells h2, fun i g hi => ⟨(h3 i g hi).1.ext he, (h3 i g hi).2⟩⟩
theorem GatesAt.at {m : Mem} {v : Value} {Gs : List GateV} (h : GatesAt m v Gs) (h0 : 0 < Gs.length) : ∃ b cap r c, v = .slice (some ⟨b, 0, some 4⟩) Gs.length cap ∧ Mem.get m b = .cells r c ∧ ∀ (i : Nat) (g : GateV), Gs[i]? = some g → GateAt m (c.extract (i * 4) (i * 4 + 4)) g ∧ i * 4 + 4 ≤ c.size := by
  rcases h with ⟨rfl, _⟩ | h
  · cases h0
  · exact h
def gvM (g : Nat × List Nat) : GateV := (Int.ofNat g.1, ofs g.2, 0, 0)
theorem OwnG.gates {N : Nat} {m : Mem} {v : Value} {cs : Array Value} {Gs : List (Nat × List Nat)} (h : OwnG N m v cs Gs) : GatesAt m v (Gs.map gvM) := by
  have hsz := h.1.size
  rcases h with ⟨⟨rfl, h, _⟩ | ⟨b, cap, c, rfl, h2, h3, h4, h5, h6, h7⟩, hr⟩
  · obtain rfl := List.length_eq_zero_iff.1 h
    exact .inl ⟨rfl, rfl⟩
  · refine .inr ⟨b, cap, true, c, by rw [List.length_map], h3, fun i g hi => ?_⟩
    simp only [List.getElem?_map, Option.map_eq_some_iff] at hi
    obtain ⟨g', hi, rfl⟩ := hi
    have hl := (List.getElem?_eq_some_iff.1 hi).1
    obtain ⟨s, e1, e2, e3, e4, ho, _⟩ := hr i g' hi
    have hcap : Gs.length * 4 ≤ cap * 4 := Nat.mul_le_mul_right 4 h4
    refine ⟨⟨s, ?_, ho.ints⟩, by omega⟩
    exact extract4 (by rw [h7 _ (by omega)]; exact e1) (by rw [h7 _ (by omega)]; exact e2) (by rw [h7 _ (by omega)]; exact e3) (by rw [h7 _ (by omega)]; exact e4)

theorem okf72 : okF Tryz.prog H0 72 31 = true := by kernel_rfl
theorem spec_SameGate {m : Mem} {u w : Array Value} {g h : GateV} (hu : GateAt m u g) (hw : GateAt m w h) (hl : g.2.1.length < 4611686018427387904) : ∃ v m', ACalls Tryz.prog 72 #[.agg u, .agg w] m v m' ∧ (v = .bool (decide (g = h)) ∧ Ext m m') := by
  obtain ⟨k1, l1, a1, b1⟩ := g
  obtain ⟨k2, l2, a2, b2⟩ := h
  obtain ⟨s1, rfl, h1⟩ := hu
  obtain ⟨s2, rfl, h2⟩ := hw
  simp only at h1 h2 hl ⊢
  have h22 := spec_Equal (m := (m.push (.cells true #[.int .i64 k1, s1, .int .i64 a1, .int .i64 b1])).push (.cells true #[.int .i64 k2, s2, .int .i64 a2, .int .i64 b2])) ((h1.ext (.push _ _)).ext (.push _ _)) ((h2.ext (.push _ _)).ext (.push _ _)) hl
  obtain ⟨q1, c1, rfl⟩ := h1.len
  obtain ⟨q2, c2, rfl⟩ := h2.len
  have hE : Ext m ((m.push (.cells true #[.int .i64 k1, .slice q1 l1.length c1, .int .i64 a1, .int .i64 b1])).push (.cells true #[.int .i64 k2, .slice q2 l2.length c2, .int .i64 a2, .int .i64 b2])) := (Ext.push _ _).trans (.push _ _)
  refine wpF (args := [_, _]) mixed okf72 (fn := Tryz.f72) rfl rfl rfl (by simp) ?_
  refine cSeq ?_
  refine cRegion ?_
  refine sBox (v := .agg _) rfl ?_
  refine sBox (v := .agg _) rfl ?_
  refine sAs (v := .bool _) rfl ?_
  refine sNil (kSeqN ?_)
  refine cSeq ?_
  refine cRegion ?_
  refine sFA F67_0 rfl ?_
  refine sLd (v := .int _ _) A3 rfl (by simp (disch := first | omega | (simp only [Array.size_push, Array.size_setIfInBounds]; done) | (simp only [Array.size_push, Array.size_setIfInBounds]; omega)) only [gP, gPn, gS, gSn]; try rfl) rfl ?_
  refine sFA F67_0 rfl ?_
  refine sLd (v := .int _ _) A3 rfl (by simp (disch := first | omega | (simp only [Array.size_push, Array.size_setIfInBounds]; done) | (simp only [Array.size_push, Array.size_setIfInBounds]; omega)) only [gP, gPn, gS, gSn]; try rfl) rfl ?_
  refine sBinI rfl rfl aInt_eqlI ?_
  refine sMv (v := .bool _) rfl ?_
  by_cases e1 : k1 = k2
  ·
    rw [decide_eq_true e1]
    refine sG rfl rfl ?_
    refine sFA F67_2 rfl ?_
    refine sG rfl rfl ?_
    refine sLd (v := .int _ _) A3 rfl (by simp (disch := first | omega | (simp only [Array.size_push, Array.size_setIfInBounds]; done) | (simp only [Array.size_push, Array.size_setIfInBounds]; omega)) only [gP, gPn, gS, gSn]; try rfl) rfl ?_
    refine sG rfl rfl ?_
    refine sFA F67_2 rfl ?_
    refine sG rfl rfl ?_
    refine sLd (v := .int _ _) A3 rfl (by simp (disch := first | omega | (simp only [Array.size_push, Array.size_setIfInBounds]; done) | (simp only [Array.size_push, Array.size_setIfInBounds]; omega)) only [gP, gPn, gS, gSn]; try rfl) rfl ?_
    refine sG rfl rfl ?_
    refine sBinI rfl rfl aInt_eqlI ?_
    refine sP (v := .bool _) rfl ?_   -- t16 pick ['t10', 't15', '(bool false)']
    refine sMv (v := .bool _) rfl ?_
    by_cases e2 : a1 = a2
    ·
      rw [decide_eq_true e2]
      refine sG rfl rfl ?_
      refine sFA F67_3 rfl ?_
      refine sG rfl rfl ?_
      refine sLd (v := .int _ _) A3 rfl (by simp (disch := first | omega | (simp only [Array.size_push, Array.size_setIfInBounds]; done) | (simp only [Array.size_push, Array.size_setIfInBounds]; omega)) only [gP, gPn, gS, gSn]; try rfl) rfl ?_
      refine sG rfl rfl ?_
      refine sFA F67_3 rfl ?_
      refine sG rfl rfl ?_
      refine sLd (v := .int _ _) A3 rfl (by simp (disch := first | omega | (simp only [Array.size_push, Array.size_setIfInBounds]; done) | (simp only [Array.size_push, Array.size_setIfInBounds]; omega)) only [gP, gPn, gS, gSn]; try rfl) rfl ?_
      refine sG rfl rfl ?_
      refine sBinI rfl rfl aInt_eqlI ?_
      refine sP (v := .bool _) rfl ?_   -- t23 pick ['t17', 't22', '(bool false)']
      refine sMv (v := .bool _) rfl ?_
      by_cases e3 : b1 = b2
      ·
        rw [decide_eq_true e3]
        refine sG rfl rfl ?_
        refine sFA F67_1 rfl ?_
        refine sG rfl rfl ?_
        refine sLd A29 rfl (by simp (disch := first | omega | (simp only [Array.size_push, Array.size_setIfInBounds]; done) | (simp only [Array.size_push, Array.size_setIfInBounds]; omega)) only [gP, gPn, gS, gSn]; try rfl) rfl ?_
        refine sG rfl rfl ?_
        refine sFA F67_1 rfl ?_
        refine sG rfl rfl ?_
        refine sLd A29 rfl (by simp (disch := first | omega | (simp only [Array.size_push, Array.size_setIfInBounds]; done) | (simp only [Array.size_push, Array.size_setIfInBounds]; omega)) only [gP, gPn, gS, gSn]; try rfl) rfl ?_
        refine sG rfl rfl ?_
        refine sCall2 rfl call69 rfl rfl h22 ?_
        refine sP (v := .bool _) rfl ?_
        refine sAs (v := .bool _) rfl ?_
        refine sNil (kSeqN ?_)
        refine cRet ?_
        refine ⟨.inr rfl, _, rfl, congrArg Value.bool (decide_eq_decide.2 ?_), hE⟩
        subst e1; subst e2; subst e3
        simp
      ·
        rw [decide_eq_false e3]
        refine sGno (q' := false) rfl rfl (by simp) ?_
        refine sGno (q' := false) rfl rfl (by simp) ?_
        refine sGno (q' := false) rfl rfl (by simp) ?_
        refine sGno (q' := false) rfl rfl (by simp) ?_
        refine sGno (q' := false) rfl rfl (by simp) ?_
        refine sP (v := .bool _) rfl ?_
        refine sAs (v := .bool _) rfl ?_
        refine sNil (kSeqN ?_)
        refine cRet ?_
        refine ⟨.inr rfl, _, rfl, congrArg Value.bool (decide_eq_false ?_).symm, hE⟩
        intro e; simp at e; exact e3 e.2.2.2
    ·
      rw [decide_eq_false e2]
      refine sGno (q' := false) rfl rfl (by simp) ?_
      refine sGno (q' := false) rfl rfl (by simp) ?_
      refine sGno (q' := false) rfl rfl (by simp) ?_
      refine sGno (q' := false) rfl rfl (by simp) ?_
      refine sGno (q' := false) rfl rfl (by simp) ?_
      refine sP (v := .bool _) rfl ?_   -- t23 pick ['t17', 't22', '(bool false)']
      refine sMv (v := .bool _) rfl ?_
      refine sGno (q' := false) rfl rfl (by simp) ?_
      refine sGno (q' := false) rfl rfl (by simp) ?_
      refine sGno (q' := false) rfl rfl (by simp) ?_
      refine sGno (q' := false) rfl rfl (by simp) ?_
      refine sGno (q' := false) rfl rfl (by simp) ?_
      refine sP (v := .bool _) rfl ?_
      refine sAs (v := .bool _) rfl ?_
      refine sNil (kSeqN ?_)
      refine cRet ?_
      refine ⟨.inr rfl, _, rfl, congrArg Value.bool (decide_eq_false ?_).symm, hE⟩
      intro e; simp at e; exact e2 e.2.2.1
  ·
    rw [decide_eq_false e1]
    refine sGno (q' := false) rfl rfl (by simp) ?_
    refine sGno (q' := false) rfl rfl (by simp) ?_
    refine sGno (q' := false) rfl rfl (by simp) ?_
    refine sGno (q' := false) rfl rfl (by simp) ?_
    refine sGno (q' := false) rfl rfl (by simp) ?_
    refine sP (v := .bool _) rfl ?_   -- t16 pick ['t10', 't15', '(bool false)']
    refine sMv (v := .bool _) rfl ?_
    refine sGno (q' := false) rfl rfl (by simp) ?_
    refine sGno (q' := false) rfl rfl (by simp) ?_
    refine sGno (q' := false) rfl rfl (by simp) ?_
    refine sGno (q' := false) rfl rfl (by simp) ?_
    refine sGno (q' := false) rfl rfl (by simp) ?_
    refine sP (v := .bool _) rfl ?_   -- t23 pick ['t17', 't22', '(bool false)']
    refine sMv (v := .bool _) rfl ?_
    refine sGno (q' := false) rfl rfl (by simp) ?_
    refine sGno (q' := false) rfl rfl (by simp) ?_
    refine sGno (q' := false) rfl rfl (by simp) ?_
    refine sGno (q' := false) rfl rfl (by simp) ?_
    refine sGno (q' := false) rfl rfl (by simp) ?_
    refine sP (v := .bool _) rfl ?_
    refine sAs (v := .bool _) rfl ?_
    refine sNil (kSeqN ?_)
    refine cRet ?_
    refine ⟨.inr rfl, _, rfl, congrArg Value.bool (decide_eq_false ?_).symm, hE⟩
    intro e; simp at e; exact e1 e.1

theorem okf71 : okF Tryz.prog H0 71 32 = true := by kernel_rfl
theorem spec_EqualG {m : Mem} {a b : Value} {l r : List GateV} (ha : GatesAt m a l) (hb : GatesAt m b r) (hl : l.length < 4611686018427387904) (hw : ∀ g ∈ l, g.2.1.length < 4611686018427387904) : ∃ v m', ACalls Tryz.prog 71 #[a, b, .func (.func 72) #[] #[]] m v m' ∧ (v = .bool (decide (l = r)) ∧ Ext m m') := by
  obtain ⟨q, cap, rfl⟩ := ha.len
  obtain ⟨q2, cap2, rfl⟩ := hb.len
  refine wpF (args := [_, _, _]) mixed okf71 (fn := Tryz.f71) rfl rfl rfl (by simp) ?_
  refine cSeq ?_
  refine cRegion ?_
  refine sAs (v := .bool _) rfl ?_
  refine sNil (kSeqN ?_)
  refine cSeq ?_   -- seq 1
  refine cSeq ?_
  refine cRegion ?_
  refine sMv (v := .slice _ _ _) rfl ?_
  refine sLen T36 rfl ?_
  refine sMv (v := .slice _ _ _) rfl ?_
  refine sLen T36 rfl ?_
  refine sBin (a := l.length) (b := r.length) rfl rfl aInt_neq ?_
  refine sNil (kSeqN ?_)
  refine cCond rfl (fun c0 => ?_) (fun c0 => ?_)
  ·
    refine cSeq ?_
    refine cRegion ?_
    refine sAs (v := .bool _) rfl ?_
    refine sNil (kSeqN ?_)
    refine cRet (kSeqR ?_)
    have hGH : ¬ (l = r) := fun e => c0 (by rw [e])
    exact ⟨.inr rfl, _, rfl, by rw [decide_eq_false hGH]; rfl, .refl _⟩
  ·
    have hlen : l.length = r.length := Decidable.not_not.1 c0
    refine cSkip (kSeqN ?_)
    refine cSeq ?_
    refine cSeq ?_
    refine cRegion ?_
    refine sMv (v := .slice _ _ _) rfl ?_
    refine sLen T36 rfl ?_
    refine sMv (v := nv 0) rfl ?_
    refine sNil (kSeqN ?_)
    refine cBlock ?_
    refine wpC_loop (fun k ρ m' => ∃ i, k = l.length - i ∧ i ≤ l.length ∧ Ext m m' ∧ (∀ j, j < i → l[j]? = r[j]?) ∧ Has ρ [(0, .slice q l.length cap), (1, .slice q2 r.length cap2), (2, .func (.func 72) #[] #[]), (15, .slice q l.length cap), (16, nv l.length), (17, nv i)]) ⟨0, rfl, by omega, .refl _, by omega, rfl, rfl, rfl, rfl, rfl, rfl, trivial⟩ ?_
    rintro k ρ m' ⟨i, rfl, hi, hE, hj, hh⟩
    rw [hh.env]; clear hh
    refine cSeq ?_
    refine cRegion ?_
    refine sBin rfl rfl (aInt_lss) ?_
    refine sNil (kSeqN ?_)
    refine cSeq ?_   -- seq 7
    refine cCond rfl (fun c1 => ?_) (fun c1 => ?_)
    ·
      obtain ⟨b1, p1, r1, cc1, e1, g1, x1⟩ := (ha.ext hE).at (by omega)
      obtain ⟨b2, p2, r2, cc2, e2, g2, x2⟩ := (hb.ext hE).at (by omega)
      cases e1
      cases e2
      have hir : i < r.length := by omega
      obtain ⟨y1, z1⟩ := x1 i l[i] (by simp)
      obtain ⟨y2, z2⟩ := x2 i r[i] (by simp)
      have hs1 : (cc1.extract (i * 4) (i * 4 + 4)).size = 4 := by simp; omega
      have hs2 : (cc2.extract (i * 4) (i * 4 + 4)).size = 4 := by simp; omega
      have ho1 : (cc1.extract (i * 4) (i * 4 + 4)).all Value.oneCell' = true := by
        obtain ⟨s, e, hi⟩ := y1
        obtain ⟨_, _, rfl⟩ := hi.len
        rw [e]; exact oneGate
      have ho2 : (cc2.extract (i * 4) (i * 4 + 4)).all Value.oneCell' = true := by
        obtain ⟨s, e, hi⟩ := y2
        obtain ⟨_, _, rfl⟩ := hi.len
        rw [e]; exact oneGate
      refine cSkip (kSeqN ?_)
      refine cSeq ?_
      refine cBlock ?_
      refine cSeq ?_
      refine cRegion ?_
      refine sMv (v := nv _) rfl ?_
      refine sIx T36 S67 rfl rfl c1 ?_
      refine sLdA A67 S67 rfl g1 (by omega) ?_
      rw [Nat.zero_add]
      refine sAlloc Z67 (by kernel_rfl) ?_
      refine sAs (v := nv _) rfl ?_
      refine sStNA S67 rfl rfl rfl hs1 ho1 ?_
      refine sNil (kSeqN ?_)
      refine cSeq ?_
      refine cRegion ?_
      refine sMv (v := .slice _ _ _) rfl ?_
      refine sMv (v := nv _) rfl ?_
      refine sIx T36 S67 rfl rfl hir ?_
      refine sLdA A67 S67 rfl ((gPn (live g2)).trans g2) (by omega) ?_
      rw [Nat.zero_add]
      refine sAlloc Z67 (by kernel_rfl) ?_
      refine sStNA S67 rfl rfl rfl hs2 ho2 ?_
      refine sNil (kSeqN ?_)
      refine cSeq ?_
      refine cRegion ?_
      refine sMv (v := .func _ _ _) rfl ?_
      refine sLdAll A67 S67 rfl (by rw [gPn (by simp), gP rfl]) hs1 ?_
      refine sLdAll A67 S67 rfl (gP rfl) hs2 ?_
      obtain ⟨v29, m29, h29, rfl, e29⟩ := spec_SameGate (m := (m'.push (.cells true (cc1.extract (i * 4) (i * 4 + 4)))).push (.cells true (cc2.extract (i * 4) (i * 4 + 4)))) ((y1.ext (.push _ _)).ext (.push _ _)) ((y2.ext (.push _ _)).ext (.push _ _)) (hw _ (List.getElem_mem c1))
      refine sCall2 rfl call72 rfl rfl h29 ?_
      refine sP (v := .bool (!decide (l[i] = r[i]))) rfl ?_
      refine sNil (kSeqN ?_)
      refine cCond (p := l[i] ≠ r[i]) (by show Value.bool _ = Value.bool _; rw [← decide_not]) (fun c2 => ?_) (fun c2 => ?_)
      ·
        refine cSeq ?_
        refine cRegion ?_
        refine sAs (v := .bool _) rfl ?_
        refine sNil (kSeqN ?_)
        refine cRet (kBlkR (kSeqR (kSeqR (kBlkR (kSeqR ?_)))))
        refine ⟨.inr rfl, _, rfl, ?_, hE.trans (((Ext.push _ _).trans (.push _ _)).trans e29)⟩
        have : ¬ (l = r) := fun e => c2 (by subst e; rfl)
        rw [decide_eq_false this]; rfl
      ·
        refine cSkip (kBlkN (kSeqN ?_))
        refine cRegion ?_
        refine sBin rfl rfl (aInt_add (b := 1) (by omega)) ?_
        refine sMv (v := nv _) rfl ?_
        refine sNil (kSeqN ?_)
        refine ⟨_, ?_, i + 1, rfl, by omega, hE.trans (((Ext.push _ _).trans (.push _ _)).trans e29), fun j hji => ?_, rfl, rfl, rfl, rfl, rfl, rfl, trivial⟩
        · omega
        · by_cases h : j < i
          · exact hj j h
          · obtain rfl : j = i := by omega
            rw [List.getElem?_eq_getElem c1, List.getElem?_eq_getElem hir, Decidable.not_not.1 c2]
    ·
      refine cExit (kSeqE (kSeqE (kBlkS (kSeqN ?_))))
      refine cSeq ?_
      refine cRegion ?_
      refine sAs (v := .bool _) rfl ?_
      refine sNil (kSeqN ?_)
      refine cRet ?_
      obtain rfl : i = l.length := by omega
      have he : l = r := by
        apply List.ext_getElem? fun j => ?_
        by_cases h : j < l.length
        · exact hj j h
        · rw [List.getElem?_eq_none (by omega), List.getElem?_eq_none (by omega)]
      exact ⟨.inr rfl, _, rfl, by rw [decide_eq_true he]; rfl, hE⟩

theorem okf48 : okF Tryz.prog H0 48 24 = true := by kernel_rfl
theorem spec_Same {m : Mem} {a b : Value} {W B W' B' : Nat} {l r : List GateV} (ha : GatesAt m a l) (hb : GatesAt m b r) (hl : l.length < 4611686018427387904) (hw : ∀ g ∈ l, g.2.1.length < 4611686018427387904) : ∃ v m', ACalls Tryz.prog 48 #[.agg #[nv W, nv B, a], .agg #[nv W', nv B', b]] m v m' ∧ (v = .bool (decide (W = W' ∧ B = B' ∧ l = r)) ∧ Ext m m') := by
  have hE : Ext m ((m.push (.cells true #[nv W, nv B, a])).push (.cells true #[nv W', nv B', b])) := (Ext.push _ _).trans (.push _ _)
  obtain ⟨v22, m22, h22, rfl, e22⟩ := spec_EqualG (ha.ext hE) (hb.ext hE) hl hw
  obtain ⟨q1, c1, rfl⟩ := ha.len
  obtain ⟨q2, c2, rfl⟩ := hb.len
  refine wpF (args := [_, _]) mixed okf48 (fn := Tryz.f48) rfl rfl rfl (by simp) ?_
  refine cSeq ?_
  refine cRegion ?_
  refine sBox (v := .agg _) rfl ?_
  refine sBox (v := .agg _) rfl ?_
  refine sAs (v := .bool _) rfl ?_
  refine sNil (kSeqN ?_)
  refine cSeq ?_
  refine cRegion ?_
  refine sFA F38_0 rfl ?_
  refine sLd A3 rfl (by simp (disch := first | omega | (simp only [Array.size_push, Array.size_setIfInBounds]; done) | (simp only [Array.size_push, Array.size_setIfInBounds]; omega)) only [gP, gPn, gS, gSn]; try rfl) rfl ?_
  refine sFA F38_0 rfl ?_
  refine sLd A3 rfl (by simp (disch := first | omega | (simp only [Array.size_push, Array.size_setIfInBounds]; done) | (simp only [Array.size_push, Array.size_setIfInBounds]; omega)) only [gP, gPn, gS, gSn]; try rfl) rfl ?_
  refine sBin (a := W) (b := W') rfl rfl aInt_eql ?_
  refine sMv (v := .bool _) rfl ?_
  by_cases e1 : W = W'
  ·
    rw [decide_eq_true e1]
    refine sG rfl rfl ?_
    refine sFA F38_1 rfl ?_
    refine sG rfl rfl ?_
    refine sLd A3 rfl (by simp (disch := first | omega | (simp only [Array.size_push, Array.size_setIfInBounds]; done) | (simp only [Array.size_push, Array.size_setIfInBounds]; omega)) only [gP, gPn, gS, gSn]; try rfl) rfl ?_
    refine sG rfl rfl ?_
    refine sFA F38_1 rfl ?_
    refine sG rfl rfl ?_
    refine sLd A3 rfl (by simp (disch := first | omega | (simp only [Array.size_push, Array.size_setIfInBounds]; done) | (simp only [Array.size_push, Array.size_setIfInBounds]; omega)) only [gP, gPn, gS, gSn]; try rfl) rfl ?_
    refine sG rfl rfl ?_
    refine sBin (a := B) (b := B') rfl rfl aInt_eql ?_
    refine sP (v := .bool _) rfl ?_   -- t16 pick ['t10', 't15', '(bool false)']
    refine sMv (v := .bool _) rfl ?_
    by_cases e2 : B = B'
    ·
      rw [decide_eq_true e2]
      refine sG rfl rfl ?_
      refine sFA F38_2 rfl ?_
      refine sG rfl rfl ?_
      refine sLd A36 rfl (by simp (disch := first | omega | (simp only [Array.size_push, Array.size_setIfInBounds]; done) | (simp only [Array.size_push, Array.size_setIfInBounds]; omega)) only [gP, gPn, gS, gSn]; try rfl) rfl ?_
      refine sG rfl rfl ?_
      refine sFA F38_2 rfl ?_
      refine sG rfl rfl ?_
      refine sLd A36 rfl (by simp (disch := first | omega | (simp only [Array.size_push, Array.size_setIfInBounds]; done) | (simp only [Array.size_push, Array.size_setIfInBounds]; omega)) only [gP, gPn, gS, gSn]; try rfl) rfl ?_
      refine sG rfl rfl ?_
      refine sCall3 rfl call71 rfl rfl rfl h22 ?_
      refine sP (v := .bool _) rfl ?_
      refine sAs (v := .bool _) rfl ?_
      refine sNil (kSeqN ?_)
      refine cRet ?_
      refine ⟨.inr rfl, _, rfl, congrArg Value.bool (decide_eq_decide.2 ?_), hE.trans e22⟩
      exact ⟨fun h => ⟨e1, e2, h⟩, fun h => h.2.2⟩
    ·
      rw [decide_eq_false e2]
      refine sGno (q' := false) rfl rfl (by simp) ?_
      refine sGno (q' := false) rfl rfl (by simp) ?_
      refine sGno (q' := false) rfl rfl (by simp) ?_
      refine sGno (q' := false) rfl rfl (by simp) ?_
      refine sGno (q' := false) rfl rfl (by simp) ?_
      refine sP (v := .bool _) rfl ?_
      refine sAs (v := .bool _) rfl ?_
      refine sNil (kSeqN ?_)
      refine cRet ?_
      exact ⟨.inr rfl, _, rfl, congrArg Value.bool (decide_eq_false fun h => e2 h.2.1).symm, hE⟩
  ·
    rw [decide_eq_false e1]
    refine sGno (q' := false) rfl rfl (by simp) ?_
    refine sGno (q' := false) rfl rfl (by simp) ?_
    refine sGno (q' := false) rfl rfl (by simp) ?_
    refine sGno (q' := false) rfl rfl (by simp) ?_
    refine sGno (q' := false) rfl rfl (by simp) ?_
    refine sP (v := .bool _) rfl ?_   -- t16 pick ['t10', 't15', '(bool false)']
    refine sMv (v := .bool _) rfl ?_
    refine sGno (q' := false) rfl rfl (by simp) ?_
    refine sGno (q' := false) rfl rfl (by simp) ?_
    refine sGno (q' := false) rfl rfl (by simp) ?_
    refine sGno (q' := false) rfl rfl (by simp) ?_
    refine sGno (q' := false) rfl rfl (by simp) ?_
    refine sP (v := .bool _) rfl ?_
    refine sAs (v := .bool _) rfl ?_
    refine sNil (kSeqN ?_)
    refine cRet ?_
    exact ⟨.inr rfl, _, rfl, congrArg Value.bool (decide_eq_false fun h => e1 h.1).symm, hE⟩

end Go.AM

/-! ### P20t -/
namespace Go.AM
abbrev line4 : List (List Int) := [[], [0], [1], [2]]
abbrev line2 : List (List Int) := [[], [0]]
theorem ev_line4 : ofs2 (lineM 4) = line4 := by decide +kernel
theorem ev_line2 : ofs2 (lineM 2) = line2 := by decide +kernel
theorem ev_tree : ofs2 (treeM 2) = [[], [], [0, 1]] := by decide +kernel
theorem ev_play : gPlayE line2 [0, 1, 0] = 0 := by decide +kernel
theorem ev_play2 : playedL [0, 1, 0] = [0, 1, 3, 2] := by decide +kernel
theorem ev_play3 : gPlayE line2 [1] = 15 := by decide +kernel
theorem ev_ben : benM 4 = [0, 1, 0, 2, 3, 2, 0, 1, 0] := by decide +kernel
theorem ev_with : withE line4 [3] = 0 := by decide +kernel
theorem ev_plain : plainM line4 [3] = [0, 1, 2, 3, 2, 1, 0] := by decide +kernel
theorem ev_trade : tradeG line4 [3] = [(3, 9), (4, 7)] := by decide +kernel
theorem ev_most0 : gPlayE line4 [0, 1, 2, 3, 2, 1, 0] = 0 := by decide +kernel
theorem ev_most : mostM (playedL [0, 1, 2, 3, 2, 1, 0]) = 4 := by decide +kernel
theorem ev_short0 : shortestE line4 [3] 3 = 0 := by decide +kernel
theorem ev_short : shortestG line4 [3] 3 = [0, 1, 0, 2, 3, 2, 0, 1, 0] := by decide +kernel
theorem ev_closed0 : closedE line4 2 = 0 := by decide +kernel
theorem ev_closed : closedG line4 2 = [0, 1, 2, 3, 6] := by decide +kernel
theorem ev_shows0 : showsE line4 [3] 2 [0, 1, 2, 3, 6] = 0 := by decide +kernel
theorem ev_shows : showsG line4 [3] 2 [0, 1, 2, 3, 6] = true := by decide +kernel
theorem ev_circ : circG line2 [0, 1, 0] = [(1, [0]), (9, [0, 1]), (1, [0])] := by decide +kernel
end Go.AM

/-! ### P20 -/
namespace Go.AM
open Go.Proofs
set_option maxRecDepth 100000
set_option linter.unusedVariables false
set_option linter.unusedSimpArgs false
theorem aw_line4 {m : Mem} : ∃ w m', ACalls Tryz.prog 37 #[nv 4] m (.tuple #[.agg #[w], nv 0]) m' ∧ RowsAt m' w line4 ∧ Ext m m' := by
  obtain ⟨v, m', h, w, cs, rfl, ho, he⟩ := spec_Line (m := m) (n := 4)
  exact ⟨w, m', h, by have := ho.rows; rwa [show ifOk (benE 4) (lineM (4 : Int).toNat) [] = lineM 4 from rfl, ev_line4] at this, he⟩
theorem aw_line2 {m : Mem} : ∃ w m', ACalls Tryz.prog 37 #[nv 2] m (.tuple #[.agg #[w], nv 0]) m' ∧ RowsAt m' w line2 ∧ Ext m m' := by
  obtain ⟨v, m', h, w, cs, rfl, ho, he⟩ := spec_Line (m := m) (n := 2)
  exact ⟨w, m', h, by have := ho.rows; rwa [show ifOk (benE 2) (lineM (2 : Int).toNat) [] = lineM 2 from rfl, ev_line2] at this, he⟩
theorem aw_tree {m : Mem} : ∃ w m', ACalls Tryz.prog 38 #[nv 2] m (.tuple #[.agg #[w], nv 0]) m' ∧ RowsAt m' w [[], [], [0, 1]] ∧ Ext m m' := by
  obtain ⟨v, m', h, w, cs, rfl, ho, he⟩ := spec_Tree (m := m) (n := 2)
  exact ⟨w, m', h, by have := ho.rows; rwa [show ifOk (treeE 2) (treeM (2 : Int).toNat) [] = treeM 2 from rfl, ev_tree] at this, he⟩
theorem aw_same {m : Mem} {a b : Value} {G : List (List Int)} (ha : RowsAt m a G) (hb : RowsAt m b G) (h1 : G.length < 1000) (h2 : G.all (fun g => decide (g.length < 1000)) = true) : ∃ m', ACalls Tryz.prog 39 #[.agg #[a], .agg #[b]] m (.bool true) m' ∧ Ext m m' := by
  obtain ⟨v, m', h, rfl, he⟩ := spec_same ha hb (by omega) (fun g hg => by have := of_decide_eq_true (List.all_eq_true.1 h2 g hg); omega)
  rw [decide_eq_true rfl] at h
  exact ⟨m', h, he⟩
theorem aw_known {m : Mem} {a b : Value} {l : List Int} (ha : IntsAt m a l) (hb : IntsAt m b l) (hl : l.length < 1000) : ACalls Tryz.prog 43 #[a, nv 0, b] m (.bool true) m := by
  obtain ⟨v, m', h, rfl, he⟩ := spec_known (e := 0) ha hb (by omega)
  rw [he, decide_eq_true rfl, decide_eq_true rfl] at h
  exact h
theorem aw_play {m : Mem} {s a : Value} (hG : RowsAt m s line2) (ha : IntsAt m a (ofs [0, 1, 0])) : ∃ w m', ACalls Tryz.prog 14 #[.agg #[s], a] m (.tuple #[w, nv 0]) m' ∧ IntsAt m' w (ofs [0, 1, 3, 2]) ∧ Ext m m' := by
  obtain ⟨v, m', h, w, rfl, ho, he⟩ := spec_Play hG ha
  have e1 : gPlayE line2 (ofs [0, 1, 0]) = 0 := ev_play
  rw [e1] at h ho
  exact ⟨w, m', h, by have := ho.ints; rwa [ifOk_0 rfl, show playedL (ofs [0, 1, 0]) = [0, 1, 3, 2] from ev_play2] at this, he⟩
theorem aw_play1 {m : Mem} {s a : Value} (hG : RowsAt m s line2) (ha : IntsAt m a (ofs [1])) : ∃ w m', ACalls Tryz.prog 14 #[.agg #[s], a] m (.tuple #[w, nv 15]) m' ∧ (∃ q n c, w = .slice q n c) ∧ Ext m m' := by
  obtain ⟨v, m', h, w, rfl, ho, he⟩ := spec_Play hG ha
  have e1 : gPlayE line2 (ofs [1]) = 15 := ev_play3
  rw [e1] at h
  obtain ⟨q, c, hw⟩ := ho.ints.len
  exact ⟨w, m', h, ⟨q, _, c, hw⟩, he⟩
theorem aw_ben {m : Mem} : ∃ w m', ACalls Tryz.prog 40 #[nv 4] m (.tuple #[w, nv 0]) m' ∧ IntsAt m' w (ofs [0, 1, 0, 2, 3, 2, 0, 1, 0]) ∧ Ext m m' := by
  obtain ⟨v, m', h, w, rfl, ho, he⟩ := spec_Bennett (m := m) (n := 4)
  exact ⟨w, m', h, by have := ho.ints; rwa [show ifOk (benE 4) (benM (4 : Int).toNat) [] = benM 4 from rfl, ev_ben] at this, he⟩
theorem aw_plain {m : Mem} {s a : Value} (hG : RowsAt m s line4) (ha : IntsAt m a (ofs [3])) : ∃ w m', ACalls Tryz.prog 8 #[.agg #[s], a] m (.tuple #[w, nv 0]) m' ∧ IntsAt m' w (ofs [0, 1, 2, 3, 2, 1, 0]) ∧ Ext m m' := by
  obtain ⟨v, m', h, w, rfl, ho, he⟩ := spec_Plain hG ha (by decide)
  have e1 : withE line4 (ofs [3]) = 0 := ev_with
  rw [e1] at h ho
  exact ⟨w, m', h, by have := ho.ints; rwa [ifOk_0 rfl, show plainM line4 (ofs [3]) = _ from ev_plain] at this, he⟩
theorem aw_least {m : Mem} {s a : Value} (hG : RowsAt m s line4) (ha : IntsAt m a (ofs [3])) : ∃ m', ACalls Tryz.prog 41 #[.agg #[s], a] m (.tuple #[nv 3, nv 0]) m' ∧ Ext m m' := by
  have et : tradeG line4 (ofs [3]) = [(3, 9), (4, 7)] := ev_trade
  obtain ⟨v, m', h, rfl, he⟩ := spec_Least hG ha (by decide) (fun _ => by rw [et]; simp)
  have e1 : withE line4 (ofs [3]) = 0 := ev_with
  have e2 : leastG line4 (ofs [3]) = 3 := by rw [leastG, et]; rfl
  rw [e1, e2, ifOk_0 rfl] at h
  exact ⟨m', h, he⟩
theorem aw_most {m : Mem} {s a : Value} (hG : RowsAt m s line4) (ha : IntsAt m a (ofs [0, 1, 2, 3, 2, 1, 0])) : ∃ m', ACalls Tryz.prog 42 #[.agg #[s], a] m (.tuple #[nv 4, nv 0]) m' ∧ Ext m m' := by
  obtain ⟨v, m', h, rfl, he⟩ := spec_Most hG ha
  have e1 : gPlayE line4 (ofs [0, 1, 2, 3, 2, 1, 0]) = 0 := ev_most0
  rw [e1, ifOk_0 rfl, show mostM (playedL (ofs [0, 1, 2, 3, 2, 1, 0])) = 4 from ev_most] at h
  exact ⟨m', h, he⟩
theorem aw_trade {m : Mem} {s a : Value} (hG : RowsAt m s line4) (ha : IntsAt m a (ofs [3])) : ∃ w m', ACalls Tryz.prog 44 #[.agg #[s], a] m (.tuple #[w, nv 0]) m' ∧ TwosAt m' w [(3, 9), (4, 7)] ∧ Ext m m' := by
  obtain ⟨v, m', h, w, rfl, ho, he⟩ := spec_Trade hG ha (by decide)
  have e1 : withE line4 (ofs [3]) = 0 := ev_with
  rw [e1] at h ho
  exact ⟨w, m', h, by have := ho.pairs; rwa [ifOk_0 rfl, show tradeG line4 (ofs [3]) = _ from ev_trade] at this, he⟩
theorem aw_short {m : Mem} {s a : Value} (hG : RowsAt m s line4) (ha : IntsAt m a (ofs [3])) : ∃ w m', ACalls Tryz.prog 9 #[.agg #[s], a, nv 3] m (.tuple #[w, nv 0]) m' ∧ IntsAt m' w (ofs [0, 1, 0, 2, 3, 2, 0, 1, 0]) ∧ Ext m m' := by
  obtain ⟨v, m', h, w, rfl, ho, he⟩ := spec_Shortest (k := 3) hG ha (by decide)
  have e1 : shortestE line4 (ofs [3]) 3 = 0 := ev_short0
  rw [e1] at h ho
  exact ⟨w, m', h, by have := ho.ints; rwa [ifOk_0 rfl, show shortestG line4 (ofs [3]) 3 = _ from ev_short] at this, he⟩
theorem aw_closed {m : Mem} {s : Value} (hG : RowsAt m s line4) : ∃ w m', ACalls Tryz.prog 45 #[.agg #[s], nv 2] m (.tuple #[w, nv 0]) m' ∧ IntsAt m' w (ofs [0, 1, 2, 3, 6]) ∧ Ext m m' := by
  obtain ⟨v, m', h, w, rfl, ho, he⟩ := spec_Closed (k := 2) hG
  rw [ev_closed0] at h ho
  exact ⟨w, m', h, by have := ho.ints; rwa [ifOk_0 rfl, ev_closed] at this, he⟩
theorem aw_shows {m : Mem} {s a b : Value} (hGl : GlobP m) (hG : RowsAt m s line4) (ha : IntsAt m a (ofs [3])) (hb : IntsAt m b (ofs [0, 1, 2, 3, 6])) : ∃ m', ACalls Tryz.prog 46 #[.agg #[s], a, nv 2, b] m (.tuple #[.bool true, nv 0]) m' ∧ Ext m m' := by
  obtain ⟨v, m', h, rfl, he⟩ := spec_Shows (k := 2) hGl hG ha (by decide) hb (by decide)
  have e1 : showsE line4 (ofs [3]) 2 (ofs [0, 1, 2, 3, 6]) = 0 := ev_shows0
  have e2 : showsG line4 (ofs [3]) 2 (ofs [0, 1, 2, 3, 6]) = true := ev_shows
  rw [e1, e2] at h
  exact ⟨m', h, he⟩
abbrev circ2 : List GateV := [(1, [0], 0, 0), (9, [0, 1], 0, 0), (1, [0], 0, 0)]
theorem aw_circ {m : Mem} {s a : Value} (hG : RowsAt m s line2) (ha : IntsAt m a (ofs [0, 1, 0])) : ∃ w m', ACalls Tryz.prog 10 #[.agg #[s], a] m (.tuple #[.agg #[nv 2, nv 0, w], nv 0]) m' ∧ GatesAt m' w circ2 ∧ Ext m m' := by
  obtain ⟨v, m', h, w, cs, rfl, ho, he⟩ := spec_Circuit hG ha
  have e1 : gPlayE line2 (ofs [0, 1, 0]) = 0 := ev_play
  rw [e1] at h ho
  refine ⟨w, m', h, ?_, he⟩
  have := ho.gates
  rwa [ifOk_0 rfl, show circG line2 (ofs [0, 1, 0]) = _ from ev_circ, show List.map gvM [(1, [0]), (9, [0, 1]), (1, [0])] = circ2 from rfl] at this
theorem aw_sameC {m : Mem} {a b : Value} (ha : GatesAt m a circ2) (hb : GatesAt m b circ2) : ∃ m', ACalls Tryz.prog 48 #[.agg #[nv 2, nv 0, a], .agg #[nv 2, nv 0, b]] m (.bool true) m' ∧ Ext m m' := by
  obtain ⟨v, m', h, rfl, he⟩ := spec_Same (W := 2) (B := 0) (W' := 2) (B' := 0) ha hb (by decide) (by decide)
  rw [decide_eq_true ⟨rfl, rfl, rfl⟩] at h
  exact ⟨m', h, he⟩
theorem aw_sameP {m : Mem} {a b : Value} {l : List (Nat × Nat)} (ha : TwosAt m a l) (hb : TwosAt m b l) (hl : l.length < 1000) : ACalls Tryz.prog 47 #[a, b] m (.bool true) m := by
  have := spec_EqualP ha hb (by omega)
  rwa [decide_eq_true rfl] at this



end Go.AM

/-! ### P21 -/
namespace Go.AM
open Go.Proofs
set_option maxRecDepth 100000
set_option linter.unusedVariables false
set_option linter.unusedSimpArgs false
theorem B57_2 {n c : Nat} {q : Option Addr} {k : Nat} : aBuild Tryz.prog 38 [(0, nv k), (2, .slice q n c)] = some (.agg #[nv k, nv 0, .slice q n c]) := by kernel_rfl

theorem okf15 : okF Tryz.prog H0 15 206 = true := by kernel_rfl
theorem spec_awake {m : Mem} (hGl : GlobP m) : ∃ v m', ACalls Tryz.prog 15 #[] m v m' ∧ (v = .bool true ∧ Ext m m') := by
  refine wpF (args := []) mixed okf15 (fn := Tryz.f15) rfl rfl rfl (by simp) ?_
  refine cSeq ?_
  refine cRegion ?_
  refine sAs (v := .bool _) rfl ?_
  have E : Ext m m := .refl _
  refine sNil (kSeqN ?_)
  refine cSeq ?_
  refine cRegion ?_
  obtain ⟨wA, mA, h_, rA, e_⟩ := aw_line4 (m := m)
  obtain ⟨qA, cA, rfl⟩ := rA.len
  refine sCall1 rfl call37 rfl h_ ?_
  clear h_
  have x_ : Ext m mA := e_
  replace E := E.trans x_
  replace hGl := hGl.ext x_
  clear x_
  clear e_
  refine sMv (v := .tuple _) rfl ?_
  refine sP (v := .agg _) rfl ?_   -- extract ['t22', '0']
  refine sP (v := nv _) rfl ?_   -- extract ['t22', '1']
  refine sAlloc Z27 (by kernel_rfl) ?_
  refine sStNA S27 rfl rfl rfl rfl (by kernel_rfl) ?_
  have x_ : Ext mA (mA.push (.cells true #[.slice qA 4 cA])) := .push _ _
  replace E := E.trans x_
  replace hGl := hGl.ext x_
  replace rA := rA.ext x_
  clear x_
  have gA : Mem.get (mA.push (.cells true #[.slice qA 4 cA])) mA.size = .cells true #[.slice qA 4 cA] := gP rfl
  refine sAs (v := nv _) rfl ?_
  refine sNil (kSeqN ?_)
  refine cSeq ?_
  refine cRegion ?_
  obtain ⟨wB, mB, h_, rB, e_⟩ := aw_tree (m := (mA.push (.cells true #[.slice qA 4 cA])))
  obtain ⟨qB, cB, rfl⟩ := rB.len
  refine sCall1 rfl call38 rfl h_ ?_
  clear h_
  have x_ : Ext (mA.push (.cells true #[.slice qA 4 cA])) mB := e_
  replace E := E.trans x_
  replace hGl := hGl.ext x_
  replace rA := rA.ext x_
  replace gA := x_.cells gA
  clear x_
  clear e_
  refine sMv (v := .tuple _) rfl ?_
  refine sP (v := .agg _) rfl ?_   -- extract ['t26', '0']
  refine sP (v := nv _) rfl ?_   -- extract ['t26', '1']
  refine sAlloc Z27 (by kernel_rfl) ?_
  refine sStNA S27 rfl rfl rfl rfl (by kernel_rfl) ?_
  have x_ : Ext mB (mB.push (.cells true #[.slice qB 3 cB])) := .push _ _
  replace E := E.trans x_
  replace hGl := hGl.ext x_
  replace rA := rA.ext x_
  replace gA := x_.cells gA
  replace rB := rB.ext x_
  clear x_
  have gB : Mem.get (mB.push (.cells true #[.slice qB 3 cB])) mB.size = .cells true #[.slice qB 3 cB] := gP rfl
  refine sAs (v := nv _) rfl ?_
  refine sNil (kSeqN ?_)
  refine cSeq ?_   -- seq 3
  refine cSeq ?_
  refine cRegion ?_
  refine sMv (v := nv _) rfl ?_
  refine sBin (v := .bool false) (a := 0) (b := 0) rfl rfl (neqF rfl) ?_
  refine sMv (v := .bool _) rfl ?_
  refine sG rfl rfl ?_
  refine sMv (v := nv _) rfl ?_
  refine sG rfl rfl ?_
  refine sBin (v := .bool false) (a := 0) (b := 0) rfl rfl (neqF rfl) ?_
  refine sP (v := .bool false) rfl ?_
  refine sMv (v := .bool _) rfl ?_
  refine sG rfl rfl ?_
  refine sLdAll A27 S27 rfl gA rfl ?_
  refine sG rfl rfl ?_
  refine sBuildS (c := cellsN [0]) T29 S3 Z3 (by decide) (by decide) (by decide) (by kernel_rfl) (by kernel_rfl) rfl ?_
  have x_ : Ext (mB.push (.cells true #[.slice qB 3 cB])) ((mB.push (.cells true #[.slice qB 3 cB])).push (.cells true (cellsN [0]))) := .push _ _
  replace E := E.trans x_
  replace hGl := hGl.ext x_
  replace rA := rA.ext x_
  replace gA := x_.cells gA
  replace rB := rB.ext x_
  replace gB := x_.cells gB
  clear x_
  have i38 : IntsAt ((mB.push (.cells true #[.slice qB 3 cB])).push (.cells true (cellsN [0]))) (.slice (some ⟨(mB.push (.cells true #[.slice qB 3 cB])).size, 0, some 1⟩) 1 1) (ofs [0]) := new_ints
  refine sG rfl rfl ?_
  refine sBuildS (c := cellsN [1]) T29 S3 Z3 (by decide) (by decide) (by decide) (by kernel_rfl) (by kernel_rfl) rfl ?_
  have x_ : Ext ((mB.push (.cells true #[.slice qB 3 cB])).push (.cells true (cellsN [0]))) (((mB.push (.cells true #[.slice qB 3 cB])).push (.cells true (cellsN [0]))).push (.cells true (cellsN [1]))) := .push _ _
  replace E := E.trans x_
  replace hGl := hGl.ext x_
  replace rA := rA.ext x_
  replace gA := x_.cells gA
  replace rB := rB.ext x_
  replace gB := x_.cells gB
  replace i38 := i38.ext x_
  clear x_
  have i39 : IntsAt (((mB.push (.cells true #[.slice qB 3 cB])).push (.cells true (cellsN [0]))).push (.cells true (cellsN [1]))) (.slice (some ⟨((mB.push (.cells true #[.slice qB 3 cB])).push (.cells true (cellsN [0]))).size, 0, some 1⟩) 1 1) (ofs [1]) := new_ints
  refine sG rfl rfl ?_
  refine sBuildS (c := cellsN [2]) T29 S3 Z3 (by decide) (by decide) (by decide) (by kernel_rfl) (by kernel_rfl) rfl ?_
  have x_ : Ext (((mB.push (.cells true #[.slice qB 3 cB])).push (.cells true (cellsN [0]))).push (.cells true (cellsN [1]))) ((((mB.push (.cells true #[.slice qB 3 cB])).push (.cells true (cellsN [0]))).push (.cells true (cellsN [1]))).push (.cells true (cellsN [2]))) := .push _ _
  replace E := E.trans x_
  replace hGl := hGl.ext x_
  replace rA := rA.ext x_
  replace gA := x_.cells gA
  replace rB := rB.ext x_
  replace gB := x_.cells gB
  replace i38 := i38.ext x_
  replace i39 := i39.ext x_
  clear x_
  have i40 : IntsAt ((((mB.push (.cells true #[.slice qB 3 cB])).push (.cells true (cellsN [0]))).push (.cells true (cellsN [1]))).push (.cells true (cellsN [2]))) (.slice (some ⟨(((mB.push (.cells true #[.slice qB 3 cB])).push (.cells true (cellsN [0]))).push (.cells true (cellsN [1]))).size, 0, some 1⟩) 1 1) (ofs [2]) := new_ints
  refine sG rfl rfl ?_
  refine sBuildS (c := #[.slice none 0 0, (.slice (some ⟨(mB.push (.cells true #[.slice qB 3 cB])).size, 0, some 1⟩) 1 1), (.slice (some ⟨((mB.push (.cells true #[.slice qB 3 cB])).push (.cells true (cellsN [0]))).size, 0, some 1⟩) 1 1), (.slice (some ⟨(((mB.push (.cells true #[.slice qB 3 cB])).push (.cells true (cellsN [0]))).push (.cells true (cellsN [1]))).size, 0, some 1⟩) 1 1)]) T25 S29 Z29 (by decide) (by decide) (by decide) (by kernel_rfl) (by kernel_rfl) rfl ?_
  have x_ : Ext ((((mB.push (.cells true #[.slice qB 3 cB])).push (.cells true (cellsN [0]))).push (.cells true (cellsN [1]))).push (.cells true (cellsN [2]))) (((((mB.push (.cells true #[.slice qB 3 cB])).push (.cells true (cellsN [0]))).push (.cells true (cellsN [1]))).push (.cells true (cellsN [2]))).push (.cells true #[.slice none 0 0, (.slice (some ⟨(mB.push (.cells true #[.slice qB 3 cB])).size, 0, some 1⟩) 1 1), (.slice (some ⟨((mB.push (.cells true #[.slice qB 3 cB])).push (.cells true (cellsN [0]))).size, 0, some 1⟩) 1 1), (.slice (some ⟨(((mB.push (.cells true #[.slice qB 3 cB])).push (.cells true (cellsN [0]))).push (.cells true (cellsN [1]))).size, 0, some 1⟩) 1 1)])) := .push _ _
  replace E := E.trans x_
  replace hGl := hGl.ext x_
  replace rA := rA.ext x_
  replace gA := x_.cells gA
  replace rB := rB.ext x_
  replace gB := x_.cells gB
  replace i38 := i38.ext x_
  replace i39 := i39.ext x_
  replace i40 := i40.ext x_
  clear x_
  have r41 : RowsAt (((((mB.push (.cells true #[.slice qB 3 cB])).push (.cells true (cellsN [0]))).push (.cells true (cellsN [1]))).push (.cells true (cellsN [2]))).push (.cells true #[.slice none 0 0, (.slice (some ⟨(mB.push (.cells true #[.slice qB 3 cB])).size, 0, some 1⟩) 1 1), (.slice (some ⟨((mB.push (.cells true #[.slice qB 3 cB])).push (.cells true (cellsN [0]))).size, 0, some 1⟩) 1 1), (.slice (some ⟨(((mB.push (.cells true #[.slice qB 3 cB])).push (.cells true (cellsN [0]))).push (.cells true (cellsN [1]))).size, 0, some 1⟩) 1 1)])) (.slice (some ⟨((((mB.push (.cells true #[.slice qB 3 cB])).push (.cells true (cellsN [0]))).push (.cells true (cellsN [1]))).push (.cells true (cellsN [2]))).size, 0, some 1⟩) 4 4) line4 := by
    refine .inr ⟨_, 0, 4, true, _, rfl, gP rfl, fun i g hi => ?_⟩
    match i, hi with
    | 0, hi => cases hi; exact ⟨_, rfl, .inl ⟨rfl, .inl rfl⟩⟩
    | 1, hi => cases hi; exact ⟨_, rfl, i38⟩
    | 2, hi => cases hi; exact ⟨_, rfl, i39⟩
    | 3, hi => cases hi; exact ⟨_, rfl, i40⟩
    | i + 4, hi => simp at hi
  refine sG rfl rfl ?_
  refine sBuild B24_1 ?_
  refine sG rfl rfl ?_
  obtain ⟨m43, h_, e_⟩ := aw_same rA r41 (by decide) (by decide)
  refine sCall2 rfl call39 rfl rfl h_ ?_
  clear h_
  have x_ : Ext (((((mB.push (.cells true #[.slice qB 3 cB])).push (.cells true (cellsN [0]))).push (.cells true (cellsN [1]))).push (.cells true (cellsN [2]))).push (.cells true #[.slice none 0 0, (.slice (some ⟨(mB.push (.cells true #[.slice qB 3 cB])).size, 0, some 1⟩) 1 1), (.slice (some ⟨((mB.push (.cells true #[.slice qB 3 cB])).push (.cells true (cellsN [0]))).size, 0, some 1⟩) 1 1), (.slice (some ⟨(((mB.push (.cells true #[.slice qB 3 cB])).push (.cells true (cellsN [0]))).push (.cells true (cellsN [1]))).size, 0, some 1⟩) 1 1)])) m43 := e_
  replace E := E.trans x_
  replace hGl := hGl.ext x_
  replace rA := rA.ext x_
  replace gA := x_.cells gA
  replace rB := rB.ext x_
  replace gB := x_.cells gB
  replace i38 := i38.ext x_
  replace i39 := i39.ext x_
  replace i40 := i40.ext x_
  replace r41 := r41.ext x_
  clear x_
  clear e_
  refine sG rfl rfl ?_
  refine sP (v := .bool false) rfl ?_
  refine sP (v := .bool false) rfl ?_
  refine sMv (v := .bool _) rfl ?_
  refine sG rfl rfl ?_
  refine sLdAll A27 S27 rfl gB rfl ?_
  refine sG rfl rfl ?_
  refine sBuildS (c := cellsN [0, 1]) T29 S3 Z3 (by decide) (by decide) (by decide) (by kernel_rfl) (by kernel_rfl) rfl ?_
  have x_ : Ext m43 (m43.push (.cells true (cellsN [0, 1]))) := .push _ _
  replace E := E.trans x_
  replace hGl := hGl.ext x_
  replace rA := rA.ext x_
  replace gA := x_.cells gA
  replace rB := rB.ext x_
  replace gB := x_.cells gB
  clear x_
  have i48 : IntsAt (m43.push (.cells true (cellsN [0, 1]))) (.slice (some ⟨m43.size, 0, some 1⟩) 2 2) (ofs [0, 1]) := new_ints
  refine sG rfl rfl ?_
  refine sBuildS (c := #[.slice none 0 0, .slice none 0 0, (.slice (some ⟨m43.size, 0, some 1⟩) 2 2)]) T25 S29 Z29 (by decide) (by decide) (by decide) (by kernel_rfl) (by kernel_rfl) rfl ?_
  have x_ : Ext (m43.push (.cells true (cellsN [0, 1]))) ((m43.push (.cells true (cellsN [0, 1]))).push (.cells true #[.slice none 0 0, .slice none 0 0, (.slice (some ⟨m43.size, 0, some 1⟩) 2 2)])) := .push _ _
  replace E := E.trans x_
  replace hGl := hGl.ext x_
  replace rA := rA.ext x_
  replace gA := x_.cells gA
  replace rB := rB.ext x_
  replace gB := x_.cells gB
  replace i48 := i48.ext x_
  clear x_
  have r49 : RowsAt ((m43.push (.cells true (cellsN [0, 1]))).push (.cells true #[.slice none 0 0, .slice none 0 0, (.slice (some ⟨m43.size, 0, some 1⟩) 2 2)])) (.slice (some ⟨(m43.push (.cells true (cellsN [0, 1]))).size, 0, some 1⟩) 3 3) [[], [], [0, 1]] := by
    refine .inr ⟨_, 0, 3, true, _, rfl, gP rfl, fun i g hi => ?_⟩
    match i, hi with
    | 0, hi => cases hi; exact ⟨_, rfl, .inl ⟨rfl, .inl rfl⟩⟩
    | 1, hi => cases hi; exact ⟨_, rfl, .inl ⟨rfl, .inl rfl⟩⟩
    | 2, hi => cases hi; exact ⟨_, rfl, i48⟩
    | i + 3, hi => simp at hi
  refine sG rfl rfl ?_
  refine sBuild B24_1 ?_
  refine sG rfl rfl ?_
  obtain ⟨m51, h_, e_⟩ := aw_same rB r49 (by decide) (by decide)
  refine sCall2 rfl call39 rfl rfl h_ ?_
  clear h_
  have x_ : Ext ((m43.push (.cells true (cellsN [0, 1]))).push (.cells true #[.slice none 0 0, .slice none 0 0, (.slice (some ⟨m43.size, 0, some 1⟩) 2 2)])) m51 := e_
  replace E := E.trans x_
  replace hGl := hGl.ext x_
  replace rA := rA.ext x_
  replace gA := x_.cells gA
  replace rB := rB.ext x_
  replace gB := x_.cells gB
  replace i48 := i48.ext x_
  replace r49 := r49.ext x_
  clear x_
  clear e_
  refine sG rfl rfl ?_
  refine sP (v := .bool false) rfl ?_
  refine sP (v := .bool false) rfl ?_
  refine sNil (kSeqN ?_)
  refine cCondF rfl ?_
  refine cSkip (kSeqN ?_)
  refine cSeq ?_
  refine cRegion ?_
  obtain ⟨wD, mD, h_, rD, e_⟩ := aw_line2 (m := m51)
  obtain ⟨qD, cD, rfl⟩ := rD.len
  refine sCall1 rfl call37 rfl h_ ?_
  clear h_
  have x_ : Ext m51 mD := e_
  replace E := E.trans x_
  replace hGl := hGl.ext x_
  replace rA := rA.ext x_
  replace gA := x_.cells gA
  clear x_
  clear e_
  refine sMv (v := .tuple _) rfl ?_
  refine sP (v := .agg _) rfl ?_   -- extract ['t54', '0']
  refine sP (v := nv _) rfl ?_   -- extract ['t54', '1']
  refine sAlloc Z27 (by kernel_rfl) ?_
  refine sStNA S27 rfl rfl rfl rfl (by kernel_rfl) ?_
  have x_ : Ext mD (mD.push (.cells true #[.slice qD 2 cD])) := .push _ _
  replace E := E.trans x_
  replace hGl := hGl.ext x_
  replace rA := rA.ext x_
  replace gA := x_.cells gA
  replace rD := rD.ext x_
  clear x_
  have gD : Mem.get (mD.push (.cells true #[.slice qD 2 cD])) mD.size = .cells true #[.slice qD 2 cD] := gP rfl
  refine sAs (v := nv _) rfl ?_
  refine sNil (kSeqN ?_)
  refine cSeq ?_
  refine cRegion ?_
  refine sLdAll A27 S27 rfl gD rfl ?_
  refine sBuildS (c := cellsN [0, 1, 0]) T29 S3 Z3 (by decide) (by decide) (by decide) (by kernel_rfl) (by kernel_rfl) rfl ?_
  have x_ : Ext (mD.push (.cells true #[.slice qD 2 cD])) ((mD.push (.cells true #[.slice qD 2 cD])).push (.cells true (cellsN [0, 1, 0]))) := .push _ _
  replace E := E.trans x_
  replace hGl := hGl.ext x_
  replace rA := rA.ext x_
  replace gA := x_.cells gA
  replace rD := rD.ext x_
  replace gD := x_.cells gD
  clear x_
  have j : IntsAt ((mD.push (.cells true #[.slice qD 2 cD])).push (.cells true (cellsN [0, 1, 0]))) (.slice (some ⟨(mD.push (.cells true #[.slice qD 2 cD])).size, 0, some 1⟩) 3 3) (ofs [0, 1, 0]) := new_ints
  obtain ⟨w61, m61, h_, i61, e_⟩ := aw_play rD j
  obtain ⟨q61, c61, rfl⟩ := i61.lenN
  refine sCall2 rfl call14 rfl rfl h_ ?_
  clear h_
  have x_ : Ext ((mD.push (.cells true #[.slice qD 2 cD])).push (.cells true (cellsN [0, 1, 0]))) m61 := e_
  replace E := E.trans x_
  replace hGl := hGl.ext x_
  replace rA := rA.ext x_
  replace gA := x_.cells gA
  replace rD := rD.ext x_
  replace gD := x_.cells gD
  replace j := j.ext x_
  clear x_
  clear e_
  refine sMv (v := .tuple _) rfl ?_
  refine sP (v := .slice _ _ _) rfl ?_   -- extract ['t58', '0']
  refine sP (v := nv _) rfl ?_   -- extract ['t58', '1']
  refine sAs (v := .slice _ _ _) rfl ?_
  refine sAs (v := nv _) rfl ?_
  refine sNil (kSeqN ?_)
  refine cSeq ?_
  refine cRegion ?_
  refine sLdAll A27 S27 rfl gD rfl ?_
  refine sBuildS (c := cellsN [1]) T29 S3 Z3 (by decide) (by decide) (by decide) (by kernel_rfl) (by kernel_rfl) rfl ?_
  have x_ : Ext m61 (m61.push (.cells true (cellsN [1]))) := .push _ _
  replace E := E.trans x_
  replace hGl := hGl.ext x_
  replace rA := rA.ext x_
  replace gA := x_.cells gA
  replace rD := rD.ext x_
  replace gD := x_.cells gD
  replace i61 := i61.ext x_
  clear x_
  have j : IntsAt (m61.push (.cells true (cellsN [1]))) (.slice (some ⟨m61.size, 0, some 1⟩) 1 1) (ofs [1]) := new_ints
  obtain ⟨w67, m67, h_, ⟨q67, n67, c67, rfl⟩, e_⟩ := aw_play1 rD j
  refine sCall2 rfl call14 rfl rfl h_ ?_
  clear h_
  have x_ : Ext (m61.push (.cells true (cellsN [1]))) m67 := e_
  replace E := E.trans x_
  replace hGl := hGl.ext x_
  replace rA := rA.ext x_
  replace gA := x_.cells gA
  replace rD := rD.ext x_
  replace gD := x_.cells gD
  replace i61 := i61.ext x_
  replace j := j.ext x_
  clear x_
  clear e_
  refine sMv (v := .tuple _) rfl ?_
  refine sP (v := .slice _ _ _) rfl ?_   -- extract ['t64', '0']
  refine sP (v := nv _) rfl ?_   -- extract ['t64', '1']
  refine sAs (v := nv _) rfl ?_
  refine sNil (kSeqN ?_)
  refine cSeq ?_
  refine cRegion ?_
  obtain ⟨w71, m71, h_, i71, e_⟩ := aw_ben (m := m67)
  obtain ⟨q71, c71, rfl⟩ := i71.lenN
  refine sCall1 rfl call40 rfl h_ ?_
  clear h_
  have x_ : Ext m67 m71 := e_
  replace E := E.trans x_
  replace hGl := hGl.ext x_
  replace rA := rA.ext x_
  replace gA := x_.cells gA
  replace rD := rD.ext x_
  replace gD := x_.cells gD
  replace i61 := i61.ext x_
  clear x_
  clear e_
  refine sMv (v := .tuple _) rfl ?_
  refine sP (v := .slice _ _ _) rfl ?_   -- extract ['t70', '0']
  refine sP (v := nv _) rfl ?_   -- extract ['t70', '1']
  refine sAs (v := .slice _ _ _) rfl ?_
  refine sAs (v := nv _) rfl ?_
  refine sNil (kSeqN ?_)
  refine cSeq ?_
  refine cRegion ?_
  refine sLdAll A27 S27 rfl gA rfl ?_
  refine sBuildS (c := cellsN [3]) T29 S3 Z3 (by decide) (by decide) (by decide) (by kernel_rfl) (by kernel_rfl) rfl ?_
  have x_ : Ext m71 (m71.push (.cells true (cellsN [3]))) := .push _ _
  replace E := E.trans x_
  replace hGl := hGl.ext x_
  replace rA := rA.ext x_
  replace gA := x_.cells gA
  replace rD := rD.ext x_
  replace gD := x_.cells gD
  replace i61 := i61.ext x_
  replace i71 := i71.ext x_
  clear x_
  have j : IntsAt (m71.push (.cells true (cellsN [3]))) (.slice (some ⟨m71.size, 0, some 1⟩) 1 1) (ofs [3]) := new_ints
  obtain ⟨w77, m77, h_, i77, e_⟩ := aw_plain rA j
  obtain ⟨q77, c77, rfl⟩ := i77.lenN
  refine sCall2 rfl call8 rfl rfl h_ ?_
  clear h_
  have x_ : Ext (m71.push (.cells true (cellsN [3]))) m77 := e_
  replace E := E.trans x_
  replace hGl := hGl.ext x_
  replace rA := rA.ext x_
  replace gA := x_.cells gA
  replace rD := rD.ext x_
  replace gD := x_.cells gD
  replace i61 := i61.ext x_
  replace i71 := i71.ext x_
  replace j := j.ext x_
  clear x_
  clear e_
  refine sMv (v := .tuple _) rfl ?_
  refine sP (v := .slice _ _ _) rfl ?_   -- extract ['t74', '0']
  refine sP (v := nv _) rfl ?_   -- extract ['t74', '1']
  refine sAs (v := .slice _ _ _) rfl ?_
  refine sAs (v := nv _) rfl ?_
  refine sNil (kSeqN ?_)
  refine cSeq ?_
  refine cRegion ?_
  refine sLdAll A27 S27 rfl gA rfl ?_
  refine sBuildS (c := cellsN [3]) T29 S3 Z3 (by decide) (by decide) (by decide) (by kernel_rfl) (by kernel_rfl) rfl ?_
  have x_ : Ext m77 (m77.push (.cells true (cellsN [3]))) := .push _ _
  replace E := E.trans x_
  replace hGl := hGl.ext x_
  replace rA := rA.ext x_
  replace gA := x_.cells gA
  replace rD := rD.ext x_
  replace gD := x_.cells gD
  replace i61 := i61.ext x_
  replace i71 := i71.ext x_
  replace i77 := i77.ext x_
  clear x_
  have j : IntsAt (m77.push (.cells true (cellsN [3]))) (.slice (some ⟨m77.size, 0, some 1⟩) 1 1) (ofs [3]) := new_ints
  obtain ⟨m83, h_, e_⟩ := aw_least rA j
  refine sCall2 rfl call41 rfl rfl h_ ?_
  clear h_
  have x_ : Ext (m77.push (.cells true (cellsN [3]))) m83 := e_
  replace E := E.trans x_
  replace hGl := hGl.ext x_
  replace rA := rA.ext x_
  replace gA := x_.cells gA
  replace rD := rD.ext x_
  replace gD := x_.cells gD
  replace i61 := i61.ext x_
  replace i71 := i71.ext x_
  replace i77 := i77.ext x_
  replace j := j.ext x_
  clear x_
  clear e_
  refine sMv (v := .tuple _) rfl ?_
  refine sP (v := nv _) rfl ?_   -- extract ['t80', '0']
  refine sP (v := nv _) rfl ?_   -- extract ['t80', '1']
  refine sAs (v := nv _) rfl ?_
  refine sAs (v := nv _) rfl ?_
  refine sNil (kSeqN ?_)
  refine cSeq ?_
  refine cRegion ?_
  refine sLdAll A27 S27 rfl gA rfl ?_
  refine sBuildS (c := cellsN [0, 1, 2, 3, 2, 1, 0]) T29 S3 Z3 (by decide) (by decide) (by decide) (by kernel_rfl) (by kernel_rfl) rfl ?_
  have x_ : Ext m83 (m83.push (.cells true (cellsN [0, 1, 2, 3, 2, 1, 0]))) := .push _ _
  replace E := E.trans x_
  replace hGl := hGl.ext x_
  replace rA := rA.ext x_
  replace gA := x_.cells gA
  replace rD := rD.ext x_
  replace gD := x_.cells gD
  replace i61 := i61.ext x_
  replace i71 := i71.ext x_
  replace i77 := i77.ext x_
  clear x_
  have j : IntsAt (m83.push (.cells true (cellsN [0, 1, 2, 3, 2, 1, 0]))) (.slice (some ⟨m83.size, 0, some 1⟩) 7 7) (ofs [0, 1, 2, 3, 2, 1, 0]) := new_ints
  obtain ⟨m89, h_, e_⟩ := aw_most rA j
  refine sCall2 rfl call42 rfl rfl h_ ?_
  clear h_
  have x_ : Ext (m83.push (.cells true (cellsN [0, 1, 2, 3, 2, 1, 0]))) m89 := e_
  replace E := E.trans x_
  replace hGl := hGl.ext x_
  replace rA := rA.ext x_
  replace gA := x_.cells gA
  replace rD := rD.ext x_
  replace gD := x_.cells gD
  replace i61 := i61.ext x_
  replace i71 := i71.ext x_
  replace i77 := i77.ext x_
  replace j := j.ext x_
  clear x_
  clear e_
  refine sMv (v := .tuple _) rfl ?_
  refine sP (v := nv _) rfl ?_   -- extract ['t86', '0']
  refine sP (v := nv _) rfl ?_   -- extract ['t86', '1']
  refine sAs (v := nv _) rfl ?_
  refine sAs (v := nv _) rfl ?_
  refine sNil (kSeqN ?_)
  refine cSeq ?_   -- seq 12
  refine cSeq ?_
  refine cRegion ?_
  refine sMv (v := .slice _ _ _) rfl ?_
  refine sMv (v := nv _) rfl ?_
  refine sBuildS (c := cellsN [0, 1, 3, 2]) T29 S3 Z3 (by decide) (by decide) (by decide) (by kernel_rfl) (by kernel_rfl) rfl ?_
  have x_ : Ext m89 (m89.push (.cells true (cellsN [0, 1, 3, 2]))) := .push _ _
  replace E := E.trans x_
  replace hGl := hGl.ext x_
  replace rA := rA.ext x_
  replace gA := x_.cells gA
  replace rD := rD.ext x_
  replace gD := x_.cells gD
  replace i61 := i61.ext x_
  replace i71 := i71.ext x_
  replace i77 := i77.ext x_
  clear x_
  have j : IntsAt (m89.push (.cells true (cellsN [0, 1, 3, 2]))) (.slice (some ⟨m89.size, 0, some 1⟩) 4 4) (ofs [0, 1, 3, 2]) := new_ints
  refine sCall3 rfl call43 rfl rfl rfl (aw_known i61 j (by decide)) ?_
  refine sP (v := .bool false) rfl ?_
  refine sMv (v := .bool _) rfl ?_
  refine sG rfl rfl ?_
  refine sMv (v := nv _) rfl ?_
  refine sG rfl rfl ?_
  refine sBin (v := .bool false) (a := 15) (b := 15) rfl rfl (neqF rfl) ?_
  refine sP (v := .bool false) rfl ?_
  refine sMv (v := .bool _) rfl ?_
  refine sG rfl rfl ?_
  refine sMv (v := .slice _ _ _) rfl ?_
  refine sG rfl rfl ?_
  refine sMv (v := nv _) rfl ?_
  refine sG rfl rfl ?_
  refine sBuildS (c := cellsN [0, 1, 0, 2, 3, 2, 0, 1, 0]) T29 S3 Z3 (by decide) (by decide) (by decide) (by kernel_rfl) (by kernel_rfl) rfl ?_
  have x_ : Ext (m89.push (.cells true (cellsN [0, 1, 3, 2]))) ((m89.push (.cells true (cellsN [0, 1, 3, 2]))).push (.cells true (cellsN [0, 1, 0, 2, 3, 2, 0, 1, 0]))) := .push _ _
  replace E := E.trans x_
  replace hGl := hGl.ext x_
  replace rA := rA.ext x_
  replace gA := x_.cells gA
  replace rD := rD.ext x_
  replace gD := x_.cells gD
  replace i61 := i61.ext x_
  replace i71 := i71.ext x_
  replace i77 := i77.ext x_
  clear x_
  have j : IntsAt ((m89.push (.cells true (cellsN [0, 1, 3, 2]))).push (.cells true (cellsN [0, 1, 0, 2, 3, 2, 0, 1, 0]))) (.slice (some ⟨(m89.push (.cells true (cellsN [0, 1, 3, 2]))).size, 0, some 1⟩) 9 9) (ofs [0, 1, 0, 2, 3, 2, 0, 1, 0]) := new_ints
  refine sG rfl rfl ?_
  refine sCall3 rfl call43 rfl rfl rfl (aw_known i71 j (by decide)) ?_
  refine sG rfl rfl ?_
  refine sP (v := .bool false) rfl ?_
  refine sP (v := .bool false) rfl ?_
  refine sMv (v := .bool _) rfl ?_
  refine sG rfl rfl ?_
  refine sMv (v := .slice _ _ _) rfl ?_
  refine sG rfl rfl ?_
  refine sMv (v := nv _) rfl ?_
  refine sG rfl rfl ?_
  refine sBuildS (c := cellsN [0, 1, 2, 3, 2, 1, 0]) T29 S3 Z3 (by decide) (by decide) (by decide) (by kernel_rfl) (by kernel_rfl) rfl ?_
  have x_ : Ext ((m89.push (.cells true (cellsN [0, 1, 3, 2]))).push (.cells true (cellsN [0, 1, 0, 2, 3, 2, 0, 1, 0]))) (((m89.push (.cells true (cellsN [0, 1, 3, 2]))).push (.cells true (cellsN [0, 1, 0, 2, 3, 2, 0, 1, 0]))).push (.cells true (cellsN [0, 1, 2, 3, 2, 1, 0]))) := .push _ _
  replace E := E.trans x_
  replace hGl := hGl.ext x_
  replace rA := rA.ext x_
  replace gA := x_.cells gA
  replace rD := rD.ext x_
  replace gD := x_.cells gD
  replace i61 := i61.ext x_
  replace i71 := i71.ext x_
  replace i77 := i77.ext x_
  clear x_
  have j : IntsAt (((m89.push (.cells true (cellsN [0, 1, 3, 2]))).push (.cells true (cellsN [0, 1, 0, 2, 3, 2, 0, 1, 0]))).push (.cells true (cellsN [0, 1, 2, 3, 2, 1, 0]))) (.slice (some ⟨((m89.push (.cells true (cellsN [0, 1, 3, 2]))).push (.cells true (cellsN [0, 1, 0, 2, 3, 2, 0, 1, 0]))).size, 0, some 1⟩) 7 7) (ofs [0, 1, 2, 3, 2, 1, 0]) := new_ints
  refine sG rfl rfl ?_
  refine sCall3 rfl call43 rfl rfl rfl (aw_known i77 j (by decide)) ?_
  refine sG rfl rfl ?_
  refine sP (v := .bool false) rfl ?_
  refine sP (v := .bool false) rfl ?_
  refine sMv (v := .bool _) rfl ?_
  refine sG rfl rfl ?_
  refine sMv (v := nv _) rfl ?_
  refine sG rfl rfl ?_
  refine sBin (v := .bool false) (a := 0) (b := 0) rfl rfl (neqF rfl) ?_
  refine sP (v := .bool false) rfl ?_
  refine sMv (v := .bool _) rfl ?_
  refine sG rfl rfl ?_
  refine sMv (v := nv _) rfl ?_
  refine sG rfl rfl ?_
  refine sBin (v := .bool false) (a := 3) (b := 3) rfl rfl (neqF rfl) ?_
  refine sP (v := .bool false) rfl ?_
  refine sMv (v := .bool _) rfl ?_
  refine sG rfl rfl ?_
  refine sMv (v := nv _) rfl ?_
  refine sG rfl rfl ?_
  refine sBin (v := .bool false) (a := 0) (b := 0) rfl rfl (neqF rfl) ?_
  refine sP (v := .bool false) rfl ?_
  refine sMv (v := .bool _) rfl ?_
  refine sG rfl rfl ?_
  refine sMv (v := nv _) rfl ?_
  refine sG rfl rfl ?_
  refine sBin (v := .bool false) (a := 4) (b := 4) rfl rfl (neqF rfl) ?_
  refine sP (v := .bool false) rfl ?_
  refine sNil (kSeqN ?_)
  refine cCondF rfl ?_
  refine cSkip (kSeqN ?_)
  refine cSeq ?_
  refine cRegion ?_
  refine sLdAll A27 S27 rfl gA rfl ?_
  refine sBuildS (c := cellsN [3]) T29 S3 Z3 (by decide) (by decide) (by decide) (by kernel_rfl) (by kernel_rfl) rfl ?_
  have x_ : Ext (((m89.push (.cells true (cellsN [0, 1, 3, 2]))).push (.cells true (cellsN [0, 1, 0, 2, 3, 2, 0, 1, 0]))).push (.cells true (cellsN [0, 1, 2, 3, 2, 1, 0]))) ((((m89.push (.cells true (cellsN [0, 1, 3, 2]))).push (.cells true (cellsN [0, 1, 0, 2, 3, 2, 0, 1, 0]))).push (.cells true (cellsN [0, 1, 2, 3, 2, 1, 0]))).push (.cells true (cellsN [3]))) := .push _ _
  replace E := E.trans x_
  replace hGl := hGl.ext x_
  replace rA := rA.ext x_
  replace gA := x_.cells gA
  replace rD := rD.ext x_
  replace gD := x_.cells gD
  replace i71 := i71.ext x_
  clear x_
  have j : IntsAt ((((m89.push (.cells true (cellsN [0, 1, 3, 2]))).push (.cells true (cellsN [0, 1, 0, 2, 3, 2, 0, 1, 0]))).push (.cells true (cellsN [0, 1, 2, 3, 2, 1, 0]))).push (.cells true (cellsN [3]))) (.slice (some ⟨(((m89.push (.cells true (cellsN [0, 1, 3, 2]))).push (.cells true (cellsN [0, 1, 0, 2, 3, 2, 0, 1, 0]))).push (.cells true (cellsN [0, 1, 2, 3, 2, 1, 0]))).size, 0, some 1⟩) 1 1) (ofs [3]) := new_ints
  obtain ⟨w134, m134, h_, i134, e_⟩ := aw_trade rA j
  obtain ⟨q134, c134, rfl⟩ := i134.len
  refine sCall2 rfl call44 rfl rfl h_ ?_
  clear h_
  have x_ : Ext ((((m89.push (.cells true (cellsN [0, 1, 3, 2]))).push (.cells true (cellsN [0, 1, 0, 2, 3, 2, 0, 1, 0]))).push (.cells true (cellsN [0, 1, 2, 3, 2, 1, 0]))).push (.cells true (cellsN [3]))) m134 := e_
  replace E := E.trans x_
  replace hGl := hGl.ext x_
  replace rA := rA.ext x_
  replace gA := x_.cells gA
  replace rD := rD.ext x_
  replace gD := x_.cells gD
  replace i71 := i71.ext x_
  replace j := j.ext x_
  clear x_
  clear e_
  refine sMv (v := .tuple _) rfl ?_
  refine sP (v := .slice _ _ _) rfl ?_   -- extract ['t131', '0']
  refine sP (v := nv _) rfl ?_   -- extract ['t131', '1']
  refine sAs (v := .slice _ _ _) rfl ?_
  refine sAs (v := nv _) rfl ?_
  refine sNil (kSeqN ?_)
  refine cSeq ?_
  refine cRegion ?_
  refine sLdAll A27 S27 rfl gA rfl ?_
  refine sBuildS (c := cellsN [3]) T29 S3 Z3 (by decide) (by decide) (by decide) (by kernel_rfl) (by kernel_rfl) rfl ?_
  have x_ : Ext m134 (m134.push (.cells true (cellsN [3]))) := .push _ _
  replace E := E.trans x_
  replace hGl := hGl.ext x_
  replace rA := rA.ext x_
  replace gA := x_.cells gA
  replace rD := rD.ext x_
  replace gD := x_.cells gD
  replace i71 := i71.ext x_
  replace i134 := i134.ext x_
  clear x_
  have j : IntsAt (m134.push (.cells true (cellsN [3]))) (.slice (some ⟨m134.size, 0, some 1⟩) 1 1) (ofs [3]) := new_ints
  obtain ⟨w140, m140, h_, i140, e_⟩ := aw_short rA j
  obtain ⟨q140, c140, rfl⟩ := i140.lenN
  refine sCall3 rfl call9 rfl rfl rfl h_ ?_
  clear h_
  have x_ : Ext (m134.push (.cells true (cellsN [3]))) m140 := e_
  replace E := E.trans x_
  replace hGl := hGl.ext x_
  replace rA := rA.ext x_
  replace gA := x_.cells gA
  replace rD := rD.ext x_
  replace gD := x_.cells gD
  replace i71 := i71.ext x_
  replace i134 := i134.ext x_
  replace j := j.ext x_
  clear x_
  clear e_
  refine sMv (v := .tuple _) rfl ?_
  refine sP (v := .slice _ _ _) rfl ?_   -- extract ['t137', '0']
  refine sP (v := nv _) rfl ?_   -- extract ['t137', '1']
  refine sAs (v := .slice _ _ _) rfl ?_
  refine sAs (v := nv _) rfl ?_
  refine sNil (kSeqN ?_)
  refine cSeq ?_
  refine cRegion ?_
  refine sLdAll A27 S27 rfl gA rfl ?_
  obtain ⟨w145, m145, h_, i145, e_⟩ := aw_closed rA
  obtain ⟨q145, c145, rfl⟩ := i145.lenN
  refine sCall2 rfl call45 rfl rfl h_ ?_
  clear h_
  have x_ : Ext m140 m145 := e_
  replace E := E.trans x_
  replace hGl := hGl.ext x_
  replace rA := rA.ext x_
  replace gA := x_.cells gA
  replace rD := rD.ext x_
  replace gD := x_.cells gD
  replace i71 := i71.ext x_
  replace i134 := i134.ext x_
  replace i140 := i140.ext x_
  clear x_
  clear e_
  refine sMv (v := .tuple _) rfl ?_
  refine sP (v := .slice _ _ _) rfl ?_   -- extract ['t143', '0']
  refine sP (v := nv _) rfl ?_   -- extract ['t143', '1']
  refine sAs (v := .slice _ _ _) rfl ?_
  refine sAs (v := nv _) rfl ?_
  refine sNil (kSeqN ?_)
  refine cSeq ?_
  refine cRegion ?_
  refine sLdAll A27 S27 rfl gA rfl ?_
  refine sBuildS (c := cellsN [3]) T29 S3 Z3 (by decide) (by decide) (by decide) (by kernel_rfl) (by kernel_rfl) rfl ?_
  have x_ : Ext m145 (m145.push (.cells true (cellsN [3]))) := .push _ _
  replace E := E.trans x_
  replace hGl := hGl.ext x_
  replace rA := rA.ext x_
  replace gA := x_.cells gA
  replace rD := rD.ext x_
  replace gD := x_.cells gD
  replace i71 := i71.ext x_
  replace i134 := i134.ext x_
  replace i140 := i140.ext x_
  replace i145 := i145.ext x_
  clear x_
  have j : IntsAt (m145.push (.cells true (cellsN [3]))) (.slice (some ⟨m145.size, 0, some 1⟩) 1 1) (ofs [3]) := new_ints
  refine sBuildS (c := cellsN [0, 1, 2, 3, 6]) T29 S3 Z3 (by decide) (by decide) (by decide) (by kernel_rfl) (by kernel_rfl) rfl ?_
  have x_ : Ext (m145.push (.cells true (cellsN [3]))) ((m145.push (.cells true (cellsN [3]))).push (.cells true (cellsN [0, 1, 2, 3, 6]))) := .push _ _
  replace E := E.trans x_
  replace hGl := hGl.ext x_
  replace rA := rA.ext x_
  replace gA := x_.cells gA
  replace rD := rD.ext x_
  replace gD := x_.cells gD
  replace i71 := i71.ext x_
  replace i134 := i134.ext x_
  replace i140 := i140.ext x_
  replace i145 := i145.ext x_
  replace j := j.ext x_
  clear x_
  have j2 : IntsAt ((m145.push (.cells true (cellsN [3]))).push (.cells true (cellsN [0, 1, 2, 3, 6]))) (.slice (some ⟨(m145.push (.cells true (cellsN [3]))).size, 0, some 1⟩) 5 5) (ofs [0, 1, 2, 3, 6]) := new_ints
  obtain ⟨m152, h_, e_⟩ := aw_shows hGl rA j j2
  refine sCall4 rfl call46 rfl rfl rfl rfl h_ ?_
  clear h_
  have x_ : Ext ((m145.push (.cells true (cellsN [3]))).push (.cells true (cellsN [0, 1, 2, 3, 6]))) m152 := e_
  replace E := E.trans x_
  replace hGl := hGl.ext x_
  replace rA := rA.ext x_
  replace gA := x_.cells gA
  replace rD := rD.ext x_
  replace gD := x_.cells gD
  replace i71 := i71.ext x_
  replace i134 := i134.ext x_
  replace i140 := i140.ext x_
  replace i145 := i145.ext x_
  replace j := j.ext x_
  replace j2 := j2.ext x_
  clear x_
  clear e_
  refine sMv (v := .tuple _) rfl ?_
  refine sP (v := .bool _) rfl ?_   -- extract ['t148', '0']
  refine sP (v := nv _) rfl ?_   -- extract ['t148', '1']
  refine sAs (v := .bool _) rfl ?_
  refine sAs (v := nv _) rfl ?_
  refine sNil (kSeqN ?_)
  refine cSeq ?_
  refine cRegion ?_
  refine sLdAll A27 S27 rfl gD rfl ?_
  refine sBuildS (c := cellsN [0, 1, 0]) T29 S3 Z3 (by decide) (by decide) (by decide) (by kernel_rfl) (by kernel_rfl) rfl ?_
  have x_ : Ext m152 (m152.push (.cells true (cellsN [0, 1, 0]))) := .push _ _
  replace E := E.trans x_
  replace hGl := hGl.ext x_
  replace rA := rA.ext x_
  replace gA := x_.cells gA
  replace rD := rD.ext x_
  replace gD := x_.cells gD
  replace i71 := i71.ext x_
  replace i134 := i134.ext x_
  replace i140 := i140.ext x_
  replace i145 := i145.ext x_
  clear x_
  have j : IntsAt (m152.push (.cells true (cellsN [0, 1, 0]))) (.slice (some ⟨m152.size, 0, some 1⟩) 3 3) (ofs [0, 1, 0]) := new_ints
  obtain ⟨w158, m158, h_, i158, e_⟩ := aw_circ rD j
  obtain ⟨q158, c158, rfl⟩ := i158.len
  refine sCall2 rfl call10 rfl rfl h_ ?_
  clear h_
  have x_ : Ext (m152.push (.cells true (cellsN [0, 1, 0]))) m158 := e_
  replace E := E.trans x_
  replace hGl := hGl.ext x_
  replace rA := rA.ext x_
  replace gA := x_.cells gA
  replace rD := rD.ext x_
  replace gD := x_.cells gD
  replace i71 := i71.ext x_
  replace i134 := i134.ext x_
  replace i140 := i140.ext x_
  replace i145 := i145.ext x_
  replace j := j.ext x_
  clear x_
  clear e_
  refine sMv (v := .tuple _) rfl ?_
  refine sP (v := .agg _) rfl ?_   -- extract ['t155', '0']
  refine sP (v := nv _) rfl ?_   -- extract ['t155', '1']
  refine sAlloc Z38 (by kernel_rfl) ?_
  refine sStNA S38 rfl rfl rfl rfl (by kernel_rfl) ?_
  have x_ : Ext m158 (m158.push (.cells true #[nv 2, nv 0, .slice q158 3 c158])) := .push _ _
  replace E := E.trans x_
  replace hGl := hGl.ext x_
  replace rA := rA.ext x_
  replace gA := x_.cells gA
  replace rD := rD.ext x_
  replace gD := x_.cells gD
  replace i71 := i71.ext x_
  replace i134 := i134.ext x_
  replace i140 := i140.ext x_
  replace i145 := i145.ext x_
  replace i158 := i158.ext x_
  clear x_
  have gE : Mem.get (m158.push (.cells true #[nv 2, nv 0, .slice q158 3 c158])) m158.size = .cells true #[nv 2, nv 0, .slice q158 3 c158] := gP rfl
  refine sAs (v := nv _) rfl ?_
  refine sNil (kSeqN ?_)
  refine cSeq ?_
  refine cRegion ?_
  refine sBuildS (c := cellsN [0]) T29 S3 Z3 (by decide) (by decide) (by decide) (by kernel_rfl) (by kernel_rfl) rfl ?_
  have x_ : Ext (m158.push (.cells true #[nv 2, nv 0, .slice q158 3 c158])) ((m158.push (.cells true #[nv 2, nv 0, .slice q158 3 c158])).push (.cells true (cellsN [0]))) := .push _ _
  replace E := E.trans x_
  replace hGl := hGl.ext x_
  replace rA := rA.ext x_
  replace gA := x_.cells gA
  replace rD := rD.ext x_
  replace gD := x_.cells gD
  replace i71 := i71.ext x_
  replace i134 := i134.ext x_
  replace i140 := i140.ext x_
  replace i145 := i145.ext x_
  replace i158 := i158.ext x_
  replace gE := x_.cells gE
  clear x_
  have i1 : IntsAt ((m158.push (.cells true #[nv 2, nv 0, .slice q158 3 c158])).push (.cells true (cellsN [0]))) (.slice (some ⟨(m158.push (.cells true #[nv 2, nv 0, .slice q158 3 c158])).size, 0, some 1⟩) 1 1) (ofs [0]) := new_ints
  refine sBuild B76 ?_
  refine sBuildS (c := cellsN [0, 1]) T29 S3 Z3 (by decide) (by decide) (by decide) (by kernel_rfl) (by kernel_rfl) rfl ?_
  have x_ : Ext ((m158.push (.cells true #[nv 2, nv 0, .slice q158 3 c158])).push (.cells true (cellsN [0]))) (((m158.push (.cells true #[nv 2, nv 0, .slice q158 3 c158])).push (.cells true (cellsN [0]))).push (.cells true (cellsN [0, 1]))) := .push _ _
  replace E := E.trans x_
  replace hGl := hGl.ext x_
  replace rA := rA.ext x_
  replace gA := x_.cells gA
  replace rD := rD.ext x_
  replace gD := x_.cells gD
  replace i71 := i71.ext x_
  replace i134 := i134.ext x_
  replace i140 := i140.ext x_
  replace i145 := i145.ext x_
  replace i158 := i158.ext x_
  replace gE := x_.cells gE
  replace i1 := i1.ext x_
  clear x_
  have i2 : IntsAt (((m158.push (.cells true #[nv 2, nv 0, .slice q158 3 c158])).push (.cells true (cellsN [0]))).push (.cells true (cellsN [0, 1]))) (.slice (some ⟨((m158.push (.cells true #[nv 2, nv 0, .slice q158 3 c158])).push (.cells true (cellsN [0]))).size, 0, some 1⟩) 2 2) (ofs [0, 1]) := new_ints
  refine sBuild B76 ?_
  refine sBuildS (c := cellsN [0]) T29 S3 Z3 (by decide) (by decide) (by decide) (by kernel_rfl) (by kernel_rfl) rfl ?_
  have x_ : Ext (((m158.push (.cells true #[nv 2, nv 0, .slice q158 3 c158])).push (.cells true (cellsN [0]))).push (.cells true (cellsN [0, 1]))) ((((m158.push (.cells true #[nv 2, nv 0, .slice q158 3 c158])).push (.cells true (cellsN [0]))).push (.cells true (cellsN [0, 1]))).push (.cells true (cellsN [0]))) := .push _ _
  replace E := E.trans x_
  replace hGl := hGl.ext x_
  replace rA := rA.ext x_
  replace gA := x_.cells gA
  replace rD := rD.ext x_
  replace gD := x_.cells gD
  replace i71 := i71.ext x_
  replace i134 := i134.ext x_
  replace i140 := i140.ext x_
  replace i145 := i145.ext x_
  replace i158 := i158.ext x_
  replace gE := x_.cells gE
  replace i1 := i1.ext x_
  replace i2 := i2.ext x_
  clear x_
  have i3 : IntsAt ((((m158.push (.cells true #[nv 2, nv 0, .slice q158 3 c158])).push (.cells true (cellsN [0]))).push (.cells true (cellsN [0, 1]))).push (.cells true (cellsN [0]))) (.slice (some ⟨(((m158.push (.cells true #[nv 2, nv 0, .slice q158 3 c158])).push (.cells true (cellsN [0]))).push (.cells true (cellsN [0, 1]))).size, 0, some 1⟩) 1 1) (ofs [0]) := new_ints
  refine sBuild B76 ?_
  refine sBuildS (c := #[nv 1, (.slice (some ⟨(m158.push (.cells true #[nv 2, nv 0, .slice q158 3 c158])).size, 0, some 1⟩) 1 1), nv 0, nv 0, nv 9, (.slice (some ⟨((m158.push (.cells true #[nv 2, nv 0, .slice q158 3 c158])).push (.cells true (cellsN [0]))).size, 0, some 1⟩) 2 2), nv 0, nv 0, nv 1, (.slice (some ⟨(((m158.push (.cells true #[nv 2, nv 0, .slice q158 3 c158])).push (.cells true (cellsN [0]))).push (.cells true (cellsN [0, 1]))).size, 0, some 1⟩) 1 1), nv 0, nv 0]) T36 S67 Z67 (by decide) (by decide) (by decide) (by kernel_rfl) (by kernel_rfl) rfl ?_
  have x_ : Ext ((((m158.push (.cells true #[nv 2, nv 0, .slice q158 3 c158])).push (.cells true (cellsN [0]))).push (.cells true (cellsN [0, 1]))).push (.cells true (cellsN [0]))) (((((m158.push (.cells true #[nv 2, nv 0, .slice q158 3 c158])).push (.cells true (cellsN [0]))).push (.cells true (cellsN [0, 1]))).push (.cells true (cellsN [0]))).push (.cells true #[nv 1, (.slice (some ⟨(m158.push (.cells true #[nv 2, nv 0, .slice q158 3 c158])).size, 0, some 1⟩) 1 1), nv 0, nv 0, nv 9, (.slice (some ⟨((m158.push (.cells true #[nv 2, nv 0, .slice q158 3 c158])).push (.cells true (cellsN [0]))).size, 0, some 1⟩) 2 2), nv 0, nv 0, nv 1, (.slice (some ⟨(((m158.push (.cells true #[nv 2, nv 0, .slice q158 3 c158])).push (.cells true (cellsN [0]))).push (.cells true (cellsN [0, 1]))).size, 0, some 1⟩) 1 1), nv 0, nv 0])) := .push _ _
  replace E := E.trans x_
  replace hGl := hGl.ext x_
  replace rA := rA.ext x_
  replace gA := x_.cells gA
  replace rD := rD.ext x_
  replace gD := x_.cells gD
  replace i71 := i71.ext x_
  replace i134 := i134.ext x_
  replace i140 := i140.ext x_
  replace i145 := i145.ext x_
  replace i158 := i158.ext x_
  replace gE := x_.cells gE
  replace i1 := i1.ext x_
  replace i2 := i2.ext x_
  replace i3 := i3.ext x_
  clear x_
  have iG : GatesAt (((((m158.push (.cells true #[nv 2, nv 0, .slice q158 3 c158])).push (.cells true (cellsN [0]))).push (.cells true (cellsN [0, 1]))).push (.cells true (cellsN [0]))).push (.cells true #[nv 1, (.slice (some ⟨(m158.push (.cells true #[nv 2, nv 0, .slice q158 3 c158])).size, 0, some 1⟩) 1 1), nv 0, nv 0, nv 9, (.slice (some ⟨((m158.push (.cells true #[nv 2, nv 0, .slice q158 3 c158])).push (.cells true (cellsN [0]))).size, 0, some 1⟩) 2 2), nv 0, nv 0, nv 1, (.slice (some ⟨(((m158.push (.cells true #[nv 2, nv 0, .slice q158 3 c158])).push (.cells true (cellsN [0]))).push (.cells true (cellsN [0, 1]))).size, 0, some 1⟩) 1 1), nv 0, nv 0])) (.slice (some ⟨((((m158.push (.cells true #[nv 2, nv 0, .slice q158 3 c158])).push (.cells true (cellsN [0]))).push (.cells true (cellsN [0, 1]))).push (.cells true (cellsN [0]))).size, 0, some 4⟩) 3 3) circ2 := by
    refine .inr ⟨_, 3, true, _, rfl, gP rfl, fun i g hi => ?_⟩
    match i, hi with
    | 0, hi => cases hi; exact ⟨⟨_, rfl, i1⟩, by simp⟩
    | 1, hi => cases hi; exact ⟨⟨_, rfl, i2⟩, by simp⟩
    | 2, hi => cases hi; exact ⟨⟨_, rfl, i3⟩, by simp⟩
    | i + 3, hi => simp at hi
  refine sBuild B57_2 ?_
  refine sAlloc Z38 (by kernel_rfl) ?_
  refine sStNA S38 rfl rfl rfl rfl (by kernel_rfl) ?_
  have x_ : Ext (((((m158.push (.cells true #[nv 2, nv 0, .slice q158 3 c158])).push (.cells true (cellsN [0]))).push (.cells true (cellsN [0, 1]))).push (.cells true (cellsN [0]))).push (.cells true #[nv 1, (.slice (some ⟨(m158.push (.cells true #[nv 2, nv 0, .slice q158 3 c158])).size, 0, some 1⟩) 1 1), nv 0, nv 0, nv 9, (.slice (some ⟨((m158.push (.cells true #[nv 2, nv 0, .slice q158 3 c158])).push (.cells true (cellsN [0]))).size, 0, some 1⟩) 2 2), nv 0, nv 0, nv 1, (.slice (some ⟨(((m158.push (.cells true #[nv 2, nv 0, .slice q158 3 c158])).push (.cells true (cellsN [0]))).push (.cells true (cellsN [0, 1]))).size, 0, some 1⟩) 1 1), nv 0, nv 0])) ((((((m158.push (.cells true #[nv 2, nv 0, .slice q158 3 c158])).push (.cells true (cellsN [0]))).push (.cells true (cellsN [0, 1]))).push (.cells true (cellsN [0]))).push (.cells true #[nv 1, (.slice (some ⟨(m158.push (.cells true #[nv 2, nv 0, .slice q158 3 c158])).size, 0, some 1⟩) 1 1), nv 0, nv 0, nv 9, (.slice (some ⟨((m158.push (.cells true #[nv 2, nv 0, .slice q158 3 c158])).push (.cells true (cellsN [0]))).size, 0, some 1⟩) 2 2), nv 0, nv 0, nv 1, (.slice (some ⟨(((m158.push (.cells true #[nv 2, nv 0, .slice q158 3 c158])).push (.cells true (cellsN [0]))).push (.cells true (cellsN [0, 1]))).size, 0, some 1⟩) 1 1), nv 0, nv 0])).push (.cells true #[nv 2, nv 0, .slice (some ⟨((((m158.push (.cells true #[nv 2, nv 0, .slice q158 3 c158])).push (.cells true (cellsN [0]))).push (.cells true (cellsN [0, 1]))).push (.cells true (cellsN [0]))).size, 0, some 4⟩) 3 3])) := .push _ _
  replace E := E.trans x_
  replace hGl := hGl.ext x_
  replace rA := rA.ext x_
  replace gA := x_.cells gA
  replace rD := rD.ext x_
  replace gD := x_.cells gD
  replace i71 := i71.ext x_
  replace i134 := i134.ext x_
  replace i140 := i140.ext x_
  replace i145 := i145.ext x_
  replace i158 := i158.ext x_
  replace gE := x_.cells gE
  replace iG := iG.ext x_
  clear x_
  have gF : Mem.get ((((((m158.push (.cells true #[nv 2, nv 0, .slice q158 3 c158])).push (.cells true (cellsN [0]))).push (.cells true (cellsN [0, 1]))).push (.cells true (cellsN [0]))).push (.cells true #[nv 1, (.slice (some ⟨(m158.push (.cells true #[nv 2, nv 0, .slice q158 3 c158])).size, 0, some 1⟩) 1 1), nv 0, nv 0, nv 9, (.slice (some ⟨((m158.push (.cells true #[nv 2, nv 0, .slice q158 3 c158])).push (.cells true (cellsN [0]))).size, 0, some 1⟩) 2 2), nv 0, nv 0, nv 1, (.slice (some ⟨(((m158.push (.cells true #[nv 2, nv 0, .slice q158 3 c158])).push (.cells true (cellsN [0]))).push (.cells true (cellsN [0, 1]))).size, 0, some 1⟩) 1 1), nv 0, nv 0])).push (.cells true #[nv 2, nv 0, .slice (some ⟨((((m158.push (.cells true #[nv 2, nv 0, .slice q158 3 c158])).push (.cells true (cellsN [0]))).push (.cells true (cellsN [0, 1]))).push (.cells true (cellsN [0]))).size, 0, some 4⟩) 3 3])) (((((m158.push (.cells true #[nv 2, nv 0, .slice q158 3 c158])).push (.cells true (cellsN [0]))).push (.cells true (cellsN [0, 1]))).push (.cells true (cellsN [0]))).push (.cells true #[nv 1, (.slice (some ⟨(m158.push (.cells true #[nv 2, nv 0, .slice q158 3 c158])).size, 0, some 1⟩) 1 1), nv 0, nv 0, nv 9, (.slice (some ⟨((m158.push (.cells true #[nv 2, nv 0, .slice q158 3 c158])).push (.cells true (cellsN [0]))).size, 0, some 1⟩) 2 2), nv 0, nv 0, nv 1, (.slice (some ⟨(((m158.push (.cells true #[nv 2, nv 0, .slice q158 3 c158])).push (.cells true (cellsN [0]))).push (.cells true (cellsN [0, 1]))).size, 0, some 1⟩) 1 1), nv 0, nv 0])).size = .cells true #[nv 2, nv 0, .slice (some ⟨((((m158.push (.cells true #[nv 2, nv 0, .slice q158 3 c158])).push (.cells true (cellsN [0]))).push (.cells true (cellsN [0, 1]))).push (.cells true (cellsN [0]))).size, 0, some 4⟩) 3 3] := gP rfl
  refine sNil (kSeqN ?_)
  refine cSeq ?_
  refine cRegion ?_
  refine sMv (v := nv _) rfl ?_
  refine sBin (v := .bool true) (a := 0) (b := 0) rfl rfl (eqlT rfl) ?_
  refine sMv (v := .bool _) rfl ?_
  refine sG rfl rfl ?_
  refine sMv (v := .slice _ _ _) rfl ?_
  refine sG rfl rfl ?_
  refine sBuild B40 ?_
  refine sG rfl rfl ?_
  refine sBuild B40 ?_
  refine sG rfl rfl ?_
  refine sBuildS (c := #[nv 3, nv 9, nv 4, nv 7]) T80 S87 Z87 (by decide) (by decide) (by decide) (by kernel_rfl) (by kernel_rfl) rfl ?_
  have x_ : Ext ((((((m158.push (.cells true #[nv 2, nv 0, .slice q158 3 c158])).push (.cells true (cellsN [0]))).push (.cells true (cellsN [0, 1]))).push (.cells true (cellsN [0]))).push (.cells true #[nv 1, (.slice (some ⟨(m158.push (.cells true #[nv 2, nv 0, .slice q158 3 c158])).size, 0, some 1⟩) 1 1), nv 0, nv 0, nv 9, (.slice (some ⟨((m158.push (.cells true #[nv 2, nv 0, .slice q158 3 c158])).push (.cells true (cellsN [0]))).size, 0, some 1⟩) 2 2), nv 0, nv 0, nv 1, (.slice (some ⟨(((m158.push (.cells true #[nv 2, nv 0, .slice q158 3 c158])).push (.cells true (cellsN [0]))).push (.cells true (cellsN [0, 1]))).size, 0, some 1⟩) 1 1), nv 0, nv 0])).push (.cells true #[nv 2, nv 0, .slice (some ⟨((((m158.push (.cells true #[nv 2, nv 0, .slice q158 3 c158])).push (.cells true (cellsN [0]))).push (.cells true (cellsN [0, 1]))).push (.cells true (cellsN [0]))).size, 0, some 4⟩) 3 3])) (((((((m158.push (.cells true #[nv 2, nv 0, .slice q158 3 c158])).push (.cells true (cellsN [0]))).push (.cells true (cellsN [0, 1]))).push (.cells true (cellsN [0]))).push (.cells true #[nv 1, (.slice (some ⟨(m158.push (.cells true #[nv 2, nv 0, .slice q158 3 c158])).size, 0, some 1⟩) 1 1), nv 0, nv 0, nv 9, (.slice (some ⟨((m158.push (.cells true #[nv 2, nv 0, .slice q158 3 c158])).push (.cells true (cellsN [0]))).size, 0, some 1⟩) 2 2), nv 0, nv 0, nv 1, (.slice (some ⟨(((m158.push (.cells true #[nv 2, nv 0, .slice q158 3 c158])).push (.cells true (cellsN [0]))).push (.cells true (cellsN [0, 1]))).size, 0, some 1⟩) 1 1), nv 0, nv 0])).push (.cells true #[nv 2, nv 0, .slice (some ⟨((((m158.push (.cells true #[nv 2, nv 0, .slice q158 3 c158])).push (.cells true (cellsN [0]))).push (.cells true (cellsN [0, 1]))).push (.cells true (cellsN [0]))).size, 0, some 4⟩) 3 3])).push (.cells true #[nv 3, nv 9, nv 4, nv 7])) := .push _ _
  replace E := E.trans x_
  replace hGl := hGl.ext x_
  replace rA := rA.ext x_
  replace gA := x_.cells gA
  replace rD := rD.ext x_
  replace gD := x_.cells gD
  replace i71 := i71.ext x_
  replace i134 := i134.ext x_
  replace i140 := i140.ext x_
  replace i145 := i145.ext x_
  replace i158 := i158.ext x_
  replace gE := x_.cells gE
  replace iG := iG.ext x_
  replace gF := x_.cells gF
  clear x_
  have iP : TwosAt (((((((m158.push (.cells true #[nv 2, nv 0, .slice q158 3 c158])).push (.cells true (cellsN [0]))).push (.cells true (cellsN [0, 1]))).push (.cells true (cellsN [0]))).push (.cells true #[nv 1, (.slice (some ⟨(m158.push (.cells true #[nv 2, nv 0, .slice q158 3 c158])).size, 0, some 1⟩) 1 1), nv 0, nv 0, nv 9, (.slice (some ⟨((m158.push (.cells true #[nv 2, nv 0, .slice q158 3 c158])).push (.cells true (cellsN [0]))).size, 0, some 1⟩) 2 2), nv 0, nv 0, nv 1, (.slice (some ⟨(((m158.push (.cells true #[nv 2, nv 0, .slice q158 3 c158])).push (.cells true (cellsN [0]))).push (.cells true (cellsN [0, 1]))).size, 0, some 1⟩) 1 1), nv 0, nv 0])).push (.cells true #[nv 2, nv 0, .slice (some ⟨((((m158.push (.cells true #[nv 2, nv 0, .slice q158 3 c158])).push (.cells true (cellsN [0]))).push (.cells true (cellsN [0, 1]))).push (.cells true (cellsN [0]))).size, 0, some 4⟩) 3 3])).push (.cells true #[nv 3, nv 9, nv 4, nv 7])) (.slice (some ⟨((((((m158.push (.cells true #[nv 2, nv 0, .slice q158 3 c158])).push (.cells true (cellsN [0]))).push (.cells true (cellsN [0, 1]))).push (.cells true (cellsN [0]))).push (.cells true #[nv 1, (.slice (some ⟨(m158.push (.cells true #[nv 2, nv 0, .slice q158 3 c158])).size, 0, some 1⟩) 1 1), nv 0, nv 0, nv 9, (.slice (some ⟨((m158.push (.cells true #[nv 2, nv 0, .slice q158 3 c158])).push (.cells true (cellsN [0]))).size, 0, some 1⟩) 2 2), nv 0, nv 0, nv 1, (.slice (some ⟨(((m158.push (.cells true #[nv 2, nv 0, .slice q158 3 c158])).push (.cells true (cellsN [0]))).push (.cells true (cellsN [0, 1]))).size, 0, some 1⟩) 1 1), nv 0, nv 0])).push (.cells true #[nv 2, nv 0, .slice (some ⟨((((m158.push (.cells true #[nv 2, nv 0, .slice q158 3 c158])).push (.cells true (cellsN [0]))).push (.cells true (cellsN [0, 1]))).push (.cells true (cellsN [0]))).size, 0, some 4⟩) 3 3])).size, 0, some 2⟩) 2 2) [(3, 9), (4, 7)] := by
    refine .inr ⟨_, 2, true, _, rfl, gP rfl, fun i g hi => ?_⟩
    match i, hi with
    | 0, hi => cases hi; exact ⟨rfl, rfl⟩
    | 1, hi => cases hi; exact ⟨rfl, rfl⟩
    | i + 2, hi => simp at hi
  refine sG rfl rfl ?_
  refine sCall2 rfl call47 rfl rfl (aw_sameP i134 iP (by decide)) ?_
  refine sP (v := .bool true) rfl ?_
  refine sMv (v := .bool _) rfl ?_
  refine sG rfl rfl ?_
  refine sMv (v := .slice _ _ _) rfl ?_
  refine sG rfl rfl ?_
  refine sMv (v := nv _) rfl ?_
  refine sG rfl rfl ?_
  refine sMv (v := .slice _ _ _) rfl ?_
  refine sG rfl rfl ?_
  refine sCall3 rfl call43 rfl rfl rfl (aw_known i140 i71 (by decide)) ?_
  refine sP (v := .bool true) rfl ?_
  refine sMv (v := .bool _) rfl ?_
  refine sG rfl rfl ?_
  refine sMv (v := .slice _ _ _) rfl ?_
  refine sG rfl rfl ?_
  refine sMv (v := nv _) rfl ?_
  refine sG rfl rfl ?_
  refine sBuildS (c := cellsN [0, 1, 2, 3, 6]) T29 S3 Z3 (by decide) (by decide) (by decide) (by kernel_rfl) (by kernel_rfl) rfl ?_
  have x_ : Ext (((((((m158.push (.cells true #[nv 2, nv 0, .slice q158 3 c158])).push (.cells true (cellsN [0]))).push (.cells true (cellsN [0, 1]))).push (.cells true (cellsN [0]))).push (.cells true #[nv 1, (.slice (some ⟨(m158.push (.cells true #[nv 2, nv 0, .slice q158 3 c158])).size, 0, some 1⟩) 1 1), nv 0, nv 0, nv 9, (.slice (some ⟨((m158.push (.cells true #[nv 2, nv 0, .slice q158 3 c158])).push (.cells true (cellsN [0]))).size, 0, some 1⟩) 2 2), nv 0, nv 0, nv 1, (.slice (some ⟨(((m158.push (.cells true #[nv 2, nv 0, .slice q158 3 c158])).push (.cells true (cellsN [0]))).push (.cells true (cellsN [0, 1]))).size, 0, some 1⟩) 1 1), nv 0, nv 0])).push (.cells true #[nv 2, nv 0, .slice (some ⟨((((m158.push (.cells true #[nv 2, nv 0, .slice q158 3 c158])).push (.cells true (cellsN [0]))).push (.cells true (cellsN [0, 1]))).push (.cells true (cellsN [0]))).size, 0, some 4⟩) 3 3])).push (.cells true #[nv 3, nv 9, nv 4, nv 7])) ((((((((m158.push (.cells true #[nv 2, nv 0, .slice q158 3 c158])).push (.cells true (cellsN [0]))).push (.cells true (cellsN [0, 1]))).push (.cells true (cellsN [0]))).push (.cells true #[nv 1, (.slice (some ⟨(m158.push (.cells true #[nv 2, nv 0, .slice q158 3 c158])).size, 0, some 1⟩) 1 1), nv 0, nv 0, nv 9, (.slice (some ⟨((m158.push (.cells true #[nv 2, nv 0, .slice q158 3 c158])).push (.cells true (cellsN [0]))).size, 0, some 1⟩) 2 2), nv 0, nv 0, nv 1, (.slice (some ⟨(((m158.push (.cells true #[nv 2, nv 0, .slice q158 3 c158])).push (.cells true (cellsN [0]))).push (.cells true (cellsN [0, 1]))).size, 0, some 1⟩) 1 1), nv 0, nv 0])).push (.cells true #[nv 2, nv 0, .slice (some ⟨((((m158.push (.cells true #[nv 2, nv 0, .slice q158 3 c158])).push (.cells true (cellsN [0]))).push (.cells true (cellsN [0, 1]))).push (.cells true (cellsN [0]))).size, 0, some 4⟩) 3 3])).push (.cells true #[nv 3, nv 9, nv 4, nv 7])).push (.cells true (cellsN [0, 1, 2, 3, 6]))) := .push _ _
  replace E := E.trans x_
  replace hGl := hGl.ext x_
  replace rA := rA.ext x_
  replace gA := x_.cells gA
  replace rD := rD.ext x_
  replace gD := x_.cells gD
  replace i71 := i71.ext x_
  replace i134 := i134.ext x_
  replace i140 := i140.ext x_
  replace i145 := i145.ext x_
  replace i158 := i158.ext x_
  replace gE := x_.cells gE
  replace iG := iG.ext x_
  replace gF := x_.cells gF
  clear x_
  have j : IntsAt ((((((((m158.push (.cells true #[nv 2, nv 0, .slice q158 3 c158])).push (.cells true (cellsN [0]))).push (.cells true (cellsN [0, 1]))).push (.cells true (cellsN [0]))).push (.cells true #[nv 1, (.slice (some ⟨(m158.push (.cells true #[nv 2, nv 0, .slice q158 3 c158])).size, 0, some 1⟩) 1 1), nv 0, nv 0, nv 9, (.slice (some ⟨((m158.push (.cells true #[nv 2, nv 0, .slice q158 3 c158])).push (.cells true (cellsN [0]))).size, 0, some 1⟩) 2 2), nv 0, nv 0, nv 1, (.slice (some ⟨(((m158.push (.cells true #[nv 2, nv 0, .slice q158 3 c158])).push (.cells true (cellsN [0]))).push (.cells true (cellsN [0, 1]))).size, 0, some 1⟩) 1 1), nv 0, nv 0])).push (.cells true #[nv 2, nv 0, .slice (some ⟨((((m158.push (.cells true #[nv 2, nv 0, .slice q158 3 c158])).push (.cells true (cellsN [0]))).push (.cells true (cellsN [0, 1]))).push (.cells true (cellsN [0]))).size, 0, some 4⟩) 3 3])).push (.cells true #[nv 3, nv 9, nv 4, nv 7])).push (.cells true (cellsN [0, 1, 2, 3, 6]))) (.slice (some ⟨(((((((m158.push (.cells true #[nv 2, nv 0, .slice q158 3 c158])).push (.cells true (cellsN [0]))).push (.cells true (cellsN [0, 1]))).push (.cells true (cellsN [0]))).push (.cells true #[nv 1, (.slice (some ⟨(m158.push (.cells true #[nv 2, nv 0, .slice q158 3 c158])).size, 0, some 1⟩) 1 1), nv 0, nv 0, nv 9, (.slice (some ⟨((m158.push (.cells true #[nv 2, nv 0, .slice q158 3 c158])).push (.cells true (cellsN [0]))).size, 0, some 1⟩) 2 2), nv 0, nv 0, nv 1, (.slice (some ⟨(((m158.push (.cells true #[nv 2, nv 0, .slice q158 3 c158])).push (.cells true (cellsN [0]))).push (.cells true (cellsN [0, 1]))).size, 0, some 1⟩) 1 1), nv 0, nv 0])).push (.cells true #[nv 2, nv 0, .slice (some ⟨((((m158.push (.cells true #[nv 2, nv 0, .slice q158 3 c158])).push (.cells true (cellsN [0]))).push (.cells true (cellsN [0, 1]))).push (.cells true (cellsN [0]))).size, 0, some 4⟩) 3 3])).push (.cells true #[nv 3, nv 9, nv 4, nv 7])).size, 0, some 1⟩) 5 5) (ofs [0, 1, 2, 3, 6]) := new_ints
  refine sG rfl rfl ?_
  refine sCall3 rfl call43 rfl rfl rfl (aw_known i145 j (by decide)) ?_
  refine sP (v := .bool true) rfl ?_
  refine sMv (v := .bool _) rfl ?_
  refine sG rfl rfl ?_
  refine sMv (v := nv _) rfl ?_
  refine sG rfl rfl ?_
  refine sBin (v := .bool true) (a := 0) (b := 0) rfl rfl (eqlT rfl) ?_
  refine sP (v := .bool true) rfl ?_
  refine sMv (v := .bool _) rfl ?_
  refine sG rfl rfl ?_
  refine sMv (v := .bool _) rfl ?_
  refine sP (v := .bool true) rfl ?_
  refine sMv (v := .bool _) rfl ?_
  refine sG rfl rfl ?_
  refine sMv (v := nv _) rfl ?_
  refine sG rfl rfl ?_
  refine sBin (v := .bool true) (a := 0) (b := 0) rfl rfl (eqlT rfl) ?_
  refine sP (v := .bool true) rfl ?_
  refine sMv (v := .bool _) rfl ?_
  refine sG rfl rfl ?_
  refine sLdAll A38 S38 rfl gE rfl ?_
  refine sG rfl rfl ?_
  refine sLdAll A38 S38 rfl gF rfl ?_
  refine sG rfl rfl ?_
  obtain ⟨m204, h_, e_⟩ := aw_sameC i158 iG
  refine sCall2 rfl call48 rfl rfl h_ ?_
  clear h_
  have x_ : Ext ((((((((m158.push (.cells true #[nv 2, nv 0, .slice q158 3 c158])).push (.cells true (cellsN [0]))).push (.cells true (cellsN [0, 1]))).push (.cells true (cellsN [0]))).push (.cells true #[nv 1, (.slice (some ⟨(m158.push (.cells true #[nv 2, nv 0, .slice q158 3 c158])).size, 0, some 1⟩) 1 1), nv 0, nv 0, nv 9, (.slice (some ⟨((m158.push (.cells true #[nv 2, nv 0, .slice q158 3 c158])).push (.cells true (cellsN [0]))).size, 0, some 1⟩) 2 2), nv 0, nv 0, nv 1, (.slice (some ⟨(((m158.push (.cells true #[nv 2, nv 0, .slice q158 3 c158])).push (.cells true (cellsN [0]))).push (.cells true (cellsN [0, 1]))).size, 0, some 1⟩) 1 1), nv 0, nv 0])).push (.cells true #[nv 2, nv 0, .slice (some ⟨((((m158.push (.cells true #[nv 2, nv 0, .slice q158 3 c158])).push (.cells true (cellsN [0]))).push (.cells true (cellsN [0, 1]))).push (.cells true (cellsN [0]))).size, 0, some 4⟩) 3 3])).push (.cells true #[nv 3, nv 9, nv 4, nv 7])).push (.cells true (cellsN [0, 1, 2, 3, 6]))) m204 := e_
  replace E := E.trans x_
  replace hGl := hGl.ext x_
  replace rA := rA.ext x_
  replace gA := x_.cells gA
  replace rD := rD.ext x_
  replace gD := x_.cells gD
  replace i71 := i71.ext x_
  replace i134 := i134.ext x_
  replace i140 := i140.ext x_
  replace i145 := i145.ext x_
  replace i158 := i158.ext x_
  replace gE := x_.cells gE
  replace iG := iG.ext x_
  replace gF := x_.cells gF
  clear x_
  clear e_
  refine sP (v := .bool true) rfl ?_
  refine sAs (v := .bool _) rfl ?_
  refine sNil (kSeqN ?_)
  refine cRet ?_
  exact ⟨.inr rfl, _, rfl, rfl, E⟩

end Go.AM

/-! ### S1 -/
namespace Go.AM
open Go.Proofs Go.Shelf
set_option maxRecDepth 100000
set_option linter.unusedVariables false
def ren9 : Ren := ⟨fun x => if x = 21 then 49 else if x = 27 then 73 else if x = 28 then 74 else if x = 35 then 96 else 55, fun x => if x = 22 then 29 else x, fun x => x⟩
theorem lays9 : Lays2.n21 Tryz.prog ren9 where
  mixed := mixed
  f21 := by kernel_rfl
  f27 := by kernel_rfl
  f28 := by kernel_rfl
  f35 := by kernel_rfl
  f39 := by kernel_rfl
  t0 := by kernel_rfl
  a0 := fun _ => by kernel_rfl
  z0 := fun _ => by kernel_rfl
  v0 := fun _ => by kernel_rfl
  t3 := by kernel_rfl
  a3 := fun _ => by kernel_rfl
  z3 := fun _ => by kernel_rfl
  v3 := fun _ => by kernel_rfl
  t4 := by kernel_rfl
  a4 := fun _ => by kernel_rfl
  z4 := fun _ => by kernel_rfl
  v4 := fun _ => by kernel_rfl
  t22 := by kernel_rfl
  a22 := fun _ => by kernel_rfl
  z22 := fun _ => by kernel_rfl
  v22 := fun _ => by kernel_rfl
  i3 := by kernel_rfl
end Go.AM

/-! ### S2 -/
namespace Go.AM
open Go.Proofs Go.Shelf
set_option maxRecDepth 100000
set_option linter.unusedVariables false
/-- What many cells that are set leave. -/
def layL (c : Array Value) : Nat → List Value → Array Value
  | _, [] => c
  | o, v :: r => layL (c.setIfInBounds o v) (o + 1) r
theorem layL_size : ∀ (l : List Value) (c : Array Value) (o : Nat), (layL c o l).size = c.size
  | [], _, _ => rfl
  | v :: r, c, o => by rw [layL, layL_size r]; simp
theorem layL_get : ∀ (l : List Value) (c : Array Value) (o i : Nat), o + l.length ≤ c.size → (layL c o l)[i]? = if o ≤ i ∧ i < o + l.length then l[i - o]? else c[i]?
  | [], c, o, i, _ => by rw [layL, if_neg (by simp only [List.length_nil]; omega)]
  | v :: r, c, o, i, h => by
    simp only [List.length_cons] at h
    rw [layL, layL_get r _ _ _ (by simp; omega), Array.getElem?_setIfInBounds]
    by_cases h1 : i = o
    · subst h1
      rw [if_neg (by omega), if_pos rfl, if_pos (by omega), if_pos (by simp)]
      simp
    · by_cases h2 : o + 1 ≤ i ∧ i < o + 1 + r.length
      · rw [if_pos h2, if_pos (by simp only [List.length_cons]; omega), show i - o = (i - (o + 1)) + 1 by omega, List.getElem?_cons_succ]
      · rw [if_neg h2, if_neg (fun e => h1 e.symm), if_neg (by simp only [List.length_cons]; omega)]
theorem setCells_put {b : Nat} {e : TypeId} {fz : Nat × Nat} : ∀ (l : List Value) (o : Nat) (w : World) (c : Array Value), w.heap[b]? = some (.cells c e fz) → w.setCells b o l = World.putObj w b (.cells (layL c o l) e fz)
  | [], o, w, c, h => by
    have hi := (Array.getElem?_eq_some_iff.1 h)
    have hs : w.heap.setIfInBounds b (.cells c e fz) = w.heap := by
      apply Array.ext_getElem?
      intro i
      rw [Array.getElem?_setIfInBounds]
      split
      · rename_i h1; subst h1; rw [if_pos hi.1]; exact h.symm
      · rfl
    show w = World.putObj w b _
    unfold World.putObj
    rw [layL, hs]
  | v :: r, o, w, c, h => by
    have hi := (Array.getElem?_eq_some_iff.1 h)
    rw [World.setCells, setCell_eq h, setCells_put (e := e) (fz := fz) r (o + 1) _ (c.setIfInBounds o v) (by simp [World.putObj, hi.1])]
    rw [putObj_putObj]; rfl
theorem cell_at {w : World} {b off : Nat} {c : Array Value} {e : TypeId} {fz : Nat × Nat} (h : w.heap[b]? = some (.cells c e fz)) : w.cell? ⟨b, off, none⟩ = c[off]? := cell_of h
theorem frozen_at {w : World} {b off : Nat} {c : Array Value} {e : TypeId} {fz : Nat × Nat} (h : w.heap[b]? = some (.cells c e fz)) (hf : ∀ i : Nat, ¬ (fz.1 ≤ i ∧ i < fz.2)) : w.frozen? ⟨b, off, none⟩ = false := by
  unfold World.frozen?
  simp only [h]
  have := hf off
  obtain ⟨lo, hi⟩ := fz
  simp only at this ⊢
  rw [Bool.eq_false_iff]
  intro h2
  rw [Bool.and_eq_true, decide_eq_true_eq, decide_eq_true_eq] at h2
  exact this h2
def insL (L : List Int) (i : Nat) (x : Int) : List Int := L.take i ++ x :: L.drop i
theorem insL_len {L : List Int} {i : Nat} (h : i ≤ L.length) (x : Int) : (insL L i x).length = L.length + 1 := by simp [insL]; omega
theorem insL_get {L : List Int} {i : Nat} (h : i ≤ L.length) (x : Int) (j : Nat) : (insL L i x)[j]? = if j < i then L[j]? else if j = i then some x else L[j - 1]? := by
  unfold insL
  by_cases h1 : j < i
  · rw [if_pos h1, List.getElem?_append_left (by simp; omega), List.getElem?_take_of_lt h1]
  · rw [if_neg h1, List.getElem?_append_right (by simp; omega)]
    have hl : (L.take i).length = i := by simp; omega
    rw [hl]
    by_cases h2 : j = i
    · subst h2; rw [if_pos rfl, Nat.sub_self]; rfl
    · rw [if_neg h2, show j - i = (j - i - 1) + 1 by omega, List.getElem?_cons_succ, List.getElem?_drop]
      congr 1; omega
theorem arel3 {β : Beta} {N : Nat} {a b c : Value} {args' : Array Value} (h : ARel β N #[a, b, c] args') : ∃ a' b' c', args' = #[a', b', c'] ∧ VRel β N a a' ∧ VRel β N b b' ∧ VRel β N c c' := by
  obtain ⟨l⟩ := args'
  have hs := h.1
  match l, hs with
  | [a', b', c'], _ => exact ⟨a', b', c', rfl, h.2 0 a a' rfl rfl, h.2 1 b b' rfl rfl, h.2 2 c c' rfl rfl⟩
theorem alloc_push (w : World) (o : Obj) : w.alloc o = World.pushObj w o := rfl
theorem int_rel {β : Beta} {N : Nat} {k : IntKind} {a : Int} {v : Value} (h : VRel β N (.int k a) v) : v = .int k a := by cases h; rfl
/-- The row of a slice of one's own takes one number more in its midst: whether it moves or not. -/
theorem ins_own {m : Mem} {b cap i bx k : Nat} {c : Array Value} {L : List Int} {x : Int} (hb : Mem.get m b = .cells true c) (hn : L.length ≤ cap) (hcl : ∀ (j : Nat) (y : Int), L[j]? = some y → c[j]? = some (.int .i64 y))
    (hx : Mem.get m bx = .cells true #[.int .i64 x]) (hne : b ≠ bx) (hi : i ≤ L.length) (hbig : L.length ≤ 1000000) :
    ACalls Tryz.prog 49 #[.slice (some ⟨b, 0, some 1⟩) L.length cap, nv i, .slice (some ⟨bx, 0, some 1⟩) 1 k] m (.slice (some ⟨m.size, 0, some 1⟩) (L.length + 1) (L.length + 1)) ((m.setIfInBounds b .dead).push (.cells true (cellsI (insL L i x)))) := by
  refine ⟨(LoopsIn.set fun h => by rw [hb] at h; cases h).trans (.push _ _), fun β w args' hR hA => ?_⟩
  obtain ⟨a', b', c', rfl, ha, hi', hx'⟩ := arel3 hA
  rw [int_rel hi']
  clear hi' hA
  cases ha with
  | slice _ _ _ _ _ cap' hbs _ _ hcc hbd hm63 =>
    cases hx' with
    | slice _ _ _ _ _ k' hbx _ hlk hkk hbdx hm63x =>
      obtain ⟨cb, eb, fb, hw, hcap, hcs, hrw⟩ := hR.cells b true c hb
      obtain ⟨hsh, hcsz, hfz⟩ := hrw rfl
      obtain ⟨cx, ex, fx, hwx, hcapx, hcsx, hrwx⟩ := hR.cells bx true _ hx
      obtain ⟨hshx, hcszx, hfzx⟩ := hrwx rfl
      have hnb : β.blk bx ≠ β.blk b := fun e => by
        rcases hR.inj b bx hne (by rw [hb]; rfl) (by rw [hx]; rfl) with h | ⟨_, _, h, _⟩
        · exact h e.symm
        · rw [hb] at h; cases h
      rw [hsh] at hbd hcs
      rw [hshx] at hbdx hcsx
      rw [hsh, hshx]
      simp only [Nat.zero_add, Nat.mul_one, Nat.add_zero] at hbd hbdx hcs hcsx ⊢
      have hcb : ∀ (j : Nat) (y : Int), L[j]? = some y → cb[j]? = some (.int .i64 y) := fun j y hj => by
        obtain ⟨v', e1, e2⟩ := hcs j _ (hcl j y hj)
        rw [int_rel e2] at e1; exact e1
      have hcx : cx[0]? = some (.int .i64 x) := by
        obtain ⟨v', e1, e2⟩ := hcsx 0 _ rfl
        rw [int_rel e2] at e1; exact e1
      have hLm : ∀ (j : Nat), (L.map (Value.int .i64))[j]? = (L[j]?).map (Value.int .i64) := fun j => by rw [List.getElem?_map]
      have hLget : ∀ (j : Nat) v, (L.map (Value.int .i64))[j]? = some v → w.cell? ⟨β.blk b, 0 + j, none⟩ = some v := fun j v hj => by
        rw [hLm, Option.map_eq_some_iff] at hj
        obtain ⟨y, hy, rfl⟩ := hj
        rw [cell_at hw, Nat.zero_add]; exact hcb j y hy
      have hXget : ∀ (j : Nat) v, ([Value.int .i64 x] : List Value)[j]? = some v → w.cell? ⟨β.blk bx, 0 + j, none⟩ = some v := fun j v hj => by
        match j, hj with
        | 0, hj => cases hj; rw [cell_at hwx]; exact hcx
        | j + 1, hj => simp at hj
      have hone : ∀ v ∈ L.map (Value.int .i64), v.oneCell' = true := fun v hv => by
        obtain ⟨y, _, rfl⟩ := List.mem_map.1 hv; rfl
      have honex : ∀ v ∈ [Value.int .i64 x], v.oneCell' = true := fun v hv => by rw [List.mem_singleton.1 hv]; rfl
      have hLl : (L.map (Value.int .i64)).length = L.length := by simp
      -- what the row holds in the end
      have inPlace : ∀ (w1 : World) (C : Array Value), w1.heap = w.heap → w1.os = w.os → w1.tape = w.tape → w1.output = w.output → C.size = cb.size → L.length + 1 ≤ cap' → (∀ (j : Nat) (y : Int), (insL L i x)[j]? = some y → C[j]? = some (.int .i64 y)) →
          ∃ β', VRel β' ((m.setIfInBounds b .dead).push (.cells true (cellsI (insL L i x)))).size (.slice (some ⟨m.size, 0, some 1⟩) (L.length + 1) (L.length + 1)) (.slice (some ⟨β.blk b, 0, none⟩) (L.length + 1) cap') ∧
            Rel Tryz.prog β' ((m.setIfInBounds b .dead).push (.cells true (cellsI (insL L i x)))) (World.putObj w1 (β.blk b) (.cells C eb fb)) ∧ Stp β m w β' ((m.setIfInBounds b .dead).push (.cells true (cellsI (insL L i x)))) (World.putObj w1 (β.blk b) (.cells C eb fb)) := by
        intro w1 C h1 h2 h3 h4 hC hroom hrow
        have hOR : ObjRel (β.ext m.size (β.blk b) (β.cap b)) (m.size + 1) m.size (.cells true (cellsI (insL L i x))) (.cells C eb fb) := by
          refine ⟨C, eb, fb, rfl, ?_, fun j v hj => ?_, fun _ => ⟨by simp [Beta.ext], by simp [Beta.ext]; omega, hfz⟩⟩
          · simp only [Beta.ext, if_true, Nat.zero_add, cellsI_size, insL_len hi]; omega
          · rw [cellsI_get, Option.map_eq_some_iff] at hj
            obtain ⟨y, hy, rfl⟩ := hj
            refine ⟨_, ?_, .int _ _⟩
            have hs0 : (β.ext m.size (β.blk b) (β.cap b)).sh m.size = 0 := by simp [Beta.ext]
            rw [hs0, Nat.zero_add]; exact hrow j y hy
        obtain ⟨r1, r2⟩ := (hR.drew h1).alias (by rw [hb]; rfl) (fun c h => by rw [hb] at h; cases h) hOR
        refine ⟨_, ?_, r1, (Stp.drew h1 h2 h3 h4).trans r2⟩
        have := VRel.slice (β := β.ext m.size (β.blk b) (β.cap b)) (N := ((m.setIfInBounds b .dead).push (.cells true (cellsI (insL L i x)))).size) m.size 0 1 (L.length + 1) (L.length + 1) cap' (by simp) (by omega) (Nat.le_refl _) hroom (by simp [Beta.ext]; exact hbd) hm63
        simpa [Beta.ext] using this
      have anew : ∀ (w1 : World) (C : Array Value) (e : TypeId) (G : Nat), w1.heap = w.heap → w1.os = w.os → w1.tape = w.tape → w1.output = w.output → C.size = G → L.length + 1 ≤ G → G < 9223372036854775808 → (∀ (j : Nat) (y : Int), (insL L i x)[j]? = some y → C[j]? = some (.int .i64 y)) →
          ∃ β', VRel β' ((m.setIfInBounds b .dead).push (.cells true (cellsI (insL L i x)))).size (.slice (some ⟨m.size, 0, some 1⟩) (L.length + 1) (L.length + 1)) (.slice (some ⟨w.heap.size, 0, none⟩) (L.length + 1) G) ∧
            Rel Tryz.prog β' ((m.setIfInBounds b .dead).push (.cells true (cellsI (insL L i x)))) (World.pushObj w1 (.cells C e)) ∧ Stp β m w β' ((m.setIfInBounds b .dead).push (.cells true (cellsI (insL L i x)))) (World.pushObj w1 (.cells C e)) := by
        intro w1 C e G h1 h2 h3 h4 hC hroom hG hrow
        obtain ⟨k1, k2⟩ := (hR.drew h1).kill b
        have hsz0 : (m.setIfInBounds b .dead).size = m.size := by simp
        obtain ⟨r1, r2⟩ := new_cells (c' := C) k1 (c := cellsI (insL L i x)) (fun j v hj => by
          rw [cellsI_get, Option.map_eq_some_iff] at hj
          obtain ⟨y, hy, rfl⟩ := hj
          exact ⟨_, hrow j y hy, .int _ _⟩) (by rw [cellsI_size, insL_len hi]; omega) e
        refine ⟨_, ?_, r1, (Stp.drew h1 h2 h3 h4).trans (k2.trans r2)⟩
        have := slice_new' (β := β) (m := m.setIfInBounds b .dead) (w := w1) (o := .cells true (cellsI (insL L i x))) (sz := 1) (cells := C.size) (by omega) (Nat.le_refl (L.length + 1)) hroom (by omega) hG
        rw [h1] at this ⊢
        rw [hsz0] at this ⊢
        exact this
      by_cases hroom : L.length + 1 ≤ cap'
      · by_cases hin : i = L.length
        · subst hin
          refine (Any2.slices_Insert_int_end_room lays9 (β.blk b) 0 L.length cap' (β.blk bx) 0 1 k' [.int .i64 x] w (by omega) hroom (by omega) rfl (fun j hj => ?_) (fun j hj => frozen_at hw hfz) hXget honex).mono ?_
          · rw [cell_at hw, Array.getElem?_eq_getElem (by omega)]; rfl
          · rintro e w' ⟨rfl, rfl⟩
            rw [setCells_put _ _ _ _ hw]
            obtain ⟨β', h1, h2, h3⟩ := inPlace w (layL cb (0 + L.length) [.int .i64 x]) rfl rfl rfl rfl (layL_size _ _ _) hroom (fun j y hj => by
              rw [layL_get _ _ _ _ (by simp; omega), Nat.zero_add]
              rw [insL_get hi] at hj
              by_cases e1 : j < L.length
              · rw [if_pos e1] at hj; rw [if_neg (by omega)]; exact hcb j y hj
              · rw [if_neg e1] at hj
                by_cases e2 : j = L.length
                · rw [if_pos e2] at hj; subst e2
                  rw [if_pos (by simp), Nat.sub_self, ← Option.some.inj hj]; rfl
                · rw [if_neg e2, List.getElem?_eq_none (by omega)] at hj; cases hj)
            exact ⟨_, rfl, β', h1, h2, h3⟩
        · have hlt : i < L.length := by omega
          refine (Any2.slices_Insert_int_shift lays9 (β.blk b) 0 L.length cap' i (β.blk bx) 0 1 k' (L.map (Value.int .i64)) [.int .i64 x] w hlt (by omega) hroom (by omega) hnb hLl rfl hLget (fun j hj => ?_) (fun j hj => frozen_at hw hfz) hXget hone honex ex eb cx.size cb.size ?_ ?_ (by omega) (frozen_at hwx hfzx) (frozen_at hwx hfzx)).mono ?_
          · rw [cell_at hw, Array.getElem?_eq_getElem (by omega)]; rfl
          · simp only [World.shape?, hwx]
          · simp only [World.shape?, hw]
          · rintro e w' ⟨rfl, rfl⟩
            have hwd : (World.drew w).heap[β.blk b]? = some (.cells cb eb fb) := hw
            rw [setCells_put _ _ _ _ hwd]
            have hw2 : (World.putObj (World.drew w) (β.blk b) (.cells (layL cb (0 + (i + 1)) ((L.map (Value.int .i64)).drop i)) eb fb)).heap[β.blk b]? = some (.cells (layL cb (0 + (i + 1)) ((L.map (Value.int .i64)).drop i)) eb fb) := by
              have h9 : β.blk b < (World.drew w).heap.size := (Array.getElem?_eq_some_iff.1 hw).1
              unfold World.putObj
              rw [Array.getElem?_setIfInBounds, if_pos rfl, if_pos h9]
            rw [setCells_put _ _ _ _ hw2, putObj_putObj]
            obtain ⟨β', h1, h2, h3⟩ := inPlace (World.drew w) (layL (layL cb (0 + (i + 1)) ((L.map (Value.int .i64)).drop i)) (0 + i) [.int .i64 x]) rfl rfl rfl rfl (by rw [layL_size, layL_size]) hroom (fun j y hj => by
              rw [layL_get _ _ _ _ (by rw [layL_size]; simp; omega), Nat.zero_add, layL_get _ _ _ _ (by simp; omega), Nat.zero_add]
              rw [insL_get hi] at hj
              by_cases e1 : j < i
              · rw [if_pos e1] at hj
                rw [if_neg (by omega), if_neg (by omega)]; exact hcb j y hj
              · rw [if_neg e1] at hj
                by_cases e2 : j = i
                · rw [if_pos e2] at hj; subst e2
                  rw [if_pos (by simp), Nat.sub_self, ← Option.some.inj hj]; rfl
                · rw [if_neg e2] at hj
                  have hjl := (List.getElem?_eq_some_iff.1 hj).1
                  rw [if_neg (by simp; omega), if_pos (by simp; omega), List.getElem?_drop, hLm, show i + (j - (i + 1)) = j - 1 by omega, hj]; rfl)
            exact ⟨_, rfl, β', h1, h2, h3⟩
      · have hge := grownCap_ge w (L.length + 1) cap' (ren9.t 3)
        have hle := grownCap_le_maxLen w (L.length + 1) cap' (ren9.t 3) (by unfold maxLen; omega)
        unfold maxLen at hle
        have hzs : ∀ n, (Builtin.zeroCells (Value.int .i64 0).cells n).size = n := fun n => by rw [zeroCells_size]; simp [Value.cells]
        by_cases hin : i = L.length
        · subst hin
          refine (Any2.slices_Insert_int_end_grow lays9 (some ⟨β.blk b, 0, none⟩) L.length cap' (β.blk bx) 0 1 k' (L.map (Value.int .i64)) [.int .i64 x] w (by omega) (by omega) (by omega) (by omega) hLl rfl (fun h => by cases h) (fun a ha j v hj => ?_) hXget honex).mono ?_
          · cases ha
            rw [Addr.add_lit]; exact hLget j v hj
          · rintro e w' ⟨rfl, rfl⟩
            rw [alloc_push]
            obtain ⟨β', h1, h2, h3⟩ := anew (World.drew w) (((L.map (Value.int .i64)) ++ [Value.int .i64 x]).toArray ++ Builtin.zeroCells (Value.int .i64 0).cells (grownCap w (L.length + 1) cap' (ren9.t 3) - (L.length + 1))) (ren9.t 3) (grownCap w (L.length + 1) cap' (ren9.t 3)) rfl rfl rfl rfl (by rw [Array.size_append, hzs]; simp; omega) hge (by omega) (fun j y hj => by
              rw [insL_get hi] at hj
              by_cases e1 : j < L.length
              · rw [if_pos e1] at hj
                rw [Array.getElem?_append_left (by simp; omega), List.getElem?_toArray, List.getElem?_append_left (by simp; omega), hLm, hj]; rfl
              · rw [if_neg e1] at hj
                by_cases e2 : j = L.length
                · rw [if_pos e2] at hj; subst e2
                  rw [Array.getElem?_append_left (by simp), List.getElem?_toArray, List.getElem?_append_right (by simp), ← Option.some.inj hj]; simp
                · rw [if_neg e2, List.getElem?_eq_none (by omega)] at hj; cases hj)
            exact ⟨_, rfl, β', h1, h2, h3⟩
        · have hlt : i < L.length := by omega
          refine (Any2.slices_Insert_int_grow lays9 (β.blk b) 0 L.length cap' i (β.blk bx) 0 1 k' (L.map (Value.int .i64)) [.int .i64 x] w hlt (by omega) (by omega) (by omega) (by omega) hLl rfl hLget hXget hone honex).mono ?_
          rintro e w' ⟨rfl, rfl⟩
          generalize hG : grownCap w (L.length + 1) cap' (ren9.t 3) = G at *
          generalize hA : ((L.map (Value.int .i64)).take i).toArray ++ Builtin.zeroCells (Value.int .i64 0).cells (L.length + 1 - i) ++ Builtin.zeroCells (Value.int .i64 0).cells (G - (L.length + 1)) = A
          have hAs : A.size = G := by rw [← hA, Array.size_append, Array.size_append, hzs, hzs]; simp; omega
          have hAg : ∀ (j : Nat), j < i → A[j]? = (L[j]?).map (Value.int .i64) := fun j hj => by
            rw [← hA, Array.getElem?_append_left (by rw [Array.size_append, hzs]; simp; omega), Array.getElem?_append_left (by simp; omega), List.getElem?_toArray, List.getElem?_take_of_lt hj, hLm]
          have hp1 : ∀ (w1 : World) (O O' : Obj), World.putObj (World.pushObj w1 O) w1.heap.size O' = World.pushObj w1 O' := fun w1 O O' => by
            have hs : (w1.heap.push O).setIfInBounds w1.heap.size O' = w1.heap.push O' := by
              apply Array.ext_getElem?
              intro j
              rw [Array.getElem?_setIfInBounds, Array.getElem?_push, Array.getElem?_push]
              by_cases h : w1.heap.size = j
              · subst h; rw [if_pos rfl, if_pos (by simp), if_pos rfl]
              · rw [if_neg h, if_neg (fun e => h e.symm), if_neg (fun e => h e.symm)]
            show ({ w1 with heap := (w1.heap.push O).setIfInBounds w1.heap.size O' } : World) = { w1 with heap := w1.heap.push O' }
            rw [hs]
          have hq1 : ∀ (w1 : World) (O : Obj), (World.pushObj w1 O).heap[w1.heap.size]? = some O := fun w1 O => by
            show (w1.heap.push O)[w1.heap.size]? = some O
            simp
          have e1 : (w.alloc (.cells A (ren9.t 3))).drew = World.pushObj (World.drew w) (.cells A (ren9.t 3)) := rfl
          rw [e1, setCells_put (w := World.pushObj (World.drew w) (.cells A (ren9.t 3))) (b := w.heap.size) _ _ _ (hq1 (World.drew w) _)]
          have e2 : (World.putObj (World.pushObj (World.drew w) (.cells A (ren9.t 3))) w.heap.size (.cells (layL A i [.int .i64 x]) (ren9.t 3) (0, 0))).drew = World.pushObj (World.drew (World.drew w)) (.cells (layL A i [.int .i64 x]) (ren9.t 3)) := by
            have := hp1 (World.drew w) (.cells A (ren9.t 3)) (.cells (layL A i [.int .i64 x]) (ren9.t 3))
            have e3 : (World.drew w).heap.size = w.heap.size := rfl
            rw [e3] at this
            rw [this]; rfl
          rw [e2, setCells_put (w := World.pushObj (World.drew (World.drew w)) (.cells (layL A i [.int .i64 x]) (ren9.t 3))) (b := w.heap.size) _ _ _ (hq1 (World.drew (World.drew w)) _)]
          have e4 := hp1 (World.drew (World.drew w)) (.cells (layL A i [.int .i64 x]) (ren9.t 3)) (.cells (layL (layL A i [.int .i64 x]) (i + 1) ((L.map (Value.int .i64)).drop i)) (ren9.t 3))
          have e5 : (World.drew (World.drew w)).heap.size = w.heap.size := rfl
          rw [e5] at e4
          rw [e4]
          obtain ⟨β', h1, h2, h3⟩ := anew (World.drew (World.drew w)) (layL (layL A i [.int .i64 x]) (i + 1) ((L.map (Value.int .i64)).drop i)) (ren9.t 3) G rfl rfl rfl rfl (by rw [layL_size, layL_size, hAs]) hge (by omega) (fun j y hj => by
            rw [layL_get _ _ _ _ (by rw [layL_size, hAs]; simp; omega), layL_get _ _ _ _ (by rw [hAs]; simp; omega)]
            rw [insL_get hi] at hj
            by_cases e1 : j < i
            · rw [if_pos e1] at hj
              rw [if_neg (by omega), if_neg (by omega), hAg j e1, hj]; rfl
            · rw [if_neg e1] at hj
              by_cases e2 : j = i
              · rw [if_pos e2] at hj; subst e2
                rw [if_neg (by omega), if_pos (by simp), Nat.sub_self, ← Option.some.inj hj]; rfl
              · rw [if_neg e2] at hj
                have hjl := (List.getElem?_eq_some_iff.1 hj).1
                rw [if_pos (by simp; omega), List.getElem?_drop, hLm, show i + (j - (i + 1)) = j - 1 by omega, hj]; rfl)
          exact ⟨_, rfl, β', h1, h2, h3⟩
theorem ins_nil {m : Mem} {bx k : Nat} {x : Int} (hx : Mem.get m bx = .cells true #[.int .i64 x]) :
    ACalls Tryz.prog 49 #[.slice none 0 0, nv 0, .slice (some ⟨bx, 0, some 1⟩) 1 k] m (.slice (some ⟨m.size, 0, some 1⟩) 1 1) (m.push (.cells true (cellsI [x]))) := by
  refine ⟨.push _ _, fun β w args' hR hA => ?_⟩
  obtain ⟨a', b', c', rfl, ha, hi', hx'⟩ := arel3 hA
  rw [int_rel hi']
  clear hi' hA
  cases ha with
  | sliceNil =>
    cases hx' with
    | slice _ _ _ _ _ k' hbx _ hlk hkk hbdx hm63x =>
      obtain ⟨cx, ex, fx, hwx, hcapx, hcsx, hrwx⟩ := hR.cells bx true _ hx
      obtain ⟨hshx, hcszx, hfzx⟩ := hrwx rfl
      rw [hshx] at hbdx hcsx
      rw [hshx]
      simp only [Nat.zero_add, Nat.mul_one, Nat.add_zero] at hbdx hcsx ⊢
      have hcx : cx[0]? = some (.int .i64 x) := by
        obtain ⟨v', e1, e2⟩ := hcsx 0 _ rfl
        rw [int_rel e2] at e1; exact e1
      have hXget : ∀ (j : Nat) v, ([Value.int .i64 x] : List Value)[j]? = some v → w.cell? ⟨β.blk bx, 0 + j, none⟩ = some v := fun j v hj => by
        match j, hj with
        | 0, hj => cases hj; rw [cell_at hwx]; exact hcx
        | j + 1, hj => simp at hj
      have honex : ∀ v ∈ [Value.int .i64 x], v.oneCell' = true := fun v hv => by rw [List.mem_singleton.1 hv]; rfl
      have hge := grownCap_ge w (0 + 1) 0 (ren9.t 3)
      have hle := grownCap_le_maxLen w (0 + 1) 0 (ren9.t 3) (by unfold maxLen; omega)
      unfold maxLen at hle
      have hzs : ∀ n, (Builtin.zeroCells (Value.int .i64 0).cells n).size = n := fun n => by rw [zeroCells_size]; simp [Value.cells]
      refine (Any2.slices_Insert_int_end_grow lays9 none 0 0 (β.blk bx) 0 1 k' [] [.int .i64 x] w (by omega) (by omega) (by omega) (by omega) rfl rfl (fun _ => rfl) (fun a ha => by cases ha) hXget honex).mono ?_
      rintro e w' ⟨rfl, rfl⟩
      rw [alloc_push]
      have h1 : (World.drew w).heap = w.heap := rfl
      obtain ⟨r1, r2⟩ := new_cells (c' := ([] ++ [Value.int .i64 x]).toArray ++ Builtin.zeroCells (Value.int .i64 0).cells (grownCap w (0 + 1) 0 (ren9.t 3) - (0 + 1))) (hR.drew h1) (c := cellsI [x]) (fun j v hj => by
        match j, hj with
        | 0, hj => simp [cellsI] at hj; subst hj; exact ⟨_, by rw [Array.getElem?_append_left (by simp)]; rfl, .int _ _⟩
        | j + 1, hj => simp [cellsI] at hj) (by rw [cellsI_size, Array.size_append, hzs]; simp) (ren9.t 3)
      refine ⟨_, rfl, _, ?_, r1, (Stp.drew h1 rfl rfl rfl).trans r2⟩
      have := slice_new' (β := β) (m := m) (w := World.drew w) (o := .cells true (cellsI [x])) (sz := 1) (cells := (([] ++ [Value.int .i64 x]).toArray ++ Builtin.zeroCells (Value.int .i64 0).cells (grownCap w (0 + 1) 0 (ren9.t 3) - (0 + 1))).size) (by omega) (Nat.le_refl 1) (show 1 ≤ grownCap w (0 + 1) 0 (ren9.t 3) by omega) (by rw [Array.size_append, hzs]; simp; omega) (by omega)
      exact this
/-- slices.Insert of one number into a row of one's own. -/
theorem spec_Insert {m : Mem} {N bx k i : Nat} {v : Value} {L : List Int} {x : Int} (h : OwnF N m v L) (hx : Mem.get m bx = .cells true #[.int .i64 x]) (hne : blkOf v ≠ some bx) (hi : i ≤ L.length) (hbig : L.length ≤ 1000000) (hN : N ≤ m.size) :
    ∃ v' m', ACalls Tryz.prog 49 #[v, nv i, .slice (some ⟨bx, 0, some 1⟩) 1 k] m v' m' ∧ OwnF N m' v' (insL L i x) ∧ Low N m m' := by
  rcases h with ⟨rfl, rfl⟩ | ⟨b, cap, c, rfl, h2, h3, h4, h5, h6⟩
  · obtain rfl : i = 0 := by simpa using hi
    exact ⟨_, _, ins_nil hx, .inr ⟨m.size, 1, cellsI [x], rfl, hN, gP rfl, Nat.le_refl _, rfl, fun j y hj => by rw [cellsI_get]; simp only [insL, List.take_nil, List.drop_nil, List.nil_append] at hj; rw [hj]; rfl⟩, .push _ hN _⟩
  · have hb := live h3
    refine ⟨_, _, ins_own h3 h4 h6 hx (fun e => hne (by rw [← e]; rfl)) hi hbig, .inr ⟨m.size, L.length + 1, cellsI (insL L i x), by rw [insL_len hi], hN, gP (by simp), by rw [insL_len hi]; exact Nat.le_refl _, by rw [cellsI_size, insL_len hi], fun j y hj => by rw [cellsI_get, hj]; rfl⟩, (Low.set h2 _).trans (.push _ (by simp; exact hN) _)⟩
end Go.AM

/-! ### S3 -/
namespace Go.AM
open Go.Proofs
set_option maxRecDepth 100000
set_option linter.unusedVariables false
set_option linter.unusedSimpArgs false
theorem B113 {q : Option Addr} {n c : Nat} {a : Int} : aBuild Tryz.prog 50 [(0, .slice q n c), (2, .int .u32 a)] = some (.agg #[.slice q n c, nv 0, .int .u32 a]) := by kernel_rfl
theorem eq22 {q : Option Addr} {n c : Nat} : aBin Tryz.prog .eql 22 (.slice q n c) (.slice none 0 0) = some (.bool (decide (q = none))) := by
  cases q <;> kernel_rfl
theorem U48 : undOf Tryz.prog 48 = some (.int .u32) := by kernel_rfl
theorem U5 : undOf Tryz.prog 5 = some (.int .u8) := by kernel_rfl
theorem conv5_48 {a : Int} : ∃ z : Nat, z < 4294967296 ∧ aConv Tryz.prog 5 48 (.int .u8 a) = some (.int .u32 (Int.ofNat z)) := by
  obtain ⟨z, hz, e⟩ := wrap32 a
  exact ⟨z, hz, by simp only [aConv, U5, U48, e]⟩
theorem conv48_3 {a : Nat} (h : a < 4294967296) : aConv Tryz.prog 48 3 (.int .u32 (Int.ofNat a)) = some (nv a) := by
  simp only [aConv, U48, U3]
  rw [wrapN (by omega)]
theorem cut_bytes {m : Mem} {v : Value} {l : List Int} {k : Nat} (h : BytesAt m v l) (hk : k ≤ l.length) : ∃ v2, aSlice Tryz.prog m 22 v none (some (nv k)) none = some v2 ∧ BytesAt m v2 (l.take k) := by
  rcases h with ⟨rfl, rfl | ⟨b, o, rfl⟩⟩ | ⟨b, o, cap, r, c, rfl, h1, h2, h3⟩
  · obtain rfl : k = 0 := by simpa using hk
    exact ⟨.slice none 0 0, by simp only [aSlice, T22, S5, aBounds]; rfl, .inl ⟨rfl, .inl rfl⟩⟩
  · obtain rfl : k = 0 := by simpa using hk
    exact ⟨.slice (some ⟨0, 0, none⟩) 0 0, by simp only [aSlice, T22, S5, aBounds]; rfl, .inl ⟨rfl, .inr ⟨_, _, rfl⟩⟩⟩
  · refine ⟨_, aSlice_hi T22 S5 (by omega), .inr ⟨b, o, cap, r, c, by rw [List.length_take, Nat.min_eq_left hk], by rw [List.length_take]; omega, h2, fun i x hx => ?_⟩⟩
    rw [List.getElem?_take] at hx
    split at hx
    · exact h3 i x hx
    · cases hx
theorem app_bytes {m : Mem} {v : Value} {l : List Int} (h : BytesAt (m.push (.cells true #[])) v l) (hl : l.length ≤ 1000) :
    ∃ v' m', aAppend Tryz.prog (m.push (.cells true #[])) 22 22 (.slice (some ⟨m.size, 0, some 1⟩) 0 0) v = some (v', m') ∧ BytesIn m.size m'.size m' v' l ∧ Ext m m' := by
  have hb : bytesOf' Tryz.prog 5 = some 1 := by kernel_rfl
  obtain ⟨q, cap, rfl⟩ := h.len
  have hal : aLenOf (.slice q l.length cap) = some l.length := rfl
  have h35 : isIntT (.slice 5) = false := rfl
  have hz : (Value.int .u8 0).cells.size = 1 := rfl
  have hg : Mem.get (m.push (.cells true #[])) m.size = .cells true #[] := gP rfl
  unfold aAppend
  simp only [T22, S5, Z5, hb, h35, hal, first_bytes h]
  rw [if_pos ⟨by omega, hz, by rw [cellsU_size]; omega, cellsU_one l⟩]
  simp only [if_true]
  by_cases h0 : l.length = 0
  · simp only [h0, if_true]
    exact ⟨_, _, rfl, .inl ⟨List.length_eq_zero_iff.1 h0, _, _, rfl⟩, .push _ _⟩
  · simp only [if_neg h0, hg]
    rw [if_neg (by omega), if_pos ⟨trivial, by simp, by omega, by omega⟩]
    refine ⟨_, _, rfl, .inr ⟨m.size + 1, 0, l.length, true, _, by simp, by omega, by simp, gP (by simp), fun i x hx => ?_⟩, by simp; omega, fun b hb => ?_⟩
    · have : (cellsU l)[i]? = some (.int .u8 x) := by rw [cellsU_get, hx]; rfl
      simpa using this
    · rw [gPn (by simp; omega), gSn (by omega), gPn hb]

theorem okf16 : okF Tryz.prog H0 16 8 = true := by kernel_rfl
theorem spec_CloneB {m : Mem} {a : Value} {l : List Int} (ha : BytesAt m a l) (hl : l.length ≤ 1000) : ∃ v m', ACalls Tryz.prog 16 #[a] m v m' ∧ (BytesIn m.size m'.size m' v l ∧ Ext m m') := by
  obtain ⟨q, cap, rfl⟩ := ha.len
  refine wpF (args := [_]) mixed okf16 (fn := Tryz.f16) rfl rfl rfl (by simp) ?_
  refine cSeq ?_
  refine cRegion ?_
  refine sAs (v := .slice _ _ _) rfl ?_
  refine sNil (kSeqN ?_)
  refine cSeq ?_   -- seq 1
  refine cSeq ?_
  refine cRegion ?_
  refine sMv (v := .slice _ _ _) rfl ?_
  refine sP (v := .bool (decide (q = none))) eq22 ?_
  refine sNil (kSeqN ?_)
  refine cCond rfl (fun c0 => ?_) (fun c0 => ?_)
  ·
    refine cSeq ?_
    refine cRegion ?_
    refine sAs (v := .slice _ _ _) rfl ?_
    refine sNil (kSeqN ?_)
    refine cRet (kSeqR ?_)
    subst c0
    refine ⟨.inr rfl, _, rfl, .inl ⟨?_, _, _, rfl⟩, .refl _⟩
    rcases ha with ⟨h, _⟩ | ⟨b, o, cp, r, c, h, _⟩
    · exact h
    · cases h
  ·
    refine cSkip (kSeqN ?_)
    refine cSeq ?_
    refine cRegion ?_
    refine sBuildS (c := #[]) T22 S5 Z5 (by decide) (by decide) (by decide) (by kernel_rfl) rfl rfl ?_
    refine sMv (v := .slice _ _ _) rfl ?_
    obtain ⟨v3, m3, h3, hO3, hE3⟩ := app_bytes (ha.ext (.push _ _)) hl
    obtain ⟨q3, cp3, rfl⟩ := hO3.len
    refine sAppX rfl rfl h3 ?_
    refine sAs (v := .slice _ _ _) rfl ?_
    refine sNil (kSeqN ?_)
    refine cRet ?_
    exact ⟨.inr rfl, _, rfl, hO3, hE3⟩

theorem okf4 : okF Tryz.prog H0 4 11 = true := by kernel_rfl
theorem spec_Of {m : Mem} {a : Value} {l : List Int} (ha : BytesAt m a l) : ∃ v m', ACalls Tryz.prog 4 #[a] m v m' ∧ (∃ b, v = .pointer (some ⟨b, 0, none⟩) ∧ m.size ≤ b ∧ StoreAt m.size m'.size m' b 0 ∧ Ext m m') := by
  obtain ⟨q, cap, rfl⟩ := ha.len
  obtain ⟨v7, h7, hB7⟩ := cut_bytes ha (k := min l.length 300) (by omega)
  obtain ⟨q7, c7, rfl⟩ := hB7.len
  have hl7 : (l.take (min l.length 300)).length ≤ 300 := by rw [List.length_take]; omega
  generalize l.take (min l.length 300) = l7 at *
  refine wpF (args := [_]) mixed okf4 (fn := Tryz.f4) rfl rfl rfl (by simp) ?_
  refine cSeq ?_
  refine cRegion ?_
  refine sAs (v := .pointer _) rfl ?_
  refine sNil (kSeqN ?_)
  refine cSeq ?_
  refine cRegion ?_
  refine sMv (v := .slice _ _ _) rfl ?_
  refine sMv (v := .slice _ _ _) rfl ?_
  refine sLen T22 rfl ?_
  refine sP (v := nv (min l.length 300)) min300 ?_
  refine sO (v := .slice q7 l7.length c7) (m' := m) (opF_read rfl h7) ?_
  obtain ⟨v8, m8, h8, hO8, hE8⟩ := spec_CloneB hB7 (by omega)
  obtain ⟨q8, c8, rfl⟩ := hO8.len
  refine sCall1 rfl call16 rfl h8 ?_
  refine sBuild B113 ?_
  refine sBox (v := .agg _) rfl ?_
  refine sAs (v := .pointer _) rfl ?_
  refine sNil (kSeqN ?_)
  refine cRet ?_
  refine ⟨.inr rfl, _, rfl, m8.size, rfl, hE8.1, ⟨by simp, by simp, by simp, .slice q8 l7.length c8, 0, 2463534242, l7, gP rfl, Nat.le_refl _, by omega, hO8.keep fun c _ hc => gPn hc, hl7⟩, hE8.push' _⟩

theorem okf50 : okF Tryz.prog H0 50 104 = true := by kernel_rfl
theorem spec_draw {m : Mem} {N0 N b k : Nat} (h : StoreAt N0 N m b k) (hk : k < 1000000) : ∃ v m', ACalls Tryz.prog 50 #[.pointer (some ⟨b, 0, none⟩)] m v m' ∧ ((∃ z : Nat, v = .int .u32 (Int.ofNat z) ∧ z < 4294967296) ∧ StoreAt N0 N m' b (k + 1) ∧ Only b m m') := by
  obtain ⟨hb1, hb2, hN, bs, nx, st, l, g0, hnx, hst, hBs, hl⟩ := h
  obtain ⟨q, cap, rfl⟩ := hBs.len
  have hbm := live g0
  refine wpF (args := [_]) mixed okf50 (fn := Tryz.f50) rfl rfl rfl (by simp) ?_
  refine cSeq ?_
  refine cRegion ?_
  refine sAs (v := .int .u32 _) rfl ?_
  refine sNil (kSeqN ?_)
  refine cSeq ?_
  refine cDraw rfl ?_
  refine sMv (v := .pointer _) rfl ?_
  refine sNC rfl ?_
  refine sFA F50_2 rfl ?_
  refine sLd A48 rfl (by simp (disch := first | omega | (simp only [Array.size_push, Array.size_setIfInBounds]; done) | (simp only [Array.size_push, Array.size_setIfInBounds]; omega)) only [gP, gPn, gS, gSn, g0]; try rfl) rfl ?_
  refine sMv (v := .pointer _) rfl ?_
  refine sNC rfl ?_
  refine sFA F50_2 rfl ?_
  refine sLd A48 rfl (by simp (disch := first | omega | (simp only [Array.size_push, Array.size_setIfInBounds]; done) | (simp only [Array.size_push, Array.size_setIfInBounds]; omega)) only [gP, gPn, gS, gSn, g0]; try rfl) rfl ?_
  refine sShl32 (b := 13) rfl rfl fun z12 hz12 => ?_
  refine sU32 rfl rfl rfl fun z13 hz13 => ?_
  refine sNC rfl ?_
  refine sFA F50_2 rfl ?_
  refine sSt (v := .int .u32 _) S48 rfl rfl (by simp (disch := first | omega | (simp only [Array.size_push, Array.size_setIfInBounds]; done) | (simp only [Array.size_push, Array.size_setIfInBounds]; omega)) only [gP, gPn, gS, gSn, g0]; try rfl) (by first | decide | omega | simp) rfl rfl ?_
  refine sNil (kSeqN ?_)
  refine cSeq ?_
  refine cDraw rfl ?_
  refine sMv (v := .pointer _) rfl ?_
  refine sNC rfl ?_
  refine sFA F50_2 rfl ?_
  refine sLd A48 rfl (by simp (disch := first | omega | (simp only [Array.size_push, Array.size_setIfInBounds]; done) | (simp only [Array.size_push, Array.size_setIfInBounds]; omega)) only [gP, gPn, gS, gSn, g0]; try rfl) rfl ?_
  refine sMv (v := .pointer _) rfl ?_
  refine sNC rfl ?_
  refine sFA F50_2 rfl ?_
  refine sLd A48 rfl (by simp (disch := first | omega | (simp only [Array.size_push, Array.size_setIfInBounds]; done) | (simp only [Array.size_push, Array.size_setIfInBounds]; omega)) only [gP, gPn, gS, gSn, g0]; try rfl) rfl ?_
  refine sShr32 (b := 17) rfl rfl (by omega) ?_
  refine sU32 rfl rfl rfl fun z25 hz25 => ?_
  refine sNC rfl ?_
  refine sFA F50_2 rfl ?_
  refine sSt (v := .int .u32 _) S48 rfl rfl (by simp (disch := first | omega | (simp only [Array.size_push, Array.size_setIfInBounds]; done) | (simp only [Array.size_push, Array.size_setIfInBounds]; omega)) only [gP, gPn, gS, gSn, g0]; try rfl) (by first | decide | omega | simp) rfl rfl ?_
  refine sNil (kSeqN ?_)
  refine cSeq ?_
  refine cDraw rfl ?_
  refine sMv (v := .pointer _) rfl ?_
  refine sNC rfl ?_
  refine sFA F50_2 rfl ?_
  refine sLd A48 rfl (by simp (disch := first | omega | (simp only [Array.size_push, Array.size_setIfInBounds]; done) | (simp only [Array.size_push, Array.size_setIfInBounds]; omega)) only [gP, gPn, gS, gSn, g0]; try rfl) rfl ?_
  refine sMv (v := .pointer _) rfl ?_
  refine sNC rfl ?_
  refine sFA F50_2 rfl ?_
  refine sLd A48 rfl (by simp (disch := first | omega | (simp only [Array.size_push, Array.size_setIfInBounds]; done) | (simp only [Array.size_push, Array.size_setIfInBounds]; omega)) only [gP, gPn, gS, gSn, g0]; try rfl) rfl ?_
  refine sShl32 (b := 5) rfl rfl fun z36 hz36 => ?_
  refine sU32 rfl rfl rfl fun z37 hz37 => ?_
  refine sNC rfl ?_
  refine sFA F50_2 rfl ?_
  refine sSt (v := .int .u32 _) S48 rfl rfl (by simp (disch := first | omega | (simp only [Array.size_push, Array.size_setIfInBounds]; done) | (simp only [Array.size_push, Array.size_setIfInBounds]; omega)) only [gP, gPn, gS, gSn, g0]; try rfl) (by first | decide | omega | simp) rfl rfl ?_
  refine sNil (kSeqN ?_)
  refine cSeq ?_
  refine cRegion ?_
  refine sMv (v := .pointer _) rfl ?_
  refine sNC rfl ?_
  refine sFA F50_2 rfl ?_
  refine sLd A48 rfl (by simp (disch := first | omega | (simp only [Array.size_push, Array.size_setIfInBounds]; done) | (simp only [Array.size_push, Array.size_setIfInBounds]; omega)) only [gP, gPn, gS, gSn, g0]; try rfl) rfl ?_
  refine sShr32 (b := 3) rfl rfl (by omega) ?_
  have hz44 := Nat.shiftRight_le z37 3
  generalize z37 >>> 3 = z44 at *
  refine sAs (v := .int .u32 _) rfl ?_
  refine sNil (kSeqN ?_)
  refine cSeq ?_   -- seq 5
  refine cSeq ?_
  refine cRegion ?_
  refine sMv (v := .pointer _) rfl ?_
  refine sNC rfl ?_
  refine sFA F50_0 rfl ?_
  refine sLd A22 rfl (by simp (disch := first | omega | (simp only [Array.size_push, Array.size_setIfInBounds]; done) | (simp only [Array.size_push, Array.size_setIfInBounds]; omega)) only [gP, gPn, gS, gSn, g0]; try rfl) rfl ?_
  refine sLen T22 rfl ?_
  refine sBin rfl rfl (aInt_gtr (b := 0)) ?_
  refine sNil (kSeqN ?_)
  refine cCond rfl (fun c0 => ?_) (fun c0 => ?_)
  ·
    rcases hBs with ⟨rfl, _⟩ | ⟨bb, o, cap', r, c, e1, e2, e3, e4, e5⟩
    · exact absurd c0 (by simp)
    injection e1 with e1 e1' e1''
    subst e1; subst e1''
    have hm : nx % l.length < l.length := Nat.mod_lt _ c0
    have hx := e5 _ _ (List.getElem?_eq_getElem hm)
    generalize l[nx % l.length] = by_ at *
    obtain ⟨zc, hzc, hconv⟩ := conv5_48 (a := by_)
    refine cSeq ?_
    refine cDraw rfl ?_
    refine sMv (v := .int .u32 _) rfl ?_
    refine sMv (v := .pointer _) rfl ?_
    refine sNC rfl ?_
    refine sFA F50_0 rfl ?_
    refine sLd A22 rfl (by simp (disch := first | omega | (simp only [Array.size_push, Array.size_setIfInBounds]; done) | (simp only [Array.size_push, Array.size_setIfInBounds]; omega)) only [gP, gPn, gS, gSn, g0]; try rfl) rfl ?_
    refine sMv (v := .pointer _) rfl ?_
    refine sNC rfl ?_
    refine sFA F50_1 rfl ?_
    refine sLd A3 rfl (by simp (disch := first | omega | (simp only [Array.size_push, Array.size_setIfInBounds]; done) | (simp only [Array.size_push, Array.size_setIfInBounds]; omega)) only [gP, gPn, gS, gSn, g0]; try rfl) rfl ?_
    refine sMv (v := .pointer _) rfl ?_
    refine sNC rfl ?_
    refine sFA F50_0 rfl ?_
    refine sLd A22 rfl (by simp (disch := first | omega | (simp only [Array.size_push, Array.size_setIfInBounds]; done) | (simp only [Array.size_push, Array.size_setIfInBounds]; omega)) only [gP, gPn, gS, gSn, g0]; try rfl) rfl ?_
    refine sLen T22 rfl ?_
    refine sBin rfl rfl (aInt_rem (by omega)) ?_
    refine sIx T22 S5 rfl rfl hm ?_
    refine sLd (v := .int .u8 by_) A5 rfl (by simp (disch := first | omega | (simp only [Array.size_push, Array.size_setIfInBounds]; done) | (simp only [Array.size_push, Array.size_setIfInBounds]; omega)) only [gP, gPn, gS, gSn, e4]; try rfl) hx ?_
    refine sP (v := .int .u32 (Int.ofNat zc)) hconv ?_
    refine sU32 rfl rfl rfl fun z69 hz69 => ?_
    refine sU32 rfl rfl rfl fun z70 hz70 => ?_
    refine sAs (v := .int .u32 _) rfl ?_
    refine sNil (kSeqN ?_)
    refine cSeq ?_
    refine cDraw rfl ?_
    refine sMv (v := .pointer _) rfl ?_
    refine sNC rfl ?_
    refine sFA F50_2 rfl ?_
    refine sLd A48 rfl (by simp (disch := first | omega | (simp only [Array.size_push, Array.size_setIfInBounds]; done) | (simp only [Array.size_push, Array.size_setIfInBounds]; omega)) only [gP, gPn, gS, gSn, g0]; try rfl) rfl ?_
    refine sMv (v := .pointer _) rfl ?_
    refine sNC rfl ?_
    refine sFA F50_0 rfl ?_
    refine sLd A22 rfl (by simp (disch := first | omega | (simp only [Array.size_push, Array.size_setIfInBounds]; done) | (simp only [Array.size_push, Array.size_setIfInBounds]; omega)) only [gP, gPn, gS, gSn, g0]; try rfl) rfl ?_
    refine sMv (v := .pointer _) rfl ?_
    refine sNC rfl ?_
    refine sFA F50_1 rfl ?_
    refine sLd A3 rfl (by simp (disch := first | omega | (simp only [Array.size_push, Array.size_setIfInBounds]; done) | (simp only [Array.size_push, Array.size_setIfInBounds]; omega)) only [gP, gPn, gS, gSn, g0]; try rfl) rfl ?_
    refine sMv (v := .pointer _) rfl ?_
    refine sNC rfl ?_
    refine sFA F50_0 rfl ?_
    refine sLd A22 rfl (by simp (disch := first | omega | (simp only [Array.size_push, Array.size_setIfInBounds]; done) | (simp only [Array.size_push, Array.size_setIfInBounds]; omega)) only [gP, gPn, gS, gSn, g0]; try rfl) rfl ?_
    refine sLen T22 rfl ?_
    refine sBin rfl rfl (aInt_rem (by omega)) ?_
    refine sIx T22 S5 rfl rfl hm ?_
    refine sLd (v := .int .u8 by_) A5 rfl (by simp (disch := first | omega | (simp only [Array.size_push, Array.size_setIfInBounds]; done) | (simp only [Array.size_push, Array.size_setIfInBounds]; omega)) only [gP, gPn, gS, gSn, e4]; try rfl) hx ?_
    refine sP (v := .int .u32 (Int.ofNat zc)) hconv ?_
    refine sU32 rfl rfl rfl fun z92 hz92 => ?_
    refine sU32 rfl rfl rfl fun z93 hz93 => ?_
    refine sNC rfl ?_
    refine sFA F50_2 rfl ?_
    refine sSt (v := .int .u32 _) S48 rfl rfl (by simp (disch := first | omega | (simp only [Array.size_push, Array.size_setIfInBounds]; done) | (simp only [Array.size_push, Array.size_setIfInBounds]; omega)) only [gP, gPn, gS, gSn, g0]; try rfl) (by first | decide | omega | simp) rfl rfl ?_
    refine sNil (kSeqN ?_)
    refine cRegion ?_
    refine sMv (v := .pointer _) rfl ?_
    refine sNC rfl ?_
    refine sFA F50_1 rfl ?_
    refine sLd A3 rfl (by simp (disch := first | omega | (simp only [Array.size_push, Array.size_setIfInBounds]; done) | (simp only [Array.size_push, Array.size_setIfInBounds]; omega)) only [gP, gPn, gS, gSn, g0]; try rfl) rfl ?_
    refine sBin rfl rfl (aInt_add (b := 1) (by omega)) ?_
    refine sNC rfl ?_
    refine sFA F50_1 rfl ?_
    refine sSt (v := nv _) S3 rfl rfl (by simp (disch := first | omega | (simp only [Array.size_push, Array.size_setIfInBounds]; done) | (simp only [Array.size_push, Array.size_setIfInBounds]; omega)) only [gP, gPn, gS, gSn, g0]; try rfl) (by first | decide | omega | simp) rfl rfl ?_
    refine sNil (kSeqN ?_)
    refine cSeq ?_
    refine cRegion ?_
    refine sMv (v := .int .u32 _) rfl ?_
    refine sAs (v := .int .u32 _) rfl ?_
    refine sNil (kSeqN ?_)
    refine cRet ?_
    refine ⟨.inr rfl, _, rfl, ⟨_, rfl, by omega⟩, ⟨hb1, hb2, by simp; omega, .slice (some ⟨bb, o, some 1⟩) l.length cap, nx + 1, z93, l, ?_, by omega, hz93, ?_, hl⟩, ?_⟩
    · simp (disch := first | omega | (simp only [Array.size_push, Array.size_setIfInBounds]; done) | (simp only [Array.size_push, Array.size_setIfInBounds]; omega)) only [gP, gPn, gS, gSn, g0]; try rfl
    · exact .inr ⟨bb, o, cap, r, c, rfl, e2, e3, (by simp (disch := first | omega | (simp only [Array.size_push, Array.size_setIfInBounds]; done) | (simp only [Array.size_push, Array.size_setIfInBounds]; omega)) only [gP, gPn, gS, gSn, e4]; try rfl), e5⟩
    · exact ((((Only.set b m _).trans (.set _ _ _)).trans (.set _ _ _)).trans (.set _ _ _)).trans (.set _ _ _)
  ·
    refine cSkip (kSeqN ?_)
    refine cSeq ?_
    refine cRegion ?_
    refine sMv (v := .int .u32 _) rfl ?_
    refine sAs (v := .int .u32 _) rfl ?_
    refine sNil (kSeqN ?_)
    refine cRet ?_
    refine ⟨.inr rfl, _, rfl, ⟨_, rfl, by omega⟩, ⟨hb1, hb2, by simp; omega, .slice q l.length cap, nx, z37, l, ?_, by omega, hz37, ?_, hl⟩, ?_⟩
    · simp (disch := first | omega | (simp only [Array.size_push, Array.size_setIfInBounds]; done) | (simp only [Array.size_push, Array.size_setIfInBounds]; omega)) only [gP, gPn, gS, gSn, g0]; try rfl
    · exact hBs.keep fun c h1 h2 => by rw [gSn (by omega), gSn (by omega), gSn (by omega)]
    · exact ((Only.set b m _).trans (.set _ _ _)).trans (.set _ _ _)

theorem okf19 : okF Tryz.prog H0 19 13 = true := by kernel_rfl
theorem spec_SLess {m : Mem} {N0 N b k n : Nat} (h : StoreAt N0 N m b k) (hk : k < 1000000) (hn : 0 < n) (hn2 : n < 2 ^ 62) : ∃ v m', ACalls Tryz.prog 19 #[.pointer (some ⟨b, 0, none⟩), nv n] m v m' ∧ ((∃ x, v = nv x ∧ x < n) ∧ StoreAt N0 N m' b (k + 1) ∧ Only b m m') := by
  refine wpF (args := [_, _]) mixed okf19 (fn := Tryz.f19) rfl rfl rfl (by simp) ?_
  refine cSeq ?_
  refine cRegion ?_
  refine sAs (v := nv 0) rfl ?_
  refine sNil (kSeqN ?_)
  refine cSeq ?_   -- seq 1
  refine cSeq ?_
  refine cRegion ?_
  refine sMv (v := nv _) rfl ?_
  refine sBin (b := 0) rfl rfl (aInt_leq) ?_
  refine sNil (kSeqN ?_)
  refine cCondF' rfl (by omega) ?_
  refine cSkip (kSeqN ?_)
  refine cSeq ?_
  refine cRegion ?_
  refine sMv (v := .pointer _) rfl ?_
  obtain ⟨v8, m8, h8, ⟨z, rfl, hz⟩, hS8, hO8⟩ := spec_draw h hk
  refine sCall1 rfl call50 rfl h8 ?_
  refine sShr32 (b := 4) rfl rfl (by omega) ?_
  have hz9 := Nat.shiftRight_le z 4
  generalize z >>> 4 = z9 at *
  refine sP (v := nv z9) (conv48_3 (by omega)) ?_
  refine sMv (v := nv _) rfl ?_
  refine sBin rfl rfl (aInt_rem (by omega)) ?_
  refine sAs (v := nv _) rfl ?_
  refine sNil (kSeqN ?_)
  refine cRet ?_
  exact ⟨.inr rfl, _, rfl, ⟨_, rfl, Nat.mod_lt _ hn⟩, hS8, hO8⟩

theorem okf21 : okF Tryz.prog H0 21 9 = true := by kernel_rfl
theorem spec_Seldom {m : Mem} {N0 N b k n : Nat} (h : StoreAt N0 N m b k) (hk : k < 1000000) (hn : 0 < n) (hn2 : n < 2 ^ 62) : ∃ v m', ACalls Tryz.prog 21 #[.pointer (some ⟨b, 0, none⟩), nv n] m v m' ∧ ((∃ x : Nat, v = .bool (decide (x = 0))) ∧ StoreAt N0 N m' b (k + 1) ∧ Only b m m') := by
  obtain ⟨v7, m7, h7, ⟨x, rfl, hx⟩, hS7, hO7⟩ := spec_SLess h hk hn hn2
  refine wpF (args := [_, _]) mixed okf21 (fn := Tryz.f21) rfl rfl rfl (by simp) ?_
  refine cSeq ?_
  refine cRegion ?_
  refine sAs (v := .bool _) rfl ?_
  refine sNil (kSeqN ?_)
  refine cSeq ?_
  refine cRegion ?_
  refine sMv (v := .pointer _) rfl ?_
  refine sMv (v := nv _) rfl ?_
  refine sCall2 rfl call19 rfl rfl h7 ?_
  refine sBin (b := 0) rfl rfl (aInt_eql) ?_
  refine sAs (v := .bool _) rfl ?_
  refine sNil (kSeqN ?_)
  refine cRet ?_
  exact ⟨.inr rfl, _, rfl, ⟨x, rfl⟩, hS7, hO7⟩

end Go.AM

/-! ### S4 -/
namespace Go.AM
open Go.Proofs
set_option maxRecDepth 100000
set_option linter.unusedVariables false
set_option linter.unusedSimpArgs false
def insN (L : List Nat) (i x : Nat) : List Nat := L.take i ++ x :: L.drop i
theorem insL_ofs (L : List Nat) (i x : Nat) : insL (ofs L) i (Int.ofNat x) = ofs (insN L i x) := by simp [insL, insN, ofs]
theorem insN_len {L : List Nat} {i : Nat} (h : i ≤ L.length) (x : Nat) : (insN L i x).length = L.length + 1 := by simp [insN]; omega
theorem insN_perm (L : List Nat) (i x : Nat) : (insN L i x).Perm (x :: L) := by
  have h := List.perm_middle (a := x) (l₁ := L.take i) (l₂ := L.drop i)
  rwa [List.take_append_drop] at h
def sort2 : List Nat → List Nat
  | [a, b] => if b < a then [b, a] else [a, b]
  | l => l
theorem sort2_len (L : List Nat) : (sort2 L).length = L.length := by
  unfold sort2
  split
  · split <;> rfl
  · rfl
theorem sort2_perm (L : List Nat) : (sort2 L).Perm L := by
  unfold sort2
  split
  · split
    · exact List.Perm.swap _ _ _
    · exact .refl _
  · exact .refl _
theorem sort2_rise {L : List Nat} (h : L.length ≤ 2) (hn : L.Nodup) : (sort2 L).Pairwise (· < ·) := by
  match L, h, hn with
  | [], _, _ => simp [sort2]
  | [a], _, _ => simp [sort2]
  | [a, b], _, hn =>
    have hab : a ≠ b := by simpa using hn
    unfold sort2
    simp only
    split
    · simp; omega
    · simp; omega
def lenT : Nat → Nat
  | 0 => 0
  | 1 => 1
  | _ => 2
theorem mk_own' {m m' : Mem} {M x : Nat} (hM : M ≤ m.size) (hl : Low M (m.push (.cells true #[nv x])) m') : Low M m m' := (Low.push M hM _).trans hl
theorem conv3_104s {x : Nat} (h : x ≤ 2) : aConv Tryz.prog 3 91 (nv x) = some (.int .u64 (Int.ofNat x)) := conv3_91 (by omega)

theorem okf17 : okF Tryz.prog H0 17 15 = true := by kernel_rfl
theorem spec_From {m : Mem} {N0 N b k lo hi : Nat} (h : StoreAt N0 N m b k) (hk : k < 1000000) (hlo : lo ≤ hi) (hhi : hi < 2 ^ 60) : ∃ v m', ACalls Tryz.prog 17 #[.pointer (some ⟨b, 0, none⟩), nv lo, nv hi] m v m' ∧ ((∃ x, v = nv x ∧ lo ≤ x ∧ x ≤ hi) ∧ StoreAt N0 N m' b (k + 1) ∧ Only b m m') := by
  refine wpF (args := [_, _, _]) mixed okf17 (fn := Tryz.f17) rfl rfl rfl (by simp) ?_
  refine cSeq ?_
  refine cRegion ?_
  refine sAs (v := nv 0) rfl ?_
  refine sNil (kSeqN ?_)
  refine cSeq ?_
  refine cRegion ?_
  refine sMv (v := nv _) rfl ?_
  refine sMv (v := .pointer _) rfl ?_
  refine sMv (v := nv _) rfl ?_
  refine sMv (v := nv _) rfl ?_
  refine sBin (a := hi) (b := lo) rfl rfl (aInt_sub (by omega)) ?_
  refine sBin (b := 1) rfl rfl (aInt_add (by omega)) ?_
  obtain ⟨v13, m13, h13, ⟨x, rfl, hx⟩, hS13, hO13⟩ := spec_SLess (n := hi - lo + 1) h hk (by omega) (by omega)
  refine sCall2 rfl call19 rfl rfl h13 ?_
  refine sBin (a := lo) (b := x) rfl rfl (aInt_add (by omega)) ?_
  refine sAs (v := nv _) rfl ?_
  refine sNil (kSeqN ?_)
  refine cRet ?_
  exact ⟨.inr rfl, _, rfl, ⟨lo + x, rfl, by omega, by omega⟩, hS13, hO13⟩

theorem okf18 : okF Tryz.prog H0 18 21 = true := by kernel_rfl
theorem spec_Order {m : Mem} {N0 N b k n : Nat} (h : StoreAt N0 N m b k) (hk : k < 100000) (hN0 : N0 ≤ b) (hn : n ≤ 1000) : ∃ v m', ACalls Tryz.prog 18 #[.pointer (some ⟨b, 0, none⟩), nv n] m v m' ∧ (∃ L : List Nat, OwnF m.size m' v (ofs L) ∧ L.length = n ∧ (∀ x ∈ L, x < n) ∧ L.Nodup ∧ StoreAt N0 N m' b (k + n) ∧ LowX m.size b m m') := by
  have hbm : b < m.size := by have := h.lt; omega
  have hNm : N ≤ m.size := h.lt.2
  refine wpF (args := [_, _]) mixed okf18 (fn := Tryz.f18) rfl rfl rfl (by simp) ?_
  refine cSeq ?_
  refine cRegion ?_
  refine sAs (v := .slice _ _ _) rfl ?_
  refine sNil (kSeqN ?_)
  refine cSeq ?_
  refine cRegion ?_
  refine sAs (v := .slice _ _ _) rfl ?_
  refine sNil (kSeqN ?_)
  refine cSeq ?_
  refine cSeq ?_
  refine cRegion ?_
  refine sMv (v := nv _) rfl ?_
  refine sMv (v := nv 0) rfl ?_
  refine sNil (kSeqN ?_)
  refine cBlock ?_
  refine wpC_loop (fun k' ρ m' => ∃ i v L, k' = n - i ∧ i ≤ n ∧ L.length = i ∧ (∀ x ∈ L, x < i) ∧ L.Nodup ∧ OwnF m.size m' v (ofs L) ∧ StoreAt N0 N m' b (k + i) ∧ LowX m.size b m m' ∧ Has ρ [(0, .pointer (some ⟨b, 0, none⟩)), (5, v), (7, nv n), (8, nv i)]) ⟨0, _, [], rfl, by omega, rfl, by simp, .nil, .nil _ _, h, .refl _ _ _, rfl, rfl, rfl, rfl, trivial⟩ ?_
  rintro k' ρ m' ⟨i, v, L, rfl, hi, hLi, hLx, hLn, hO, hS, hX, hh⟩
  obtain ⟨qv, cv, rfl⟩ := hO.ints.lenN
  rw [hh.env]; clear hh
  refine cSeq ?_
  refine cRegion ?_
  refine sBin rfl rfl (aInt_lss) ?_
  refine sNil (kSeqN ?_)
  refine cSeq ?_   -- seq 5
  refine cCond rfl (fun c0 => ?_) (fun c0 => ?_)
  ·
    refine cSkip (kSeqN ?_)
    refine cSeq ?_
    refine cBlock ?_
    refine cSeq ?_
    refine cRegion ?_
    refine sMv (v := nv _) rfl ?_
    refine sAs (v := nv _) rfl ?_
    refine sNil (kSeqN ?_)
    refine cRegion ?_
    refine sMv (v := .slice _ _ _) rfl ?_
    refine sMv (v := .pointer _) rfl ?_
    refine sMv (v := nv _) rfl ?_
    refine sBin (b := 1) rfl rfl (aInt_add (by omega)) ?_
    obtain ⟨v15, m15, h15, ⟨p, rfl, hp⟩, hS15, hO15⟩ := spec_SLess (n := i + 1) hS (by omega) (by omega) (by omega)
    refine sCall2 rfl call19 rfl rfl h15 ?_
    have hOa := hO.only hO15 hbm
    have hXa := hX.trans hO15.x
    have hz := hXa.1
    refine sMv (v := nv _) rfl ?_
    refine sBuildS T29 S3 Z3 (by decide) (by decide) (by decide) (by kernel_rfl) fill1 rfl ?_
    obtain ⟨v18, m18, h18, hO18, hL18⟩ := spec_Insert (bx := m15.size) (k := 1) (i := p) (x := Int.ofNat i) (hOa.ext (.push _ (.cells true #[nv i]))) (gP rfl) (fun e => by have := (hOa.lt e).2; omega) (by rw [ofs_length]; omega) (by rw [ofs_length]; omega) (by simp; omega)
    rw [insL_ofs] at hO18
    obtain ⟨q18, c18, rfl⟩ := hO18.ints.lenN
    refine sCall3 rfl call49 rfl rfl rfl h18 ?_
    refine sAs (v := .slice _ _ _) rfl ?_
    refine sNil (kBlkN (kSeqN ?_))
    refine cRegion ?_
    refine sBin rfl rfl (aInt_add (b := 1) (by omega)) ?_
    refine sMv (v := nv _) rfl ?_
    refine sNil (kSeqN ?_)
    have hL4 := mk_own' hz hL18
    refine ⟨_, ?_, i + 1, _, insN L p i, rfl, by omega, by rw [insN_len (by omega), hLi], fun x hx => ?_, ?_, hO18, (hS15.low hN0 hL4 hNm).le (by omega), hXa.trans hL4.x, rfl, rfl, rfl, rfl, trivial⟩
    · omega
    · rcases List.mem_cons.1 ((insN_perm L p i).mem_iff.1 hx) with rfl | hx
      · omega
      · have := hLx x hx; omega
    · refine (insN_perm L p i).nodup_iff.2 (List.nodup_cons.2 ⟨fun hm => ?_, hLn⟩)
      have := hLx i hm; omega
  ·
    refine cExit (kSeqE (kSeqE (kBlkS (kSeqN ?_))))
    refine cSeq ?_
    refine cRegion ?_
    refine sMv (v := .slice _ _ _) rfl ?_
    refine sAs (v := .slice _ _ _) rfl ?_
    refine sNil (kSeqN ?_)
    refine cRet ?_
    obtain rfl : i = n := by omega
    exact ⟨.inr rfl, _, rfl, L, hO, hLi, hLx, hLn, hS, hX⟩

theorem okf85 : okF Tryz.prog H0 85 25 = true := by kernel_rfl
theorem spec_Len64 {m : Mem} {x : Nat} (hx : x ≤ 2) : ACalls Tryz.prog 85 #[.int .u64 (Int.ofNat x)] m (nv (lenT x)) m := by
  suffices h : ∃ v m', ACalls Tryz.prog 85 #[.int .u64 (Int.ofNat x)] m v m' ∧ (v = nv (lenT x) ∧ m' = m) by
    obtain ⟨v, m', h, rfl, rfl⟩ := h; exact h
  have hx3 : x = 0 ∨ x = 1 ∨ x = 2 := by omega
  refine wpF (args := [_]) mixed okf85 (fn := Tryz.f85) rfl rfl rfl (by simp) ?_
  refine cSeq ?_
  refine cRegion ?_
  refine sAs (v := nv 0) rfl ?_
  refine sNil (kSeqN ?_)
  refine cSeq ?_   -- seq 1
  refine cSeq ?_
  refine cRegion ?_
  refine sMv (v := .int .u64 (Int.ofNat x)) rfl ?_
  refine sBinI (v := .bool false) rfl rfl (by rcases hx3 with rfl | rfl | rfl <;> rfl) ?_
  refine sNil (kSeqN ?_)
  refine cCondF rfl ?_
  refine cSkip (kSeqN ?_)
  refine cSeq ?_   -- seq 3
  refine cSeq ?_
  refine cRegion ?_
  refine sMv (v := .int .u64 (Int.ofNat x)) rfl ?_
  refine sBinI (v := .bool false) rfl rfl (by rcases hx3 with rfl | rfl | rfl <;> rfl) ?_
  refine sNil (kSeqN ?_)
  refine cCondF rfl ?_
  refine cSkip (kSeqN ?_)
  refine cSeq ?_   -- seq 5
  refine cSeq ?_
  refine cRegion ?_
  refine sMv (v := .int .u64 (Int.ofNat x)) rfl ?_
  refine sBinI (v := .bool false) rfl rfl (by rcases hx3 with rfl | rfl | rfl <;> rfl) ?_
  refine sNil (kSeqN ?_)
  refine cCondF rfl ?_
  refine cSkip (kSeqN ?_)
  refine cSeq ?_
  refine cRegion ?_
  refine sMv (v := nv _) rfl ?_
  refine sMv (v := .int .u64 (Int.ofNat x)) rfl ?_
  refine sP (v := .int .u8 (Int.ofNat x)) (by rcases hx3 with rfl | rfl | rfl <;> kernel_rfl) ?_
  refine sP (v := .int .u8 (Int.ofNat (lenT x))) (by rcases hx3 with rfl | rfl | rfl <;> kernel_rfl) ?_
  refine sP (v := nv (lenT x)) (by rcases hx3 with rfl | rfl | rfl <;> kernel_rfl) ?_
  refine sBin (v := nv (lenT x)) (a := 0) (b := lenT x) rfl rfl (by rcases hx3 with rfl | rfl | rfl <;> kernel_rfl) ?_
  refine sAs (v := nv _) rfl ?_
  refine sNil (kSeqN ?_)
  refine cRet ?_
  exact ⟨.inr rfl, _, rfl, rfl, rfl⟩

theorem okf52 : okF Tryz.prog H0 52 8 = true := by kernel_rfl
theorem spec_Len {m : Mem} {x : Nat} (hx : x ≤ 2) : ACalls Tryz.prog 52 #[.int .u64 (Int.ofNat x)] m (nv (lenT x)) m := by
  suffices h : ∃ v m', ACalls Tryz.prog 52 #[.int .u64 (Int.ofNat x)] m v m' ∧ (v = nv (lenT x) ∧ m' = m) by
    obtain ⟨v, m', h, rfl, rfl⟩ := h; exact h
  refine wpF (args := [_]) mixed okf52 (fn := Tryz.f52) rfl rfl rfl (by simp) ?_
  refine cSeq ?_
  refine cRegion ?_
  refine sAs (v := nv 0) rfl ?_
  refine sNil (kSeqN ?_)
  refine cSeq ?_   -- seq 1
  refine cCondF rfl ?_
  refine cSkip (kSeqN ?_)
  refine cSeq ?_
  refine cRegion ?_
  refine sMv (v := .int .u64 (Int.ofNat x)) rfl ?_
  refine sCall1 rfl call85 rfl (spec_Len64 hx) ?_
  refine sAs (v := nv _) rfl ?_
  refine sNil (kSeqN ?_)
  refine cRet ?_
  exact ⟨.inr rfl, _, rfl, rfl, rfl⟩

end Go.AM
