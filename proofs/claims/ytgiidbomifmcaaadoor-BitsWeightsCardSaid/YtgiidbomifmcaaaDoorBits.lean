/- Contracts of the package bits (part 1 of 3). -/
import Derived.Test.YtgiidbomifmcaaaDoorFacts
import Derived.Test.YtgiidbomifmcaaaDoorPlain
import Derived.Test.YtgiidbomifmcaaaDoorWalks
set_option linter.unusedVariables false
set_option linter.unusedSimpArgs false
/-! ### E1 -/
namespace Go.AM
open Go.Proofs
set_option maxRecDepth 100000
set_option linter.unusedVariables false
set_option linter.unusedSimpArgs false

/-- Pairs of numbers, one behind the other. -/
def PairsAt (m : Mem) (v : Value) (l : List (Nat × Nat)) : Prop :=
  ∃ b cap r c, v = .slice (some ⟨b, 0, some 2⟩) l.length cap ∧ Mem.get m b = .cells r c ∧ c.size = l.length * 2 ∧ ∀ (i : Nat) (x : Nat × Nat), l[i]? = some x → c.extract (0 + i * 2) (0 + i * 2 + 2) = #[nv x.1, nv x.2]
def sumP (l : List (Nat × Nat)) : Nat × Nat := l.foldl (fun a p => (a.1 ^^^ p.1, a.2 ^^^ p.2)) (0, 0)
theorem sumP_snoc (l : List (Nat × Nat)) (x : Nat × Nat) : sumP (l ++ [x]) = ((sumP l).1 ^^^ x.1, (sumP l).2 ^^^ x.2) := by simp [sumP]
theorem sumP_lt {l : List (Nat × Nat)} (h : ∀ x ∈ l, x.1 < 2 ^ 62 ∧ x.2 < 2 ^ 62) : ∀ k, (sumP (l.take k)).1 < 2 ^ 62 ∧ (sumP (l.take k)).2 < 2 ^ 62
  | 0 => by simp [sumP]
  | k + 1 => by
    by_cases hk : k < l.length
    · rw [List.take_succ_eq_append_getElem hk, sumP_snoc]
      have h1 := sumP_lt h k
      have h2 := h _ (List.getElem_mem hk)
      exact ⟨Nat.xor_lt_two_pow h1.1 h2.1, Nat.xor_lt_two_pow h1.2 h2.2⟩
    · have := sumP_lt h k
      rw [List.take_of_length_le (by omega)] at this ⊢
      exact this

theorem okf115 : okF Tryd.prog H0 115 26 = true := by kernel_rfl
theorem spec_sum {m : Mem} {a : Value} {l : List (Nat × Nat)} (ha : PairsAt m a l) (hl : l.length < 1000) (hx : ∀ x ∈ l, x.1 < 2 ^ 62 ∧ x.2 < 2 ^ 62) : ∃ v m', ACalls Tryd.prog 115 #[a] m v m' ∧ (v = .agg #[nv (sumP l).1, nv (sumP l).2] ∧ Ext m m') := by
  obtain ⟨b, cap, r, c, rfl, hb, hsz, hc⟩ := ha
  have hbm := live hb
  refine wpF (args := [_]) mixed okf115 (fn := Tryd.f115) rfl rfl rfl (by simp) ?_
  refine cSeq ?_
  refine cRegion ?_
  refine sAlloc Z94 (by kernel_rfl) ?_
  refine sNil (kSeqN ?_)
  refine cSeq ?_
  refine cRegion ?_
  refine sAllocB (bl := m.size + 1) (by simp) Z94 (by kernel_rfl) ?_
  refine sNil (kSeqN ?_)
  refine cSeq ?_
  refine cSeq ?_
  refine cRegion ?_
  refine sMv (v := .slice _ _ _) rfl ?_
  refine sLen T112 rfl ?_
  refine sMv (v := nv 0) rfl ?_
  refine sNil (kSeqN ?_)
  refine cBlock ?_
  refine wpC_loop (fun k ρ m' => ∃ i, k = l.length - i ∧ i ≤ l.length ∧ Ext m m' ∧ m.size + 2 ≤ m'.size ∧ Mem.get m' m.size = .cells true #[nv 0, nv 0] ∧ Mem.get m' (m.size + 1) = .cells true #[nv (sumP (l.take i)).1, nv (sumP (l.take i)).2] ∧ Has ρ [(2, .pointer (some ⟨m.size, 0, none⟩)), (3, .pointer (some ⟨m.size + 1, 0, none⟩)), (6, .slice (some ⟨b, 0, some 2⟩) l.length cap), (7, nv l.length), (8, nv i)]) ⟨0, rfl, by omega, (Ext.push _ _).push' _, by simp [Array.size_push], (by simp (disch := first | omega | (simp only [Array.size_push, Array.size_setIfInBounds]; done) | (simp only [Array.size_push, Array.size_setIfInBounds]; omega)) only [gP, gPn, gS, gSn]; try rfl), (by simp (disch := first | omega | (simp only [Array.size_push, Array.size_setIfInBounds]; done) | (simp only [Array.size_push, Array.size_setIfInBounds]; omega)) only [gP, gPn, gS, gSn]; try rfl), rfl, rfl, rfl, rfl, rfl, trivial⟩ ?_
  rintro k ρ m' ⟨i, rfl, hi, he, hs, g2, g3, hh⟩
  rw [hh.env]; clear hh
  have gb := he.cells hb
  have hbm' := live gb
  refine cSeq ?_
  refine cRegion ?_
  refine sBin rfl rfl (aInt_lss) ?_
  refine sNil (kSeqN ?_)
  refine cSeq ?_   -- seq 5
  refine cCond rfl (fun c0 => ?_) (fun c0 => ?_)
  ·
    have hx1 := hx l[i] (List.getElem_mem c0)
    have hx2 := sumP_lt hx i
    refine cSkip (kSeqN ?_)
    refine cSeq ?_
    refine cBlock ?_
    refine cSeq ?_
    refine cRegion ?_
    refine sIx T112 S94 rfl rfl (by omega) ?_
    refine sLdA A94 S94 rfl (by simp (disch := first | omega | (simp only [Array.size_push, Array.size_setIfInBounds]; done) | (simp only [Array.size_push, Array.size_setIfInBounds]; omega)) only [gP, gPn, gS, gSn, g2, g3, gb]; try rfl) (by omega) ?_
    rw [hc i l[i] (by simp)]
    refine sAlloc Z94 (by kernel_rfl) ?_
    refine sStNA S94 rfl rfl rfl rfl (by kernel_rfl) ?_
    refine sNil (kSeqN ?_)
    refine cSeq ?_
    refine cRegion ?_
    refine sFA F94_0 rfl ?_
    refine sLd A3 rfl (by simp (disch := first | omega | (simp only [Array.size_push, Array.size_setIfInBounds]; done) | (simp only [Array.size_push, Array.size_setIfInBounds]; omega)) only [gP, gPn, gS, gSn, g2, g3, gb]; try rfl) rfl ?_
    refine sFA F94_0 rfl ?_
    refine sLd A3 rfl (by simp (disch := first | omega | (simp only [Array.size_push, Array.size_setIfInBounds]; done) | (simp only [Array.size_push, Array.size_setIfInBounds]; omega)) only [gP, gPn, gS, gSn, g2, g3, gb]; try rfl) rfl ?_
    refine sBin rfl rfl (aInt_xor (by omega)) ?_
    refine sFA F94_0 rfl ?_
    refine sSt (v := nv _) S3 rfl rfl (by simp (disch := first | omega | (simp only [Array.size_push, Array.size_setIfInBounds]; done) | (simp only [Array.size_push, Array.size_setIfInBounds]; omega)) only [gP, gPn, gS, gSn, g2, g3, gb]; try rfl) (by first | decide | omega | simp) rfl rfl ?_
    refine sNil (kSeqN ?_)
    refine cRegion ?_
    refine sFA F94_1 rfl ?_
    refine sLd A3 rfl (by simp (disch := first | omega | (simp only [Array.size_push, Array.size_setIfInBounds]; done) | (simp only [Array.size_push, Array.size_setIfInBounds]; omega)) only [gP, gPn, gS, gSn, g2, g3, gb]; try rfl) rfl ?_
    refine sFA F94_1 rfl ?_
    refine sLd A3 rfl (by simp (disch := first | omega | (simp only [Array.size_push, Array.size_setIfInBounds]; done) | (simp only [Array.size_push, Array.size_setIfInBounds]; omega)) only [gP, gPn, gS, gSn, g2, g3, gb]; try rfl) rfl ?_
    refine sBin rfl rfl (aInt_xor (by omega)) ?_
    refine sFA F94_1 rfl ?_
    refine sSt (v := nv _) S3 rfl rfl (by simp (disch := first | omega | (simp only [Array.size_push, Array.size_setIfInBounds]; done) | (simp only [Array.size_push, Array.size_setIfInBounds]; omega)) only [gP, gPn, gS, gSn, g2, g3, gb]; try rfl) (by first | decide | omega | simp) rfl rfl ?_
    refine sNil (kBlkN (kSeqN ?_))
    refine cRegion ?_
    refine sBin rfl rfl (aInt_add (b := 1) (by omega)) ?_
    refine sMv (v := nv _) rfl ?_
    refine sNil (kSeqN ?_)
    refine ⟨_, ?_, i + 1, rfl, by omega, ?_, ?_, ?_, ?_, rfl, rfl, rfl, rfl, rfl, trivial⟩
    · omega
    · exact ((he.push' _).set (by omega) _).set (by omega) _
    · simp; omega
    · simp (disch := first | omega | (simp only [Array.size_push, Array.size_setIfInBounds]; done) | (simp only [Array.size_push, Array.size_setIfInBounds]; omega)) only [gP, gPn, gS, gSn, g2, g3, gb]; try rfl
    · rw [List.take_succ_eq_append_getElem c0, sumP_snoc]
      simp (disch := first | omega | (simp only [Array.size_push, Array.size_setIfInBounds]; done) | (simp only [Array.size_push, Array.size_setIfInBounds]; omega)) only [gP, gPn, gS, gSn, g2, g3, gb]; try rfl
  ·
    refine cExit (kSeqE (kSeqE (kBlkS (kSeqN ?_))))
    refine cSeq ?_
    refine cRegion ?_
    refine sLdAll A94 S94 rfl (by simp (disch := first | omega | (simp only [Array.size_push, Array.size_setIfInBounds]; done) | (simp only [Array.size_push, Array.size_setIfInBounds]; omega)) only [gP, gPn, gS, gSn, g2, g3, gb]; try rfl) rfl ?_
    refine sStAll S94 rfl rfl (by simp (disch := first | omega | (simp only [Array.size_push, Array.size_setIfInBounds]; done) | (simp only [Array.size_push, Array.size_setIfInBounds]; omega)) only [gP, gPn, gS, gSn, g2, g3, gb]; try rfl) rfl rfl (by kernel_rfl) ?_
    refine sNil (kSeqN ?_)
    refine cRet ?_
    obtain rfl : i = l.length := by omega
    rw [List.take_length] at *
    exact ⟨.inr rfl, _, resRs_agg A94 S94 rfl (by simp (disch := first | omega | (simp only [Array.size_push, Array.size_setIfInBounds]; done) | (simp only [Array.size_push, Array.size_setIfInBounds]; omega)) only [gP, gPn, gS, gSn, g2, g3, gb]; try rfl) rfl, rfl, he.set (by omega) _⟩

end Go.AM

/-! ### E2 -/
namespace Go.AM
open Go.Proofs
set_option maxRecDepth 100000
set_option linter.unusedVariables false
set_option linter.unusedSimpArgs false

/-- Rows at work, in memory. -/
def SysAt (m : Mem) (p : Nat) (s : Sys) : Prop :=
  s.length = 24 ∧ ∃ c, Mem.get m p = .cells true c ∧ c.size = 49 ∧ ∀ k, k < 24 → c.extract (0 + 1 + k * 2) (0 + 1 + k * 2 + 2) = #[nv (s.at k).1, nv (s.at k).2]
def SysLt (s : Sys) : Prop := ∀ k, (s.at k).1 < 2 ^ 62 ∧ (s.at k).2 < 2 ^ 62
theorem SysAt.ext {m m' : Mem} {p : Nat} {s : Sys} (h : SysAt m p s) (he : Ext m m') : SysAt m' p s := by
  obtain ⟨h1, c, h2, h3⟩ := h
  exact ⟨h1, c, he.cells h2, h3⟩
theorem call115 : callable Tryd.prog 115 = true := by kernel_rfl
theorem Z112e : zeroOf Tryd.prog 94 = some (.agg #[nv 0, nv 0]) := Z94
theorem fill2 {a b c d : Int} : Instr.fill (fun i => some (i * 2, 2)) (if 2 * 2 = 0 then #[] else (Array.range (2 * 2)).map ((Value.agg #[nv 0, nv 0]).cells[· % (Value.agg #[nv 0, nv 0]).cells.size]!)) [(0, .agg #[.int .i64 a, .int .i64 b]), (1, .agg #[.int .i64 c, .int .i64 d])] = some #[.int .i64 a, .int .i64 b, .int .i64 c, .int .i64 d] := by kernel_rfl
theorem and_one (x k : Nat) : (x >>> k &&& 1 = 1) = (x.testBit k = true) := by
  rw [Nat.testBit, Nat.and_comm 1, bne_iff_ne]
  have := Nat.and_one_is_mod (x >>> k)
  apply propext; omega

theorem okf106 : okF Tryd.prog H0 106 29 = true := by kernel_rfl
theorem spec_split {m : Mem} {p : Nat} {s : Sys} {row : Nat} (hs : SysAt m p s) (hx : SysLt s) (hrow : row < 2 ^ 62) : ∃ v m', ACalls Tryd.prog 106 #[.pointer (some ⟨p, 0, none⟩), nv row] m v m' ∧ (v = .agg #[nv (splitM s 24 (row, 0)).1, nv (splitM s 24 (row, 0)).2] ∧ Ext m m') := by
  obtain ⟨hlen, c, hb, hsz, hc⟩ := hs
  have hbm := live hb
  refine wpF (args := [_, _]) mixed okf106 (fn := Tryd.f106) rfl rfl rfl (by simp) ?_
  refine cSeq ?_
  refine cRegion ?_
  refine sAlloc Z94 (by kernel_rfl) ?_
  refine sNil (kSeqN ?_)
  refine cSeq ?_
  refine cRegion ?_
  refine sMv (v := nv _) rfl ?_
  refine sBuild B94_0 ?_
  refine sAllocB (bl := m.size + 1) (by simp) Z94 (by kernel_rfl) ?_
  refine sStNAB (by simp) S94 rfl rfl rfl rfl (by kernel_rfl) ?_
  refine sNil (kSeqN ?_)
  refine cSeq ?_
  refine cSeq ?_
  refine cRegion ?_
  refine sAs (v := .int .i64 (Int.ofNat 24 - 1)) rfl ?_
  refine sNil (kSeqN ?_)
  refine cBlock ?_
  refine wpC_loop (fun k ρ m' => ∃ (j : Nat) (x : Nat × Nat), k = j ∧ j ≤ 24 ∧ x.1 < 2 ^ 62 ∧ x.2 < 2 ^ 62 ∧ splitM s j x = splitM s 24 (row, 0) ∧ Ext m m' ∧ m.size + 2 ≤ m'.size ∧ Mem.get m' m.size = .cells true #[nv 0, nv 0] ∧ Mem.get m' (m.size + 1) = .cells true #[nv x.1, nv x.2] ∧ Has ρ [(0, .pointer (some ⟨p, 0, none⟩)), (4, .pointer (some ⟨m.size, 0, none⟩)), (5, .pointer (some ⟨m.size + 1, 0, none⟩)), (6, .int .i64 (Int.ofNat j - 1))]) ⟨24, (row, 0), rfl, by omega, hrow, (by decide : 0 < 2 ^ 62), rfl, (Ext.push _ _).push' _, by simp, (by simp (disch := first | omega | (simp only [Array.size_push, Array.size_setIfInBounds]; done) | (simp only [Array.size_push, Array.size_setIfInBounds]; omega)) only [gP, gPn, gS, gSn]; try rfl), (by simp (disch := first | omega | (simp only [Array.size_push, Array.size_setIfInBounds]; done) | (simp only [Array.size_push, Array.size_setIfInBounds]; omega)) only [gP, gPn, gS, gSn]; try rfl), rfl, rfl, rfl, rfl, trivial⟩ ?_
  rintro j ρ m' ⟨_, x, rfl, hj, hx1, hx2, hsp, he, hz, g2, g3, hh⟩
  rw [hh.env]; clear hh
  have gb := he.cells hb
  have hbm' := live gb
  refine cSeq ?_   -- seq 4
  refine cSeq ?_
  refine cRegion ?_
  refine sMv (v := .int _ _) rfl ?_
  refine sBinI rfl rfl aInt_geqI ?_
  refine sNil (kSeqN ?_)
  refine cCond rfl (fun c0 => ?_) (fun c0 => ?_)
  ·
    obtain ⟨j, rfl⟩ : ∃ i, j = i + 1 := ⟨j - 1, by simp at c0; omega⟩
    have e1 : Int.ofNat (j + 1) - 1 = Int.ofNat j := by simp
    rw [e1]
    rw [splitM] at hsp
    have hsh : x.1 >>> j ≤ x.1 := Nat.shiftRight_le x.1 j
    refine cSkip (kSeqN ?_)
    refine cSeq ?_
    refine cBlock ?_
    refine cSeq ?_
    refine cRegion ?_
    refine sFA F94_0 rfl ?_
    refine sLd A3 rfl (by simp (disch := first | omega | (simp only [Array.size_push, Array.size_setIfInBounds]; done) | (simp only [Array.size_push, Array.size_setIfInBounds]; omega)) only [gP, gPn, gS, gSn, g2, g3, gb]; try rfl) rfl ?_
    refine sMv (v := nv _) rfl ?_
    refine sBin rfl rfl (aInt_shr (by omega)) ?_
    refine sBin rfl rfl (aInt_and (b := 1) (by omega)) ?_
    refine sBin rfl rfl (aInt_eql (b := 1)) ?_
    rw [decide_eq_decide.2 (iff_of_eq (and_one x.1 j))]
    refine sNil (kSeqN ?_)
    refine cCond rfl (fun c1 => ?_) (fun c1 => ?_)
    ·
      rw [if_pos c1] at hsp
      have hxs := hx j
      refine cDraw rfl ?_
      refine sLdAll A94 S94 rfl (by simp (disch := first | omega | (simp only [Array.size_push, Array.size_setIfInBounds]; done) | (simp only [Array.size_push, Array.size_setIfInBounds]; omega)) only [gP, gPn, gS, gSn, g2, g3, gb]; try rfl) rfl ?_
      refine sMv (v := .pointer _) rfl ?_
      refine sMv (v := nv _) rfl ?_
      refine sNC rfl ?_
      refine sFA F107_1 rfl ?_
      refine sIxA T105 S94 rfl rfl (by omega) ?_
      refine sLdA A94 S94 rfl (by simp (disch := first | omega | (simp only [Array.size_push, Array.size_setIfInBounds]; done) | (simp only [Array.size_push, Array.size_setIfInBounds]; omega)) only [gP, gPn, gS, gSn, g2, g3, gb]; try rfl) (by omega) ?_
      rw [hc j (by omega)]
      refine sBuildS T112 S94 Z94 (by decide) (by decide) (by decide) (by kernel_rfl) fill2 rfl ?_
      obtain ⟨v27, m27, h27, rfl, k27⟩ := spec_sum (m := m'.push (.cells true #[nv x.1, nv x.2, nv (s.at j).1, nv (s.at j).2])) (l := [x, s.at j]) (a := .slice (some ⟨m'.size, 0, some 2⟩) 2 2) ⟨_, _, _, _, rfl, (by simp (disch := first | omega | (simp only [Array.size_push, Array.size_setIfInBounds]; done) | (simp only [Array.size_push, Array.size_setIfInBounds]; omega)) only [gP, gPn, gS, gSn, g2, g3, gb]; try rfl), rfl, by
        intro i y hi
        match i with
        | 0 => simp at hi; subst hi; rfl
        | 1 => simp at hi; subst hi; rfl
        | i + 2 => simp at hi⟩ (by simp) (by simp; exact ⟨⟨hx1, hx2⟩, hxs⟩)
      refine sCall1 rfl call115 rfl h27 ?_
      have g3' := k27.cells (b := m.size + 1) ((by simp (disch := first | omega | (simp only [Array.size_push, Array.size_setIfInBounds]; done) | (simp only [Array.size_push, Array.size_setIfInBounds]; omega)) only [gP, gPn, gS, gSn, g2, g3, gb]; try rfl) : Mem.get _ _ = .cells true #[nv x.1, nv x.2])
      have g2' := k27.cells (b := m.size) ((by simp (disch := first | omega | (simp only [Array.size_push, Array.size_setIfInBounds]; done) | (simp only [Array.size_push, Array.size_setIfInBounds]; omega)) only [gP, gPn, gS, gSn, g2, g3, gb]; try rfl) : Mem.get _ _ = .cells true #[nv 0, nv 0])
      have hz2 := k27.1
      rw [Array.size_push] at hz2
      refine sStAll S94 rfl rfl (by simp (disch := first | omega | (simp only [Array.size_push, Array.size_setIfInBounds]; done) | (simp only [Array.size_push, Array.size_setIfInBounds]; omega)) only [gP, gPn, gS, gSn, g3']; try rfl) rfl rfl (by kernel_rfl) ?_
      refine sNil (kBlkN (kSeqN ?_))
      refine cRegion ?_
      refine sMv (v := nv _) rfl ?_
      refine sBin rfl rfl (aInt_subI (b := 1) (by simp; omega)) ?_
      refine sAs (v := .int _ _) rfl ?_
      refine sNil (kSeqN ?_)
      refine ⟨j, ?_, j, (x.1 ^^^ (s.at j).1, x.2 ^^^ (s.at j).2), rfl, by omega, Nat.xor_lt_two_pow hx1 hxs.1, Nat.xor_lt_two_pow hx2 hxs.2, hsp, ((he.push' _).trans k27).set (by omega) _, (by simp only [Array.size_push, Array.size_setIfInBounds]; omega), (by simp (disch := first | omega | (simp only [Array.size_push, Array.size_setIfInBounds]; done) | (simp only [Array.size_push, Array.size_setIfInBounds]; omega)) only [gP, gPn, gS, gSn, g2']; try rfl), by rw [gS rfl (by omega)]; simp [sumP], rfl, rfl, rfl, rfl, trivial⟩
      omega
    ·
      refine cSkip (kBlkN (kSeqN ?_))
      refine cRegion ?_
      refine sMv (v := nv _) rfl ?_
      refine sBin rfl rfl (aInt_subI (b := 1) (by simp; omega)) ?_
      refine sAs (v := .int _ _) rfl ?_
      refine sNil (kSeqN ?_)
      refine ⟨j, by omega, j, x, rfl, by omega, hx1, hx2, ?_, he, hz, g2, g3, rfl, rfl, rfl, rfl, trivial⟩
      rw [← hsp, if_neg c1]
  ·
    refine cExit (kSeqE (kSeqE (kBlkS (kSeqN ?_))))
    refine cSeq ?_
    refine cRegion ?_
    refine sLdAll A94 S94 rfl (by simp (disch := first | omega | (simp only [Array.size_push, Array.size_setIfInBounds]; done) | (simp only [Array.size_push, Array.size_setIfInBounds]; omega)) only [gP, gPn, gS, gSn, g2, g3, gb]; try rfl) rfl ?_
    refine sStAll S94 rfl rfl (by simp (disch := first | omega | (simp only [Array.size_push, Array.size_setIfInBounds]; done) | (simp only [Array.size_push, Array.size_setIfInBounds]; omega)) only [gP, gPn, gS, gSn, g2, g3, gb]; try rfl) rfl rfl (by kernel_rfl) ?_
    refine sNil (kSeqN ?_)
    refine cRet ?_
    obtain rfl : j = 0 := by simp at c0; omega
    rw [splitM] at hsp
    rw [← hsp]
    exact ⟨.inr rfl, _, resRs_agg A94 S94 rfl (by simp (disch := first | omega | (simp only [Array.size_push, Array.size_setIfInBounds]; done) | (simp only [Array.size_push, Array.size_setIfInBounds]; omega)) only [gP, gPn, gS, gSn, g2, g3, gb]; try rfl) rfl, rfl, he.set (by omega) _⟩

end Go.AM

/-! ### E3 -/
namespace Go.AM
open Go.Proofs
set_option maxRecDepth 100000
set_option linter.unusedVariables false
set_option linter.unusedSimpArgs false
def blenF : Nat → Nat → Nat
  | 0, _ => 0
  | f + 1, x => if x = 0 then 0 else 1 + blenF f (x / 2)
theorem blenF_eq : ∀ (f x : Nat), x < 2 ^ f → blenF f x = blen x
  | 0, x, h => by obtain rfl : x = 0 := by omega
                  simp [blenF, blen]
  | f + 1, x, h => by
    by_cases hx : x = 0
    · subst hx; simp [blenF, blen]
    · rw [blenF, if_neg hx, blenF_eq f (x / 2) (by rw [Nat.pow_succ] at h; omega), blen_pos (x := x) (by omega)]
theorem lenTab {i : Nat} (h : i < 256) : aIndex Tryd.prog 9 (.string (⟨#[0, 1, 2, 2, 3, 3, 3, 3, 4, 4, 4, 4, 4, 4, 4, 4, 5, 5, 5, 5, 5, 5, 5, 5, 5, 5, 5, 5, 5, 5, 5, 5, 6, 6, 6, 6, 6, 6, 6, 6, 6, 6, 6, 6, 6, 6, 6, 6, 6, 6, 6, 6, 6, 6, 6, 6, 6, 6, 6, 6, 6, 6, 6, 6, 7, 7, 7, 7, 7, 7, 7, 7, 7, 7, 7, 7, 7, 7, 7, 7, 7, 7, 7, 7, 7, 7, 7, 7, 7, 7, 7, 7, 7, 7, 7, 7, 7, 7, 7, 7, 7, 7, 7, 7, 7, 7, 7, 7, 7, 7, 7, 7, 7, 7, 7, 7, 7, 7, 7, 7, 7, 7, 7, 7, 7, 7, 7, 7, 8, 8, 8, 8, 8, 8, 8, 8, 8, 8, 8, 8, 8, 8, 8, 8, 8, 8, 8, 8, 8, 8, 8, 8, 8, 8, 8, 8, 8, 8, 8, 8, 8, 8, 8, 8, 8, 8, 8, 8, 8, 8, 8, 8, 8, 8, 8, 8, 8, 8, 8, 8, 8, 8, 8, 8, 8, 8, 8, 8, 8, 8, 8, 8, 8, 8, 8, 8, 8, 8, 8, 8, 8, 8, 8, 8, 8, 8, 8, 8, 8, 8, 8, 8, 8, 8, 8, 8, 8, 8, 8, 8, 8, 8, 8, 8, 8, 8, 8, 8, 8, 8, 8, 8, 8, 8, 8, 8, 8, 8, 8, 8, 8, 8, 8, 8, 8, 8, 8, 8, 8, 8, 8, 8, 8, 8, 8, 8]⟩ : ByteArray)) (.int .u64 (Int.ofNat i)) = some (.int .u8 (Int.ofNat (blen i))) := by
  have all : ∀ j : Fin 256, ((⟨#[0, 1, 2, 2, 3, 3, 3, 3, 4, 4, 4, 4, 4, 4, 4, 4, 5, 5, 5, 5, 5, 5, 5, 5, 5, 5, 5, 5, 5, 5, 5, 5, 6, 6, 6, 6, 6, 6, 6, 6, 6, 6, 6, 6, 6, 6, 6, 6, 6, 6, 6, 6, 6, 6, 6, 6, 6, 6, 6, 6, 6, 6, 6, 6, 7, 7, 7, 7, 7, 7, 7, 7, 7, 7, 7, 7, 7, 7, 7, 7, 7, 7, 7, 7, 7, 7, 7, 7, 7, 7, 7, 7, 7, 7, 7, 7, 7, 7, 7, 7, 7, 7, 7, 7, 7, 7, 7, 7, 7, 7, 7, 7, 7, 7, 7, 7, 7, 7, 7, 7, 7, 7, 7, 7, 7, 7, 7, 7, 8, 8, 8, 8, 8, 8, 8, 8, 8, 8, 8, 8, 8, 8, 8, 8, 8, 8, 8, 8, 8, 8, 8, 8, 8, 8, 8, 8, 8, 8, 8, 8, 8, 8, 8, 8, 8, 8, 8, 8, 8, 8, 8, 8, 8, 8, 8, 8, 8, 8, 8, 8, 8, 8, 8, 8, 8, 8, 8, 8, 8, 8, 8, 8, 8, 8, 8, 8, 8, 8, 8, 8, 8, 8, 8, 8, 8, 8, 8, 8, 8, 8, 8, 8, 8, 8, 8, 8, 8, 8, 8, 8, 8, 8, 8, 8, 8, 8, 8, 8, 8, 8, 8, 8, 8, 8, 8, 8, 8, 8, 8, 8, 8, 8, 8, 8, 8, 8, 8, 8, 8, 8, 8, 8, 8, 8, 8, 8]⟩ : ByteArray)[j.val]?).map (fun b => b.toNat) = some (blenF 8 j.val) := by decide +kernel
  have h1 := all ⟨i, h⟩
  have hT : undOf Tryd.prog 9 = some .string := by kernel_rfl
  rw [blenF_eq 8 i (by omega)] at h1
  simp only at h1
  simp only [aIndex, hT]
  rw [if_pos (by simp)]
  obtain ⟨b, hb1, hb2⟩ := Option.map_eq_some_iff.1 h1
  show Option.map _ (_[i]?) = _
  rw [hb1, ← hb2]; rfl
theorem conv98_5 {a : Nat} (h : a < 256) : aConv Tryd.prog 98 5 (.int .u64 (Int.ofNat a)) = some (.int .u8 (Int.ofNat a)) := by
  have h1 : undOf Tryd.prog 98 = some (.int .u64) := by kernel_rfl
  have h2 : undOf Tryd.prog 5 = some (.int .u8) := by kernel_rfl
  simp only [aConv, h1, h2]
  have : IntKind.u8.wrap (Int.ofNat a) = Int.ofNat a := by simp [IntKind.wrap, IntKind.bits, IntKind.signed]; omega
  rw [this]
theorem conv5_3 {a : Nat} (h : a < 256) : aConv Tryd.prog 5 3 (.int .u8 (Int.ofNat a)) = some (nv a) := by
  have h1 : undOf Tryd.prog 5 = some (.int .u8) := by kernel_rfl
  have h2 : undOf Tryd.prog 3 = some (.int .i64) := by kernel_rfl
  simp only [aConv, h1, h2]
  rw [wrapN (by omega)]
theorem conv3_55 {a : Nat} (h : a < 9223372036854775808) : aConv Tryd.prog 3 55 (nv a) = some (.int .u64 (Int.ofNat a)) := by
  have h1 : undOf Tryd.prog 3 = some (.int .i64) := by kernel_rfl
  have h2 : undOf Tryd.prog 55 = some (.int .u64) := by kernel_rfl
  simp only [aConv, h1, h2]
  rw [wrapU (by omega)]
theorem call113 : callable Tryd.prog 113 = true := by kernel_rfl
theorem call122 : callable Tryd.prog 122 = true := by kernel_rfl

theorem okf122 : okF Tryd.prog H0 122 25 = true := by kernel_rfl
theorem spec_Len64 {m : Mem} {x : Nat} (hx : x < 2 ^ 32) : ∃ v m', ACalls Tryd.prog 122 #[.int .u64 (Int.ofNat x)] m v m' ∧ (v = nv (blen x) ∧ m' = m) := by
  refine wpF (args := [_]) mixed okf122 (fn := Tryd.f122) rfl rfl rfl (by simp) ?_
  refine cSeq ?_
  refine cRegion ?_
  refine sAs (v := nv 0) rfl ?_
  refine sNil (kSeqN ?_)
  refine cSeq ?_   -- seq 1
  refine cSeq ?_
  refine cRegion ?_
  refine sMv (v := .int _ _) rfl ?_
  refine sBinI (b := 4294967296) rfl rfl aInt_geqI ?_
  refine sNil (kSeqN ?_)
  refine cCondF' rfl (by simp; omega) ?_
  refine cSkip (kSeqN ?_)
  refine cSeq ?_   -- seq 3
  refine cSeq ?_
  refine cRegion ?_
  refine sMv (v := .int _ _) rfl ?_
  refine sBinI (b := 65536) rfl rfl aInt_geqI ?_
  refine sNil (kSeqN ?_)
  refine cCond rfl (fun c1 => ?_) (fun c1 => ?_)
  ·
    have d1 : x >>> 16 < 65536 := by rw [Nat.shiftRight_eq_div_pow]; omega
    have b1 : blen x = 16 + blen (x >>> 16) := blen_shr (by simp at c1; omega)
    refine cSeq ?_
    refine cRegion ?_
    refine sMv (v := .int _ _) rfl ?_
    refine sBinI (a := Int.ofNat _) (b := Int.ofNat 16) rfl rfl (aInt_shrU (by omega)) ?_
    refine sAs (v := .int _ _) rfl ?_
    refine sNil (kSeqN ?_)
    refine cRegion ?_
    refine sMv (v := nv _) rfl ?_
    refine sBin (b := 16) rfl rfl (aInt_add (by omega)) ?_
    refine sAs (v := nv _) rfl ?_
    refine sNil (kSeqN ?_)
    refine cSeq ?_   -- seq 6
    refine cSeq ?_
    refine cRegion ?_
    refine sMv (v := .int _ _) rfl ?_
    refine sBinI (b := 256) rfl rfl aInt_geqI ?_
    refine sNil (kSeqN ?_)
    refine cCond rfl (fun c2 => ?_) (fun c2 => ?_)
    ·
      have d2 : x >>> 16 >>> 8 < 256 := by rw [Nat.shiftRight_eq_div_pow]; omega
      have b2 : blen (x >>> 16) = 8 + blen (x >>> 16 >>> 8) := blen_shr (by have h : (256 : Int) ≤ ((x >>> 16 : Nat) : Int) := c2; omega)
      have b3 := blen_le_of_lt (k := 8) (x := x >>> 16 >>> 8) (by omega)
      refine cSeq ?_
      refine cRegion ?_
      refine sMv (v := .int _ _) rfl ?_
      refine sBinI (a := Int.ofNat _) (b := Int.ofNat 8) rfl rfl (aInt_shrU (by omega)) ?_
      refine sAs (v := .int _ _) rfl ?_
      refine sNil (kSeqN ?_)
      refine cRegion ?_
      refine sMv (v := nv _) rfl ?_
      refine sBin (b := 8) rfl rfl (aInt_add (by omega)) ?_
      refine sAs (v := nv _) rfl ?_
      refine sNil (kSeqN ?_)
      refine cSeq ?_
      refine cRegion ?_
      refine sMv (v := nv _) rfl ?_
      refine sMv (v := .int _ _) rfl ?_
      refine sP (v := .int .u8 (Int.ofNat _)) (conv98_5 d2) ?_
      refine sP (v := .int .u8 (Int.ofNat _)) (lenTab d2) ?_
      refine sP (v := nv _) (conv5_3 (by omega)) ?_
      refine sBin rfl rfl (aInt_add (by omega)) ?_
      refine sAs (v := nv _) rfl ?_
      refine sNil (kSeqN ?_)
      refine cRet ?_
      exact ⟨.inr rfl, _, rfl, by rw [b1, b2]; exact congrArg nv (by omega), rfl⟩
    ·
      have d2 : x >>> 16 < 256 := by have h : ¬ (256 : Int) ≤ ((x >>> 16 : Nat) : Int) := c2; omega
      have b3 := blen_le_of_lt (k := 8) (x := x >>> 16) (by omega)
      refine cSkip (kSeqN ?_)
      refine cSeq ?_
      refine cRegion ?_
      refine sMv (v := nv _) rfl ?_
      refine sMv (v := .int _ _) rfl ?_
      refine sP (v := .int .u8 (Int.ofNat _)) (conv98_5 d2) ?_
      refine sP (v := .int .u8 (Int.ofNat _)) (lenTab d2) ?_
      refine sP (v := nv _) (conv5_3 (by omega)) ?_
      refine sBin rfl rfl (aInt_add (by omega)) ?_
      refine sAs (v := nv _) rfl ?_
      refine sNil (kSeqN ?_)
      refine cRet ?_
      exact ⟨.inr rfl, _, rfl, by rw [b1]; rfl, rfl⟩
  ·
    have d1 : x < 65536 := by simp at c1; omega
    refine cSkip (kSeqN ?_)
    refine cSeq ?_   -- seq 11
    refine cSeq ?_
    refine cRegion ?_
    refine sMv (v := .int _ _) rfl ?_
    refine sBinI (b := 256) rfl rfl aInt_geqI ?_
    refine sNil (kSeqN ?_)
    refine cCond rfl (fun c3 => ?_) (fun c3 => ?_)
    ·
      have d2 : x >>> 8 < 256 := by rw [Nat.shiftRight_eq_div_pow]; omega
      have b2 : blen x = 8 + blen (x >>> 8) := blen_shr (by simp at c3; omega)
      have b3 := blen_le_of_lt (k := 8) (x := x >>> 8) (by omega)
      refine cSeq ?_
      refine cRegion ?_
      refine sMv (v := .int _ _) rfl ?_
      refine sBinI (a := Int.ofNat _) (b := Int.ofNat 8) rfl rfl (aInt_shrU (by omega)) ?_
      refine sAs (v := .int _ _) rfl ?_
      refine sNil (kSeqN ?_)
      refine cRegion ?_
      refine sMv (v := nv _) rfl ?_
      refine sBin (b := 8) rfl rfl (aInt_add (by omega)) ?_
      refine sAs (v := nv _) rfl ?_
      refine sNil (kSeqN ?_)
      refine cSeq ?_
      refine cRegion ?_
      refine sMv (v := nv _) rfl ?_
      refine sMv (v := .int _ _) rfl ?_
      refine sP (v := .int .u8 (Int.ofNat _)) (conv98_5 d2) ?_
      refine sP (v := .int .u8 (Int.ofNat _)) (lenTab d2) ?_
      refine sP (v := nv _) (conv5_3 (by omega)) ?_
      refine sBin rfl rfl (aInt_add (by omega)) ?_
      refine sAs (v := nv _) rfl ?_
      refine sNil (kSeqN ?_)
      refine cRet ?_
      exact ⟨.inr rfl, _, rfl, by rw [b2]; rfl, rfl⟩
    ·
      have d2 : x < 256 := by simp at c3; omega
      have b3 := blen_le_of_lt (k := 8) (x := x) (by omega)
      refine cSkip (kSeqN ?_)
      refine cSeq ?_
      refine cRegion ?_
      refine sMv (v := nv _) rfl ?_
      refine sMv (v := .int _ _) rfl ?_
      refine sP (v := .int .u8 (Int.ofNat _)) (conv98_5 d2) ?_
      refine sP (v := .int .u8 (Int.ofNat _)) (lenTab d2) ?_
      refine sP (v := nv _) (conv5_3 (by omega)) ?_
      refine sBin rfl rfl (aInt_add (by omega)) ?_
      refine sAs (v := nv _) rfl ?_
      refine sNil (kSeqN ?_)
      refine cRet ?_
      exact ⟨.inr rfl, _, rfl, by show nv (0 + _) = _; rw [Nat.zero_add], rfl⟩

theorem okf113 : okF Tryd.prog H0 113 8 = true := by kernel_rfl
theorem spec_Len {m : Mem} {x : Nat} (hx : x < 2 ^ 32) : ∃ v m', ACalls Tryd.prog 113 #[.int .u64 (Int.ofNat x)] m v m' ∧ (v = nv (blen x) ∧ m' = m) := by
  refine wpF (args := [_]) mixed okf113 (fn := Tryd.f113) rfl rfl rfl (by simp) ?_
  refine cSeq ?_
  refine cRegion ?_
  refine sAs (v := nv 0) rfl ?_
  refine sNil (kSeqN ?_)
  refine cSeq ?_   -- seq 1
  refine cCondF rfl ?_
  refine cSkip (kSeqN ?_)
  refine cSeq ?_
  refine cRegion ?_
  refine sMv (v := .int _ _) rfl ?_
  obtain ⟨v7, m7, h7, rfl, k7⟩ := spec_Len64 (m := m) hx
  refine sCall1 rfl call122 rfl h7 ?_
  refine sAs (v := nv _) rfl ?_
  refine sNil (kSeqN ?_)
  refine cRet ?_
  exact ⟨.inr rfl, _, rfl, rfl, k7⟩

end Go.AM

/-! ### E4 -/
namespace Go.AM
open Go.Proofs
set_option maxRecDepth 100000
set_option linter.unusedVariables false
set_option linter.unusedSimpArgs false

/-- All that was there, but one block, is as it was. -/
def But (p : Nat) (m m' : Mem) : Prop := m.size ≤ m'.size ∧ ∀ b, b < m.size → b ≠ p → Mem.get m' b = Mem.get m b
theorem But.of_ext {p : Nat} {m m' : Mem} (h : Ext m m') : But p m m' := ⟨h.1, fun b hb _ => h.2 b hb⟩
theorem But.trans {p : Nat} {a b c : Mem} (h : But p a b) (h' : But p b c) : But p a c :=
  ⟨Nat.le_trans h.1 h'.1, fun i hi hp => (h'.2 i (Nat.lt_of_lt_of_le hi h.1) hp).trans (h.2 i hi hp)⟩
theorem But.set {p : Nat} {a b : Mem} (h : But p a b) {i : Nat} (hi : i = p ∨ a.size ≤ i) (o : AObj) : But p a (b.setIfInBounds i o) :=
  ⟨by simpa using h.1, fun j hj hp => by rw [get_set, if_neg (by omega)]; exact h.2 j hj hp⟩
theorem But.cells {p : Nat} {m m' : Mem} (h : But p m m') {b : Nat} {r : Bool} {c : Array Value} (hb : Mem.get m b = .cells r c) (hp : b ≠ p) : Mem.get m' b = .cells r c := by
  rw [h.2 b (live hb) hp, hb]
theorem But.ext {p : Nat} {m0 m m' : Mem} (h : But p m m') (h0 : Ext m0 m) (hp : m0.size ≤ p) : Ext m0 m' :=
  ⟨Nat.le_trans h0.1 h.1, fun b hb => (h.2 b (Nat.lt_of_lt_of_le hb h0.1) (by omega)).trans (h0.2 b hb)⟩
theorem But.low {N p : Nat} {m m' : Mem} (h : But p m m') (hN : N ≤ p) (hm : N ≤ m.size) : Low N m m' := ⟨h.1, fun b hb => h.2 b (by omega) (by omega)⟩

/-- Rows at work: bounds. -/
def SysOk (s : Sys) : Prop := ∀ k, (s.at k).1 < 2 ^ 24 ∧ (s.at k).2 < 2 ^ 40
theorem SysOk.lt {s : Sys} (h : SysOk s) : SysLt s := fun k => by have := h k; omega
theorem addM_ok {s : Sys} (h : SysOk s) {i row : Nat} (hi : i < 40) (hr : row < 2 ^ 24) : SysOk (addM s i row) := by
  have hs := splitM_lt h 24 (row, 0) hr (by decide : 0 < 2 ^ 40)
  unfold addM
  split
  · exact h
  · intro k
    by_cases hk : blen (splitM s 24 (row, 0)).1 - 1 < s.length
    · rw [Sys.at_set _ _ _ _ hk]
      split
      · exact ⟨hs.1, Nat.xor_lt_two_pow hs.2 (Nat.pow_lt_pow_right (by omega) hi)⟩
      · exact h k
    · rw [List.set_eq_of_length_le (by omega)]; exact h k
theorem extract2_lay {c vs : Array Value} {j k : Nat} (hc : c.size = 49) (hv : vs.size = 2) (hj : j < 24) (hk : k < 24) :
    (lay c (0 + 1 + k * 2) vs).extract (0 + 1 + j * 2) (0 + 1 + j * 2 + 2) = if j = k then vs else c.extract (0 + 1 + j * 2) (0 + 1 + j * 2 + 2) := by
  apply Array.ext_getElem?
  intro i
  rw [Array.getElem?_extract, lay_size]
  by_cases e : j = k
  · subst e
    rw [if_pos rfl]
    by_cases hi : i < 2
    · rw [if_pos (by omega), lay_get', if_pos (by omega)]
      congr 1; omega
    · rw [if_neg (by omega), Array.getElem?_eq_none (by omega)]
  · rw [if_neg e, Array.getElem?_extract]
    by_cases hi : i < 2
    · rw [if_pos (by omega), if_pos (by omega), lay_get', if_neg (by omega)]
    · rw [if_neg (by omega), if_neg (by omega)]
theorem call106 : callable Tryd.prog 106 = true := by kernel_rfl
theorem sCallF1 {P : Program} {ρ : Env} {m m' : Mem} {K : Env → Mem → Prop} {ops : Array Oper} {l : List Oper} {d : Option Nat} {ty : TypeId} {pos : String} {af : Array Edge} {v : Value} {f x : Operand} {tys : Array TypeId} {g : FuncId} {a b : Value}
    (hv : evR ρ f = .func (.func g) #[a] #[]) (hk : callable P g = true) (h1 : evR ρ x = b) (h : ACalls P g #[a, b] m v m') (hK : wpOps P ops K l (updO ρ d v) m') :
    wpOps P ops K (⟨d, .call ⟨.value f, ⟨[x]⟩, tys⟩, ty, pos, af, none⟩ :: l) ρ m := sCall hv hk (by simpa [h1] using h) hK

def H112 : Nat → List (Nat × Nat) := fun id => if id = 2 then [(0, 5), (7, 0), (9, 0)] else []
theorem okf112 : okF Tryd.prog H112 112 30 = true := by kernel_rfl
theorem spec_add {m : Mem} {i row p bs bp : Nat} {s : Sys} {rs rp : Bool} (hS : SysAt m p s) (hok : SysOk s) (hi : i < 40) (hrow : row < 2 ^ 24) (hbs : Mem.get m bs = .cells rs #[.func (.func 106) #[.pointer (some ⟨p, 0, none⟩)] #[]]) (hbp : Mem.get m bp = .cells rp #[.pointer (some ⟨p, 0, none⟩)]) :
    ∃ v m', ACalls Tryd.prog 112 #[nv i, nv row, .pointer (some ⟨bs, 0, none⟩), .pointer (some ⟨bp, 0, none⟩)] m v m' ∧ (v = oneOf [] ∧ SysAt m' p (addM s i row) ∧ But p m m') := by
  have hlt := splitM_lt hok 24 (row, 0) hrow (by decide : 0 < 2 ^ 40)
  obtain ⟨v9, m9, h9, rfl, k9⟩ := spec_split hS hok.lt (by omega : row < 2 ^ 62)
  have hS9 := hS.ext k9
  have hbp9 := k9.cells hbp
  unfold addM
  generalize splitM s 24 (row, 0) = x at *
  obtain ⟨hl, c, hc1, hc2, hc3⟩ := hS9
  have hpm := live hc1
  have hbpm := live hbp9
  have hpm0 : p < m.size := by obtain ⟨_, _, h, _⟩ := hS; exact live h
  refine wpF (args := [_, _, _, _]) mixed okf112 (fn := Tryd.f112) rfl rfl rfl (by simp) ?_
  refine cSeq ?_
  refine cRegion ?_
  refine sLd (v := .func (.func 106) #[.pointer (some ⟨p, 0, none⟩)] #[]) A95 rfl hbs rfl ?_
  refine sMv (v := nv _) rfl ?_
  refine sCallF1 rfl call106 rfl h9 ?_
  refine sAlloc Z94 (by kernel_rfl) ?_
  refine sStNA S94 rfl rfl rfl rfl (by kernel_rfl) ?_
  refine sNil (kSeqN ?_)
  refine cSeq ?_
  refine cRegion ?_
  refine sFA F94_0 rfl ?_
  refine sLd A3 rfl (by simp (disch := first | omega | (simp only [Array.size_push, Array.size_setIfInBounds]; done) | (simp only [Array.size_push, Array.size_setIfInBounds]; omega)) only [gP, gPn, gS, gSn, hc1, hbp9]; try rfl) rfl ?_
  refine sBin rfl rfl (aInt_neq (b := 0)) ?_
  refine sNil (kSeqN ?_)
  refine cCond rfl (fun c0 => ?_) (fun c0 => ?_)
  ·
    have hpos := blen_pos_iff.2 c0
    have hble := blen_le_of_lt hlt.1
    have h2i : 2 ^ i < 2 ^ 40 := Nat.pow_lt_pow_right (by omega) hi
    refine cDrawH (hs := [(0, 5), (7, 0), (9, 0)]) rfl (by decide) ?_
    refine lStepLd A86 rfl (by simp (disch := first | omega | (simp only [Array.size_push, Array.size_setIfInBounds]; done) | (simp only [Array.size_push, Array.size_setIfInBounds]; omega)) only [gP, gPn, gS, gSn, hc1, hbp9]; try rfl) rfl fun e0 hm0 hv0 hr0 => ?_
    refine lStepO (sFA F94_0 rfl (sNil fun e1 hm1 => ?_))
    refine lStepLd A3 rfl (by simp (disch := first | omega | (simp only [Array.size_push, Array.size_setIfInBounds]; done) | (simp only [Array.size_push, Array.size_setIfInBounds]; omega)) only [gP, gPn, gS, gSn, hc1, hbp9]; try rfl) rfl fun e2 hm2 hv2 hr2 => ?_
    refine lStepO (sP (v := .int .u64 (Int.ofNat x.1)) (conv3_55 (by omega)) (sNil fun e3 hm3 => ?_))
    obtain ⟨v17, m17, h17, rfl, k17⟩ := spec_Len (m := m9.push (.cells true #[nv x.1, nv x.2])) (x := x.1) (by omega)
    subst k17
    refine lStepO (sCall1 rfl call113 rfl h17 (sNil fun e4 hm4 => ?_))
    refine lStepO (sBin rfl rfl (aInt_sub (b := 1) (by omega)) (sNil fun e5 hm5 => ?_))
    refine lStepO (sFA F94_0 rfl (sNil fun e6 hm6 => ?_))
    refine lStepLd A3 rfl (by simp (disch := first | omega | (simp only [Array.size_push, Array.size_setIfInBounds]; done) | (simp only [Array.size_push, Array.size_setIfInBounds]; omega)) only [gP, gPn, gS, gSn, hc1, hbp9]; try rfl) rfl fun e7 hm7 hv7 hr7 => ?_
    refine lStepO (sFA F94_1 rfl (sNil fun e8 hm8 => ?_))
    refine lStepLd A3 rfl (by simp (disch := first | omega | (simp only [Array.size_push, Array.size_setIfInBounds]; done) | (simp only [Array.size_push, Array.size_setIfInBounds]; omega)) only [gP, gPn, gS, gSn, hc1, hbp9]; try rfl) rfl fun e9 hm9 hv9 hr9 => ?_
    refine lStepO (sMv (v := nv _) rfl (sNil fun e10 hm10 => ?_))
    refine lStepO (sBin rfl rfl (aInt_shl (a := 1) (by omega)) (sNil fun e11 hm11 => ?_))
    refine lStepO (sBin rfl rfl (aInt_xor (by rw [Nat.shiftLeft_eq]; omega)) (sNil fun e12 hm12 => ?_))
    refine lStepO (sBuild B94 (sNil fun e13 hm13 => ?_))
    refine lStepO (sNC rfl (sNil fun e14 hm14 => ?_))
    refine lStepO (sFA F107_1 rfl (sNil fun e15 hm15 => ?_))
    refine lStepO (sIxA T105 S94 rfl rfl (by omega) (sNil fun e16 hm16 => ?_))
    refine lStepO (sStA S94 rfl rfl (by simp (disch := first | omega | (simp only [Array.size_push, Array.size_setIfInBounds]; done) | (simp only [Array.size_push, Array.size_setIfInBounds]; omega)) only [gP, gPn, gS, gSn, hc1, hbp9]; try rfl) rfl (by omega) (by kernel_rfl) (sNil fun e17 hm17 => ?_))
    refine ⟨?_, ?_⟩
    ·
      refine obl_atE (e := e0) (e' := e5) (by simp) (by rfl) (by simp) ((hr0 e5.m _ _ (by rw [hm5]; simp (disch := first | omega | (simp only [Array.size_push, Array.size_setIfInBounds]; done) | (simp only [Array.size_push, Array.size_setIfInBounds]; omega)) only [gP, gPn, gS, gSn, hc1, hbp9]; try rfl) (by rfl)).trans (congrArg some hv0.symm)) ?_
      refine obl_atE (e := e7) (e' := e0) (by simp) (by rfl) (by simp) ((hr7 e0.m _ _ (by rw [hm0]; simp (disch := first | omega | (simp only [Array.size_push, Array.size_setIfInBounds]; done) | (simp only [Array.size_push, Array.size_setIfInBounds]; omega)) only [gP, gPn, gS, gSn, hc1, hbp9]; try rfl) (by rfl)).trans (congrArg some hv7.symm)) ?_
      refine obl_atE (e := e9) (e' := e0) (by simp) (by rfl) (by simp) ((hr9 e0.m _ _ (by rw [hm0]; simp (disch := first | omega | (simp only [Array.size_push, Array.size_setIfInBounds]; done) | (simp only [Array.size_push, Array.size_setIfInBounds]; omega)) only [gP, gPn, gS, gSn, hc1, hbp9]; try rfl) (by rfl)).trans (congrArg some hv9.symm)) ?_
      trivial
    refine ⟨.inl rfl, _, rfl, rfl, ?_, ?_⟩
    · rw [if_neg c0]
      refine ⟨by rw [List.length_set]; exact hl, _, gS rfl (by simp only [Array.size_push, Array.size_setIfInBounds]; omega), by rw [lay_size]; exact hc2, fun k hk => ?_⟩
      rw [extract2_lay hc2 rfl hk (by omega), Sys.at_set _ _ _ _ (by omega)]
      split
      · rw [Nat.shiftLeft_eq, Nat.one_mul]
      · exact hc3 k hk
    · exact (But.of_ext (k9.push' _)).set (.inl rfl) _
  ·
    refine cSkip ?_
    refine ⟨.inl rfl, _, rfl, rfl, ?_, .of_ext (k9.push' _)⟩
    rw [if_pos (Decidable.not_not.1 c0)]
    exact ⟨hl, c, (by simp (disch := first | omega | (simp only [Array.size_push, Array.size_setIfInBounds]; done) | (simp only [Array.size_push, Array.size_setIfInBounds]; omega)) only [gP, gPn, gS, gSn, hc1, hbp9]; try rfl), hc2, hc3⟩

end Go.AM

/-! ### E5 -/
namespace Go.AM
open Go.Proofs
set_option maxRecDepth 100000
set_option linter.unusedVariables false
set_option linter.unusedSimpArgs false
theorem call112 : callable Tryd.prog 112 = true := by kernel_rfl
theorem sCallC2 {P : Program} {ρ : Env} {m m' : Mem} {K : Env → Mem → Prop} {ops : Array Oper} {l : List Oper} {d : Option Nat} {ty : TypeId} {pos : String} {af : Array Edge} {v : Value} {f x y : Operand} {tys : Array TypeId} {g : FuncId} {a b c e : Value}
    (hv : evR ρ f = .func (.func g) #[] #[c, e]) (hk : callable P g = true) (h1 : evR ρ x = a) (h2 : evR ρ y = b) (h : ACalls P g #[a, b, c, e] m v m') (hK : wpOps P ops K l (updO ρ d v) m') :
    wpOps P ops K (⟨d, .call ⟨.value f, ⟨[x, y]⟩, tys⟩, ty, pos, af, none⟩ :: l) ρ m := sCall hv hk (by simpa [h1, h2] using h) hK
theorem sys0_at (k : Nat) : sys0.at k = (0, 0) := by
  unfold Sys.at sys0
  rw [List.getD_eq_getElem?_getD, List.getElem?_replicate]
  split <;> rfl
theorem sysAt0 {m : Mem} {p : Nat} {a : Value} (h : Mem.get m p = .cells true (#[a] ++ Array.replicate 48 (nv 0))) : SysAt m p sys0 := by
  refine ⟨rfl, _, h, by simp, fun k hk => ?_⟩
  rw [sys0_at]
  apply Array.ext_getElem?
  intro i
  rw [Array.getElem?_extract]
  by_cases hi : i < 2
  · rw [if_pos (by simp; omega), Array.getElem?_append_right (by simp; omega), Array.getElem?_replicate, if_pos (by simp; omega)]
    match i with
    | 0 => rfl
    | 1 => rfl
    | i + 2 => omega
  · rw [if_neg (by omega), Array.getElem?_eq_none (by simp; omega)]
theorem sysOk0 : SysOk sys0 := fun k => by rw [sys0_at]; decide
theorem spannedM_take {l : List Nat} {i : Nat} (hi : i < l.length) : spannedM sys0 0 (l.take (i + 1)) = addM (spannedM sys0 0 (l.take i)) i l[i] := by
  rw [List.take_succ_eq_append_getElem hi, spannedM_append]
  simp only [spannedM, List.length_take, Nat.zero_add]
  rw [Nat.min_eq_left (by omega)]

theorem okf97 : okF Tryd.prog H0 97 32 = true := by kernel_rfl
theorem spec_spanned {m : Mem} {a : Value} {l : List Nat} (ha : IntsAt m a (ofs l)) (hl : l.length ≤ 40) (hx : ∀ x ∈ l, x < 2 ^ 24) :
    ∃ v m', ACalls Tryd.prog 97 #[a] m v m' ∧ (v = .pointer (some ⟨m.size, 0, none⟩) ∧ SysAt m' m.size (sysM l) ∧ SysOk (sysM l) ∧ Ext m m') := by
  obtain ⟨q, cap, rfl⟩ := ha.len
  rw [ofs_length] at *
  refine wpF (args := [_]) mixed okf97 (fn := Tryd.f97) rfl rfl rfl (by simp) ?_
  refine cSeq ?_
  refine cRegion ?_
  refine sAs (v := .pointer _) rfl ?_
  refine sNil (kSeqN ?_)
  refine cSeq ?_
  refine cRegion ?_
  refine sMv (v := .slice _ _ _) rfl ?_
  refine sBuild B104 ?_
  refine sBuild B107 ?_
  refine sBox (v := .agg _) rfl ?_
  refine sAllocB (bl := m.size + 1) (by simp) Z86 (by kernel_rfl) ?_
  refine sStNB (v := .pointer _) (by simp) S86 rfl rfl rfl rfl rfl ?_
  refine sNil (kSeqN ?_)
  refine cSeq ?_
  refine cRegion ?_
  refine sLd A86 rfl (by simp (disch := first | omega | (simp only [Array.size_push, Array.size_setIfInBounds]; done) | (simp only [Array.size_push, Array.size_setIfInBounds]; omega)) only [gP, gPn, gS, gSn]; try rfl) rfl ?_
  refine sMFf rfl ?_
  refine sAllocB (bl := m.size + 2) (by simp) Z95 (by kernel_rfl) ?_
  refine sStNB (v := .func _ _ _) (by simp) S95 rfl rfl rfl rfl rfl ?_
  refine sNil (kSeqN ?_)
  refine cSeq ?_
  refine cRegion ?_
  refine sMFc2 rfl rfl ?_
  refine sAs (v := .func _ _ _) rfl ?_
  refine sNil (kSeqN ?_)
  refine cSeq ?_
  refine cSeq ?_
  refine cRegion ?_
  refine sLd A86 rfl (by simp (disch := first | omega | (simp only [Array.size_push, Array.size_setIfInBounds]; done) | (simp only [Array.size_push, Array.size_setIfInBounds]; omega)) only [gP, gPn, gS, gSn]; try rfl) rfl ?_
  refine sNC rfl ?_
  refine sFA F107_0 rfl ?_
  refine sFA F104_0 rfl ?_
  refine sLd (v := .slice q l.length cap) A22 rfl (by simp (disch := first | omega | (simp only [Array.size_push, Array.size_setIfInBounds]; done) | (simp only [Array.size_push, Array.size_setIfInBounds]; omega)) only [gP, gPn, gS, gSn]; try rfl) (by simp [Value.cells]) ?_
  refine sLen T22 rfl ?_
  refine sMv (v := nv 0) rfl ?_
  refine sNil (kSeqN ?_)
  refine cBlock ?_
  refine wpC_loop (fun k ρ m' => ∃ i, k = l.length - i ∧ i ≤ l.length ∧ Ext m m' ∧ m.size + 3 ≤ m'.size ∧ SysAt m' m.size (spannedM sys0 0 (l.take i)) ∧ SysOk (spannedM sys0 0 (l.take i)) ∧ Mem.get m' (m.size + 1) = .cells true #[.pointer (some ⟨m.size, 0, none⟩)] ∧ Mem.get m' (m.size + 2) = .cells true #[.func (.func 106) #[.pointer (some ⟨m.size, 0, none⟩)] #[]] ∧ Has ρ [(3, .pointer (some ⟨m.size + 1, 0, none⟩)), (5, .func (.func 112) #[] #[.pointer (some ⟨m.size + 2, 0, none⟩), .pointer (some ⟨m.size + 1, 0, none⟩)]), (19, .slice q l.length cap), (20, nv l.length), (21, nv i)]) ⟨0, rfl, by omega, ((Ext.push _ _).push' _).push' _, by simp, sysAt0 (a := .slice q l.length cap) (by simp (disch := first | omega | (simp only [Array.size_push, Array.size_setIfInBounds]; done) | (simp only [Array.size_push, Array.size_setIfInBounds]; omega)) only [gP, gPn, gS, gSn]; try rfl), sysOk0, (by simp (disch := first | omega | (simp only [Array.size_push, Array.size_setIfInBounds]; done) | (simp only [Array.size_push, Array.size_setIfInBounds]; omega)) only [gP, gPn, gS, gSn]; try rfl), (by simp (disch := first | omega | (simp only [Array.size_push, Array.size_setIfInBounds]; done) | (simp only [Array.size_push, Array.size_setIfInBounds]; omega)) only [gP, gPn, gS, gSn]; try rfl), rfl, rfl, rfl, rfl, rfl, trivial⟩ ?_
  rintro k ρ m' ⟨i, rfl, hi, he, hz, hS, hok, g1, g2, hh⟩
  rw [hh.env]; clear hh
  refine cSeq ?_
  refine cRegion ?_
  refine sBin rfl rfl (aInt_lss) ?_
  refine sNil (kSeqN ?_)
  refine cSeq ?_   -- seq 7
  refine cCond rfl (fun c0 => ?_) (fun c0 => ?_)
  ·
    obtain ⟨b1, o1, p1, r1, c1, e1, gl, x1⟩ := (ha.ext he).at (by rw [ofs_length]; omega)
    rw [ofs_length] at e1
    cases e1
    have hxi := hx l[i] (List.getElem_mem c0)
    refine cSkip (kSeqN ?_)
    refine cSeq ?_
    refine cBlock ?_
    refine cSeq ?_
    refine cRegion ?_
    refine sMv (v := nv i) rfl ?_
    refine sIx T22 S3 rfl rfl (by omega) ?_
    refine sLd A3 rfl gl (x1 i (Int.ofNat l[i]) (ofs_get (by simp))) ?_
    refine sAs (v := nv i) rfl ?_
    refine sAs (v := nv l[i]) rfl ?_
    refine sNil (kSeqN ?_)
    refine cRegion ?_
    refine sMv (v := .func _ _ _) rfl ?_
    refine sMv (v := nv i) rfl ?_
    refine sMv (v := nv l[i]) rfl ?_
    obtain ⟨v29, m29, h29, rfl, kS, kB⟩ := spec_add (i := i) (row := l[i]) hS hok (by omega) hxi g2 g1
    refine sCallC2 rfl call112 rfl rfl h29 ?_
    refine sNil (kBlkN (kSeqN ?_))
    refine cRegion ?_
    refine sBin rfl rfl (aInt_add (b := 1) (by omega)) ?_
    refine sMv (v := nv _) rfl ?_
    refine sNil (kSeqN ?_)
    refine ⟨_, ?_, i + 1, rfl, by omega, kB.ext he (Nat.le_refl _), Nat.le_trans hz kB.1, ?_, ?_, kB.cells g1 (by omega), kB.cells g2 (by omega), rfl, rfl, rfl, rfl, rfl, trivial⟩
    · omega
    · rw [spannedM_take c0]; exact kS
    · rw [spannedM_take c0]; exact addM_ok hok (by omega) hxi
  ·
    refine cExit (kSeqE (kSeqE (kBlkS (kSeqN ?_))))
    refine cSeq ?_
    refine cRegion ?_
    refine sLd (v := .pointer (some ⟨m.size, 0, none⟩)) A86 rfl (by simp (disch := first | omega | (simp only [Array.size_push, Array.size_setIfInBounds]; done) | (simp only [Array.size_push, Array.size_setIfInBounds]; omega)) only [gP, gPn, gS, gSn, g1, g2]; try rfl) rfl ?_
    refine sAs (v := .pointer (some ⟨m.size, 0, none⟩)) rfl ?_
    refine sNil (kSeqN ?_)
    refine cRet ?_
    obtain rfl : i = l.length := by omega
    rw [List.take_length] at *
    exact ⟨.inr rfl, _, rfl, rfl, hS, hok, he⟩

end Go.AM

/-! ### E6 -/
namespace Go.AM
open Go.Proofs
set_option maxRecDepth 100000
set_option linter.unusedVariables false
set_option linter.unusedSimpArgs false
/-- Numbers as cells. -/
def cellsN (l : List Nat) : Array Value := (l.map nv).toArray
@[simp] theorem cellsN_size (l : List Nat) : (cellsN l).size = l.length := by simp [cellsN]
theorem cellsN_get {l : List Nat} {i x : Nat} (h : l[i]? = some x) : (cellsN l)[i]? = some (nv x) := by simp [cellsN, h]
theorem cellsN_set (l : List Nat) (i x : Nat) : (cellsN l).setIfInBounds i (nv x) = cellsN (l.set i x) := by
  apply Array.ext_getElem?
  intro j
  simp only [cellsN, Array.getElem?_setIfInBounds, List.getElem?_toArray, List.getElem?_map, List.getElem?_set]
  split <;> simp
theorem cellsN_one (l : List Nat) : (cellsN l).all Value.oneCell' = true := by
  simp [cellsN]; intro x _; rfl
theorem cellsN_zero (n : Nat) : Array.replicate n (nv 0) = cellsN (List.replicate n 0) := by simp [cellsN]
/-- The table at work: what is done, one row, and what is to come. -/
def tabM (t : List Nat) (k x : Nat) : List Nat := t ++ x :: List.replicate (23 - k) 0
theorem tabM_length {t : List Nat} {k x : Nat} (h : t.length = k) (hk : k < 24) : (tabM t k x).length = 24 := by simp [tabM, h]; omega
theorem tabM_here {t : List Nat} {k x : Nat} (h : t.length = k) : (tabM t k x)[k]? = some x := by simp [tabM, ← h]
theorem tabM_before {t : List Nat} {k x j : Nat} (h : t.length = k) (hj : j < k) : (tabM t k x)[j]? = some (t.getD j 0) := by
  simp only [tabM]
  rw [List.getElem?_append_left (by omega), List.getD_eq_getElem?_getD, List.getElem?_eq_getElem (by omega)]; rfl
theorem tabM_set {t : List Nat} {k x y : Nat} (h : t.length = k) : (tabM t k x).set k y = tabM t k y := by simp [tabM, ← h]
theorem tabM_next {t : List Nat} {k x : Nat} (hk : k < 23) : tabM t k x = tabM (t ++ [x]) (k + 1) 0 := by
  simp only [tabM]
  rw [show 23 - k = (23 - (k + 1)) + 1 by omega, List.replicate_succ]; simp
theorem tabM_last {t : List Nat} {x : Nat} : tabM t 23 x = t ++ [x] := by simp [tabM]
theorem innerM_lt {t : List Nat} {x n : Nat} (ht : ∀ j, t.getD j 0 < 2 ^ n) (hx : x < 2 ^ n) : ∀ j, innerM t x j < 2 ^ n
  | 0 => hx
  | j + 1 => by
    rw [innerM]; split
    · exact Nat.xor_lt_two_pow (innerM_lt ht hx j) (ht j)
    · exact innerM_lt ht hx j
theorem reducedM_lt {s : Sys} {n : Nat} (hs : ∀ k, (s.at k).1 < 2 ^ n) : ∀ k j, (reducedM s k).getD j 0 < 2 ^ n
  | 0, j => by simp [reducedM]; exact Nat.two_pow_pos n
  | k + 1, j => by
    rw [reducedM]
    by_cases hj : j < (reducedM s k).length
    · rw [getD_append_left hj]; exact reducedM_lt hs k j
    · by_cases hj2 : j = (reducedM s k).length
      · subst hj2; rw [getD_append_here]; exact innerM_lt (reducedM_lt hs k) (hs k) k
      · rw [getD_out (by simp; omega)]; exact Nat.two_pow_pos n
theorem part94 {c : Array Value} {i : Nat} (hi : i < 24) : aIndex Tryd.prog 105 (.agg c) (nv i) = aPart Tryd.prog 94 c (i * 2) := by
  unfold aIndex
  simp only [nv, T105, S94]
  rw [if_pos ⟨by simp, by simp; omega⟩]; rfl

theorem okf98 : okF Tryd.prog H0 98 41 = true := by kernel_rfl
theorem spec_sysReduced {m : Mem} {p : Nat} {s : Sys} (hS : SysAt m p s) (hok : SysOk s) :
    ∃ v m', ACalls Tryd.prog 98 #[.pointer (some ⟨p, 0, none⟩)] m v m' ∧ (v = .agg (cellsN (reducedM s 24)) ∧ Ext m m') := by
  obtain ⟨hlen, c, hb, hsz, hc⟩ := hS
  have hpm := live hb
  have hidx : ∀ i, i < 24 → aIndex Tryd.prog 105 (.agg (c.extract (0 + 1) (0 + 1 + 48))) (nv i) = some (.agg #[nv (s.at i).1, nv (s.at i).2]) := by
    intro i hi
    rw [part94 hi]
    simp only [aPart, A94, S94]
    rw [Array.extract_extract]
    have := hc i hi
    rw [show min (0 + 1 + (i * 2 + 2)) (0 + 1 + 48) = 0 + 1 + i * 2 + 2 by omega, this]
  have hlt := reducedM_lt (n := 24) (fun k => (hok k).1)
  refine wpF (args := [_]) mixed okf98 (fn := Tryd.f98) rfl rfl rfl (by simp) ?_
  refine cSeq ?_
  refine cRegion ?_
  refine sAlloc Z85 (by kernel_rfl) ?_
  refine sNil (kSeqN ?_)
  refine cSeq ?_
  refine cRegion ?_
  refine sAllocB (bl := m.size + 1) (by simp) Z85 (by kernel_rfl) ?_
  refine sNil (kSeqN ?_)
  refine cSeq ?_
  refine cSeq ?_
  refine cRegion ?_
  refine sMv (v := .pointer _) rfl ?_
  refine sNC rfl ?_
  refine sFA F107_1 rfl ?_
  refine sLdA A105 S105 rfl (by simp (disch := first | omega | (simp only [Array.size_push, Array.size_setIfInBounds]; done) | (simp only [Array.size_push, Array.size_setIfInBounds]; omega)) only [gP, gPn, gS, gSn, hb]; try rfl) (by omega) ?_
  refine sMv (v := nv 0) rfl ?_
  refine sNil (kSeqN ?_)
  refine cBlock ?_
  refine wpC_loop (fun k ρ m' => ∃ i, k = 24 - i ∧ i ≤ 24 ∧ Ext m m' ∧ m.size + 2 ≤ m'.size ∧ Mem.get m' m.size = .cells true (Array.replicate 24 (nv 0)) ∧ Mem.get m' (m.size + 1) = .cells true (cellsN (if i < 24 then tabM (reducedM s i) i 0 else reducedM s i)) ∧ Has ρ [(2, .pointer (some ⟨m.size, 0, none⟩)), (3, .pointer (some ⟨m.size + 1, 0, none⟩)), (10, .agg (c.extract (0 + 1) (0 + 1 + 48))), (11, nv i)]) ⟨0, rfl, by omega, (Ext.push _ _).push' _, by simp, (by simp (disch := first | omega | (simp only [Array.size_push, Array.size_setIfInBounds]; done) | (simp only [Array.size_push, Array.size_setIfInBounds]; omega)) only [gP, gPn, gS, gSn]; try rfl), by rw [gP (by simp)]; exact congrArg (AObj.cells true) (cellsN_zero 24), rfl, rfl, rfl, rfl, trivial⟩ ?_
  rintro k ρ m' ⟨i, rfl, hi, he, hz, g1, g2, hh⟩
  rw [hh.env]; clear hh
  refine cSeq ?_
  refine cRegion ?_
  refine sBin rfl rfl (aInt_lss (b := 24)) ?_
  refine sNil (kSeqN ?_)
  refine cSeq ?_   -- seq 5
  refine cCond rfl (fun c0 => ?_) (fun c0 => ?_)
  ·
    have c0' : i < 24 := c0
    rw [if_pos c0'] at g2
    have hrl := reducedM_length s i
    have hz1 := hok i
    refine cSkip (kSeqN ?_)
    refine cSeq ?_
    refine cBlock ?_
    refine cSeq ?_
    refine cRegion ?_
    refine sMv (v := nv i) rfl ?_
    refine sP (v := .agg #[nv (s.at i).1, nv (s.at i).2]) (hidx i c0') ?_
    refine sAlloc Z94 (by kernel_rfl) ?_
    refine sAs (v := nv i) rfl ?_
    refine sStNA S94 rfl rfl rfl rfl (by kernel_rfl) ?_
    refine sNil (kSeqN ?_)
    refine cSeq ?_
    refine cRegion ?_
    refine sMv (v := nv i) rfl ?_
    refine sFA F94_0 rfl ?_
    refine sLd A3 rfl (by simp (disch := first | omega | (simp only [Array.size_push, Array.size_setIfInBounds]; done) | (simp only [Array.size_push, Array.size_setIfInBounds]; omega)) only [gP, gPn, gS, gSn, g1, g2]; try rfl) rfl ?_
    refine sIxA T85 S3 rfl rfl c0' ?_
    refine sSt (v := nv (s.at i).1) S3 rfl rfl (by simp (disch := first | omega | (simp only [Array.size_push, Array.size_setIfInBounds]; done) | (simp only [Array.size_push, Array.size_setIfInBounds]; omega)) only [gP, gPn, gS, gSn, g1, g2]; try rfl) (by simp [tabM_length hrl c0']; exact c0') rfl rfl ?_
    simp only [Nat.zero_add, Nat.mul_one, cellsN_set, tabM_set hrl]
    refine sNil (kSeqN ?_)
    refine cSeq ?_
    refine cRegion ?_
    refine sMv (v := nv _) rfl ?_
    refine sMv (v := nv 0) rfl ?_
    refine sNil (kSeqN ?_)
    refine cBlock ?_
    refine wpC_loop (fun k ρ m2 => ∃ j, k = i - j ∧ j ≤ i ∧ Ext m m2 ∧ m.size + 2 ≤ m2.size ∧ Mem.get m2 m.size = .cells true (Array.replicate 24 (nv 0)) ∧ Mem.get m2 (m.size + 1) = .cells true (cellsN (tabM (reducedM s i) i (innerM (reducedM s i) (s.at i).1 j))) ∧ Has ρ [(2, .pointer (some ⟨m.size, 0, none⟩)), (3, .pointer (some ⟨m.size + 1, 0, none⟩)), (4, nv i), (10, .agg (c.extract (0 + 1) (0 + 1 + 48))), (11, nv i), (19, nv i), (20, nv j)]) ⟨0, rfl, by omega, (he.push' _).set (by omega) _, (by simp only [Array.size_push, Array.size_setIfInBounds]; omega), (by simp (disch := first | omega | (simp only [Array.size_push, Array.size_setIfInBounds]; done) | (simp only [Array.size_push, Array.size_setIfInBounds]; omega)) only [gP, gPn, gS, gSn, g1]; try rfl), (by simp (disch := first | omega | (simp only [Array.size_push, Array.size_setIfInBounds]; done) | (simp only [Array.size_push, Array.size_setIfInBounds]; omega)) only [gP, gPn, gS, gSn]; try rfl), rfl, rfl, rfl, rfl, rfl, rfl, rfl, trivial⟩ ?_
    rintro k2 ρ m2 ⟨j, rfl, hj, he2, hz2, f1, f2, hh⟩
    rw [hh.env]; clear hh
    refine cSeq ?_
    refine cRegion ?_
    refine sBin rfl rfl (aInt_lss) ?_
    refine sNil (kSeqN ?_)
    refine cSeq ?_   -- seq 11
    refine cCond rfl (fun c1 => ?_) (fun c1 => ?_)
    ·
      have hil := innerM_lt (hlt i) hz1.1 j
      have hsh := Nat.shiftRight_le (innerM (reducedM s i) (s.at i).1 j) j
      refine cSkip (kSeqN ?_)
      refine cSeq ?_
      refine cBlock ?_
      refine cSeq ?_
      refine cRegion ?_
      refine sMv (v := nv _) rfl ?_
      refine sAs (v := nv _) rfl ?_
      refine sNil (kSeqN ?_)
      refine cSeq ?_
      refine cRegion ?_
      refine sMv (v := nv _) rfl ?_
      refine sIxA T85 S3 rfl rfl c0' ?_
      refine sLd (v := nv (innerM (reducedM s i) (s.at i).1 j)) A3 rfl (by simp (disch := first | omega | (simp only [Array.size_push, Array.size_setIfInBounds]; done) | (simp only [Array.size_push, Array.size_setIfInBounds]; omega)) only [gP, gPn, gS, gSn, f1, f2]; try rfl) (by rw [Nat.zero_add, Nat.mul_one]; exact cellsN_get (tabM_here hrl)) ?_
      refine sMv (v := nv _) rfl ?_
      refine sBin rfl rfl (aInt_shr (by omega)) ?_
      refine sBin rfl rfl (aInt_and (b := 1) (by omega)) ?_
      refine sBin rfl rfl (aInt_eql (b := 1)) ?_
      rw [decide_eq_decide.2 (iff_of_eq (and_one _ j))]
      refine sNil (kSeqN ?_)
      refine cCond rfl (fun c2 => ?_) (fun c2 => ?_)
      ·
        refine cDraw rfl ?_
        refine sMv (v := nv _) rfl ?_
        refine sIxA T85 S3 rfl rfl c0' ?_
        refine sLd (v := nv (innerM (reducedM s i) (s.at i).1 j)) A3 rfl (by simp (disch := first | omega | (simp only [Array.size_push, Array.size_setIfInBounds]; done) | (simp only [Array.size_push, Array.size_setIfInBounds]; omega)) only [gP, gPn, gS, gSn, f1, f2]; try rfl) (by rw [Nat.zero_add, Nat.mul_one]; exact cellsN_get (tabM_here hrl)) ?_
        refine sMv (v := nv _) rfl ?_
        refine sIxA T85 S3 rfl rfl (by omega) ?_
        refine sLd (v := nv ((reducedM s i).getD j 0)) A3 rfl (by simp (disch := first | omega | (simp only [Array.size_push, Array.size_setIfInBounds]; done) | (simp only [Array.size_push, Array.size_setIfInBounds]; omega)) only [gP, gPn, gS, gSn, f1, f2]; try rfl) (by rw [Nat.zero_add, Nat.mul_one]; exact cellsN_get (tabM_before hrl c1)) ?_
        have hz3 := hlt i j
        refine sBin rfl rfl (aInt_xor (by omega)) ?_
        refine sIxA T85 S3 rfl rfl c0' ?_
        refine sSt (v := nv _) S3 rfl rfl (by simp (disch := first | omega | (simp only [Array.size_push, Array.size_setIfInBounds]; done) | (simp only [Array.size_push, Array.size_setIfInBounds]; omega)) only [gP, gPn, gS, gSn, f1, f2]; try rfl) (by simp [tabM_length hrl c0']; exact c0') rfl rfl ?_
        simp only [Nat.zero_add, Nat.mul_one, cellsN_set, tabM_set hrl]
        refine sNil (kBlkN (kSeqN ?_))
        refine cRegion ?_
        refine sBin rfl rfl (aInt_add (b := 1) (by omega)) ?_
        refine sMv (v := nv _) rfl ?_
        refine sNil (kSeqN ?_)
        refine ⟨_, ?_, j + 1, rfl, by omega, he2.set (by omega) _, (by simp only [Array.size_push, Array.size_setIfInBounds]; omega), (by simp (disch := first | omega | (simp only [Array.size_push, Array.size_setIfInBounds]; done) | (simp only [Array.size_push, Array.size_setIfInBounds]; omega)) only [gP, gPn, gS, gSn, f1, f2]; try rfl), ?_, rfl, rfl, rfl, rfl, rfl, rfl, rfl, trivial⟩
        · omega
        · rw [innerM, if_pos c2]; simp (disch := first | omega | (simp only [Array.size_push, Array.size_setIfInBounds]; done) | (simp only [Array.size_push, Array.size_setIfInBounds]; omega)) only [gP, gPn, gS, gSn, f1, f2]; try rfl
      ·
        refine cSkip (kBlkN (kSeqN ?_))
        refine cRegion ?_
        refine sBin rfl rfl (aInt_add (b := 1) (by omega)) ?_
        refine sMv (v := nv _) rfl ?_
        refine sNil (kSeqN ?_)
        refine ⟨_, ?_, j + 1, rfl, by omega, he2, hz2, f1, ?_, rfl, rfl, rfl, rfl, rfl, rfl, rfl, trivial⟩
        · omega
        · rw [innerM, if_neg c2]; exact f2
    ·
      refine cExit (kSeqE (kSeqE (kBlkS (kBlkN (kSeqN ?_)))))
      refine cRegion ?_
      refine sBin rfl rfl (aInt_add (b := 1) (by omega)) ?_
      refine sMv (v := nv _) rfl ?_
      refine sNil (kSeqN ?_)
      obtain rfl : j = i := by omega
      refine ⟨_, ?_, j + 1, rfl, by omega, he2, hz2, f1, ?_, rfl, rfl, rfl, rfl, trivial⟩
      · omega
      · rw [f2]
        refine congrArg (fun x => AObj.cells true (cellsN x)) ?_
        by_cases h : j + 1 < 24
        · rw [if_pos h, tabM_next (by omega)]; rfl
        · obtain rfl : j = 23 := by omega
          rw [if_neg h, tabM_last]; rfl
  ·
    refine cExit (kSeqE (kSeqE (kBlkS (kSeqN ?_))))
    refine cSeq ?_
    refine cRegion ?_
    obtain rfl : i = 24 := by have : ¬ i < 24 := c0; omega
    rw [if_neg (Nat.lt_irrefl 24)] at g2
    refine sLdAll A85 S85 rfl (by simp (disch := first | omega | (simp only [Array.size_push, Array.size_setIfInBounds]; done) | (simp only [Array.size_push, Array.size_setIfInBounds]; omega)) only [gP, gPn, gS, gSn, g1, g2]; try rfl) (by simp [reducedM_length]) ?_
    refine sStAll S85 rfl rfl (by simp (disch := first | omega | (simp only [Array.size_push, Array.size_setIfInBounds]; done) | (simp only [Array.size_push, Array.size_setIfInBounds]; omega)) only [gP, gPn, gS, gSn, g1, g2]; try rfl) rfl (by simp [reducedM_length]) (cellsN_one _) ?_
    refine sNil (kSeqN ?_)
    refine cRet ?_
    skip
    exact ⟨.inr rfl, _, resRs_agg A85 S85 rfl (gS rfl (by omega)) (by simp [reducedM_length]), rfl, he.set (by omega) _⟩

end Go.AM

/-! ### E7 -/
namespace Go.AM
open Go.Proofs
set_option maxRecDepth 100000
set_option linter.unusedVariables false
set_option linter.unusedSimpArgs false
def idxM (p : Nat → Bool) (l : List Nat) : Int := if l.any p then Int.ofNat (l.findIdx p) else -1
theorem cellsN_ints {m : Mem} {b cap : Nat} {r : Bool} {l : List Nat} (h : Mem.get m b = .cells r (cellsN l)) : IntsAt m (.slice (some ⟨b, 0, some 1⟩) l.length cap) (ofs l) :=
  .inr ⟨b, 0, cap, r, _, by rw [ofs_length], h, fun i x hi => by
    rw [Nat.zero_add]
    simp only [ofs, List.getElem?_map, Option.map_eq_some_iff] at hi
    obtain ⟨y, hy, rfl⟩ := hi
    exact cellsN_get hy⟩

theorem spec_IndexN {m : Mem} {a : Value} {l : List Nat} {g : FuncId} {cp : Array Value} {p : Nat → Bool} (ha : IntsAt m a (ofs l)) (hl : l.length < 4611686018427387904) (hk : callable Tryd.prog g = true)
    (hp : ∀ x, x ∈ l → ACalls Tryd.prog g (#[nv x] ++ cp) m (.bool (p x)) m) : ∃ v m', ACalls Tryd.prog 89 #[a, .func (.func g) #[] cp] m v m' ∧ (v = .int .i64 (idxM p l) ∧ m' = m) := by
  obtain ⟨q, cap, rfl⟩ := ha.len
  rw [ofs_length] at *
  refine wpF (args := [_, _]) mixed okf89 (fn := Tryd.f89) rfl rfl rfl (by simp) ?_
  refine cSeq ?_
  refine cRegion ?_
  refine sAs (v := nv 0) rfl ?_
  refine sNil (kSeqN ?_)
  refine cSeq ?_
  refine cSeq ?_
  refine cRegion ?_
  refine sMv (v := .slice _ _ _) rfl ?_
  refine sLen T22 rfl ?_
  refine sMv (v := nv 0) rfl ?_
  refine sNil (kSeqN ?_)
  refine cBlock ?_
  refine wpC_loop (fun k ρ m' => ∃ i, k = l.length - i ∧ i ≤ l.length ∧ (∀ x ∈ l.take i, p x = false) ∧ m' = m ∧ Has ρ [(0, .slice q l.length cap), (1, .func (.func g) #[] cp), (7, nv l.length), (8, nv i)]) ⟨0, rfl, by omega, by simp, rfl, rfl, rfl, rfl, rfl, trivial⟩ ?_
  rintro k ρ _ ⟨i, rfl, hi, hj, rfl, hh⟩
  rw [hh.env]; clear hh
  refine cSeq ?_
  refine cRegion ?_
  refine sBin rfl rfl (aInt_lss) ?_
  refine sNil (kSeqN ?_)
  refine cSeq ?_   -- seq 4
  refine cCond rfl (fun c0 => ?_) (fun c0 => ?_)
  ·
    obtain ⟨b1, o1, p1, r1, c1, e1, g1, x1⟩ := ha.at (by rw [ofs_length]; omega)
    rw [ofs_length] at e1
    cases e1
    have htk : l.take (i + 1) = l.take i ++ [l[i]] := List.take_succ_eq_append_getElem c0
    refine cSkip (kSeqN ?_)
    refine cSeq ?_
    refine cBlock ?_
    refine cSeq ?_
    refine cRegion ?_
    refine sMv (v := nv _) rfl ?_
    refine sAs (v := nv _) rfl ?_
    refine sNil (kSeqN ?_)
    refine cSeq ?_
    refine cRegion ?_
    refine sMv (v := .func _ _ _) rfl ?_
    refine sMv (v := .slice _ _ _) rfl ?_
    refine sMv (v := nv _) rfl ?_
    refine sIx T22 S3 rfl rfl (by omega) ?_
    refine sLd (v := nv l[i]) A3 rfl g1 (x1 i (Int.ofNat l[i]) (ofs_get (by simp))) ?_
    refine sCall (v := .bool (p l[i])) rfl hk (by simpa [evR, updO] using hp l[i] (by simp)) ?_
    refine sNil (kSeqN ?_)
    refine cCond (p := p l[i] = true) (by simp [evR, updO]) (fun c1 => ?_) (fun c1 => ?_)
    ·
      refine cSeq ?_
      refine cRegion ?_
      refine sMv (v := nv _) rfl ?_
      refine sAs (v := nv _) rfl ?_
      refine sNil (kSeqN ?_)
      refine cRet (kBlkR (kSeqR (kSeqR (kBlkR (kSeqR ?_)))))
      refine ⟨.inr rfl, _, rfl, ?_, rfl⟩
      have h1 : l.any p = true := List.any_eq_true.2 ⟨_, List.getElem_mem c0, c1⟩
      have h2 : l.findIdx p = i := by
        rw [List.findIdx_eq c0]
        refine ⟨c1, fun j hji => ?_⟩
        refine hj _ ?_
        rw [List.mem_take_iff_getElem]
        exact ⟨j, by omega, rfl⟩
      rw [idxM, if_pos h1, h2]; rfl
    ·
      refine cSkip (kBlkN (kSeqN ?_))
      refine cRegion ?_
      refine sBin rfl rfl (aInt_add (b := 1) (by omega)) ?_
      refine sMv (v := nv _) rfl ?_
      refine sNil (kSeqN ?_)
      refine ⟨_, ?_, i + 1, rfl, by omega, ?_, rfl, rfl, rfl, rfl, rfl, trivial⟩
      · omega
      · intro x hx
        rw [htk] at hx
        rcases List.mem_append.1 hx with hx | hx
        · exact hj x hx
        · rw [List.mem_singleton.1 hx]; simpa using c1
  ·
    refine cExit (kSeqE (kSeqE (kBlkS (kSeqN ?_))))
    refine cSeq ?_
    refine cRegion ?_
    refine sAs (v := .int .i64 (-1)) rfl ?_
    refine sNil (kSeqN ?_)
    refine cRet ?_
    refine ⟨.inr rfl, _, rfl, ?_, rfl⟩
    obtain rfl : i = l.length := by omega
    rw [List.take_length] at hj
    rw [idxM, if_neg (by simp; exact hj)]; rfl

theorem okf118 : okF Tryd.prog H0 118 42 = true := by kernel_rfl
theorem spec_DeleteFunc {m : Mem} {b : Nat} {l : List Nat} {g : FuncId} {p : Nat → Bool} (hb : Mem.get m b = .cells true (cellsN l)) (hl : l.length < 1000000) (hk : callable Tryd.prog g = true)
    (hp : ∀ m' x, x ∈ l → ACalls Tryd.prog g #[nv x] m' (.bool (p x)) m') : ∃ v m', ACalls Tryd.prog 118 #[.slice (some ⟨b, 0, some 1⟩) l.length l.length, .func (.func g) #[] #[]] m v m' ∧
      (v = .slice (some ⟨b, 0, some 1⟩) (l.filter fun x => !p x).length l.length ∧ Mem.get m' b = .cells true (cellsN ((l.filter fun x => !p x) ++ List.replicate (l.length - (l.filter fun x => !p x).length) 0)) ∧ But b m m' ∧ m'.size = m.size) := by
  have hbm := live hb
  refine wpF (args := [_, _]) mixed okf118 (fn := Tryd.f118) rfl rfl rfl (by simp) ?_
  refine cSeq ?_
  refine cRegion ?_
  refine sAs (v := .slice _ _ _) rfl ?_
  refine sNil (kSeqN ?_)
  refine cSeq ?_
  refine cRegion ?_
  refine sMv (v := .slice _ _ _) rfl ?_
  refine sMv (v := .func _ _ _) rfl ?_
  obtain ⟨v10, m10, h10, rfl, k10⟩ := spec_IndexN (cellsN_ints (cap := l.length) hb) (by omega) hk (fun x hx => by rw [Array.append_empty]; exact hp m x hx)
  subst k10
  refine sCall2 rfl call89 rfl rfl h10 ?_
  refine sAs (v := .int _ _) rfl ?_
  refine sNil (kSeqN ?_)
  refine cSeq ?_   -- seq 2
  refine cSeq ?_
  refine cRegion ?_
  refine sMv (v := .int _ _) rfl ?_
  refine sBinI (b := -1) rfl rfl aInt_eqlI ?_
  refine sNil (kSeqN ?_)
  refine cCond rfl (fun c0 => ?_) (fun c0 => ?_)
  ·
    have hall : ∀ x ∈ l, p x = false := by
      intro x hx
      by_cases h : l.any p = true
      · rw [idxM, if_pos h] at c0
        exact absurd c0 (by simp)
      · simp at h; exact h x hx
    have hf : (l.filter fun x => !p x) = l := List.filter_eq_self.2 fun x hx => by simp [hall x hx]
    refine cSeq ?_
    refine cRegion ?_
    refine sMv (v := .slice _ _ _) rfl ?_
    refine sAs (v := .slice _ _ _) rfl ?_
    refine sNil (kSeqN ?_)
    refine cRet (kSeqR ?_)
    exact ⟨.inr rfl, _, rfl, by rw [hf]; rfl, by rw [hf]; simpa using hb, ⟨Nat.le_refl _, fun _ _ _ => rfl⟩, rfl⟩
  ·
    have hany : l.any p = true := by
      by_cases h : l.any p = true
      · exact h
      · rw [idxM, if_neg h] at c0; exact absurd rfl c0
    have hi0 : l.findIdx p < l.length := List.findIdx_lt_length.2 (by simpa using hany)
    rw [idxM, if_pos hany]
    generalize hii : l.findIdx p = i0 at *
    have hpre : (l.take (i0 + 1)).filter (fun x => !p x) = l.take i0 := by
      rw [List.take_succ_eq_append_getElem hi0, List.filter_append]
      have h1 : (l.take i0).filter (fun x => !p x) = l.take i0 := List.filter_eq_self.2 fun x hx => by
        obtain ⟨j, hj, rfl⟩ := List.mem_take_iff_getElem.1 hx
        have := List.not_of_lt_findIdx (xs := l) (p := p) (i := j) (by omega)
        simpa using this
      have h2 : p l[i0] = true := by subst hii; exact List.findIdx_getElem
      rw [h1]; simp [h2]
    refine cSkip (kSeqN ?_)
    refine cSeq ?_
    refine cSeq ?_
    refine cRegion ?_
    refine sMv (v := nv i0) rfl ?_
    refine sBin rfl rfl (aInt_add (b := 1) (by omega)) ?_
    refine sAs (v := nv _) rfl ?_
    refine sNil (kSeqN ?_)
    refine cBlock ?_
    refine wpC_loop (fun k ρ m' => ∃ (i j : Nat) (T : List Nat), k = l.length - j ∧ i < j ∧ j ≤ l.length ∧ T.length = l.length ∧ T.take i = (l.take j).filter (fun x => !p x) ∧ T.drop j = l.drop j ∧ Mem.get m' b = .cells true (cellsN T) ∧ But b m10 m' ∧ m'.size = m10.size ∧ Has ρ [(0, .slice (some ⟨b, 0, some 1⟩) l.length l.length), (1, .func (.func g) #[] #[]), (5, nv i), (6, nv j)]) ⟨i0, i0 + 1, l, rfl, by omega, hi0, rfl, hpre.symm, rfl, hb, ⟨Nat.le_refl _, fun _ _ _ => rfl⟩, rfl, rfl, rfl, rfl, rfl, trivial⟩ ?_
    rintro k ρ m' ⟨i, j, T, rfl, hij, hj, hT, ht, hd, g1, hB, hsz, hh⟩
    rw [hh.env]; clear hh
    refine cSeq ?_   -- seq 7
    refine cSeq ?_
    refine cRegion ?_
    refine sMv (v := nv _) rfl ?_
    refine sMv (v := .slice _ _ _) rfl ?_
    refine sLen T22 rfl ?_
    refine sBin rfl rfl (aInt_lss) ?_
    refine sNil (kSeqN ?_)
    refine cCond rfl (fun c1 => ?_) (fun c1 => ?_)
    ·
      have hjT : T[j]? = some l[j] := by
        have := congrArg (·[0]?) hd
        simp only [List.getElem?_drop, Nat.add_zero] at this
        rw [this, List.getElem?_eq_getElem c1]
      have htk : l.take (j + 1) = l.take j ++ [l[j]] := List.take_succ_eq_append_getElem c1
      have hdr : T.drop (j + 1) = l.drop (j + 1) := by
        have := congrArg (List.drop 1) hd
        simpa using this
      refine cSkip (kSeqN ?_)
      refine cSeq ?_
      refine cBlock ?_
      refine cSeq ?_
      refine cRegion ?_
      refine sMv (v := .slice _ _ _) rfl ?_
      refine sMv (v := nv _) rfl ?_
      refine sIx T22 S3 rfl rfl (by omega) ?_
      refine sLd (v := nv l[j]) A3 rfl (by simp (disch := first | omega | (simp only [Array.size_push, Array.size_setIfInBounds]; done) | (simp only [Array.size_push, Array.size_setIfInBounds]; omega)) only [gP, gPn, gS, gSn, g1]; try rfl) (by rw [Nat.zero_add, Nat.mul_one]; exact cellsN_get hjT) ?_
      refine sAs (v := nv _) rfl ?_
      refine sNil (kSeqN ?_)
      refine cSeq ?_
      refine cRegion ?_
      refine sMv (v := .func _ _ _) rfl ?_
      refine sMv (v := nv _) rfl ?_
      refine sCall1 (v := .bool (p l[j])) rfl hk rfl (hp m' l[j] (List.getElem_mem c1)) ?_
      refine sP (v := .bool (!p l[j])) rfl ?_
      refine sNil (kSeqN ?_)
      refine cCond (p := p l[j] = false) (by cases h : p l[j] <;> simp [evR, updO, h]) (fun c2 => ?_) (fun c2 => ?_)
      ·
        refine cSeq ?_
        refine cRegion ?_
        refine sMv (v := .slice _ _ _) rfl ?_
        refine sMv (v := nv i) rfl ?_
        refine sMv (v := nv _) rfl ?_
        refine sIx T22 S3 rfl rfl (by omega) ?_
        refine sSt (v := nv _) S3 rfl rfl (by simp (disch := first | omega | (simp only [Array.size_push, Array.size_setIfInBounds]; done) | (simp only [Array.size_push, Array.size_setIfInBounds]; omega)) only [gP, gPn, gS, gSn, g1]; try rfl) (by simp; omega) rfl rfl ?_
        rw [cellsN_set]
        refine sNil (kSeqN ?_)
        refine cRegion ?_
        refine sMv (v := nv i) rfl ?_
        refine sBin rfl rfl (aInt_add (b := 1) (by omega)) ?_
        refine sAs (v := nv _) rfl ?_
        refine sNil (kBlkN (kSeqN ?_))
        refine cRegion ?_
        refine sMv (v := nv _) rfl ?_
        refine sBin rfl rfl (aInt_add (b := 1) (by omega)) ?_
        refine sAs (v := nv _) rfl ?_
        refine sNil (kSeqN ?_)
        refine ⟨_, ?_, i + 1, j + 1, T.set (0 + i * 1) l[j], rfl, by omega, by omega, by simpa using hT, ?_, ?_, (by simp (disch := first | omega | (simp only [Array.size_push, Array.size_setIfInBounds]; done) | (simp only [Array.size_push, Array.size_setIfInBounds]; omega)) only [gP, gPn, gS, gSn, g1]; try rfl), hB.set (.inl rfl) _, by simpa using hsz, rfl, rfl, rfl, rfl, trivial⟩
        · omega
        · rw [Nat.zero_add, Nat.mul_one, htk, List.filter_append, ← ht, List.take_succ_eq_append_getElem (by simp; omega)]
          simp [c2, List.take_set_of_le]
        · rw [Nat.zero_add, Nat.mul_one, List.drop_set_of_lt (by omega)]; exact hdr
      ·
        refine cSkip (kBlkN (kSeqN ?_))
        refine cRegion ?_
        refine sMv (v := nv _) rfl ?_
        refine sBin rfl rfl (aInt_add (b := 1) (by omega)) ?_
        refine sAs (v := nv _) rfl ?_
        refine sNil (kSeqN ?_)
        refine ⟨_, ?_, i, j + 1, T, rfl, by omega, by omega, hT, ?_, hdr, g1, hB, hsz, rfl, rfl, rfl, rfl, trivial⟩
        · omega
        · rw [htk, List.filter_append, ← ht]; simp [c2]
    ·
      obtain rfl : j = l.length := by omega
      rw [List.take_length] at ht
      have hlen : (l.filter fun x => !p x).length = i := by rw [← ht, List.length_take]; omega
      refine cExit (kSeqE (kSeqE (kBlkS (kSeqN ?_))))
      refine cSeq ?_
      refine cRegion ?_
      refine sMv (v := .slice _ _ _) rfl ?_
      refine sMv (v := nv i) rfl ?_
      refine sSlLo T22 S3 rfl rfl (by omega) (by omega) ?_
      refine sClr T22 Z3 rfl (by simp (disch := first | omega | (simp only [Array.size_push, Array.size_setIfInBounds]; done) | (simp only [Array.size_push, Array.size_setIfInBounds]; omega)) only [gP, gPn, gS, gSn, g1]; try rfl) (by simp; omega) ?_
      refine sNil (kSeqN ?_)
      refine cSeq ?_
      refine cRegion ?_
      refine sMv (v := .slice _ _ _) rfl ?_
      refine sMv (v := nv i) rfl ?_
      refine sSlHi T22 S3 rfl rfl (by omega) ?_
      refine sAs (v := .slice _ _ _) rfl ?_
      refine sNil (kSeqN ?_)
      refine cRet ?_
      refine ⟨.inr rfl, _, rfl, by rw [hlen]; rfl, ?_, hB.set (.inl rfl) _, by simpa using hsz⟩
      rw [gS rfl (by omega), hlen, ← ht]
      refine congrArg (AObj.cells true) (Array.ext_getElem? fun k => ?_)
      rw [lay_get']
      simp only [cellsN, Array.size_replicate, List.size_toArray, List.length_map, List.getElem?_toArray, List.getElem?_map, Array.getElem?_replicate, hT, Nat.zero_add, Nat.mul_one]
      by_cases h1 : k < i
      · rw [if_neg (by omega), List.getElem?_append_left (by rw [List.length_take]; omega), List.getElem?_take_of_lt h1]
      · rw [List.getElem?_append_right (by rw [List.length_take]; omega), List.length_take, List.getElem?_replicate]
        by_cases h2 : k < l.length
        · rw [if_pos (by omega), if_pos (by omega), if_pos (by omega)]; rfl
        · rw [if_neg (by omega), if_neg (by omega), List.getElem?_eq_none (by omega)]

end Go.AM

/-! ### E8 -/
namespace Go.AM
open Go.Proofs
set_option maxRecDepth 100000
set_option linter.unusedVariables false
set_option linter.unusedSimpArgs false
theorem call120 : callable Tryd.prog 120 = true := by kernel_rfl
theorem aInt_lssNI {a : Nat} {b : Int} : aInt .lss .i64 (Int.ofNat a) b = some (.bool (decide (Int.ofNat a < b))) := by simp [aInt]

theorem okf120 : okF Tryd.prog H0 120 28 = true := by kernel_rfl
theorem spec_Reverse {m : Mem} {b n : Nat} {L : List Nat} (hb : Mem.get m b = .cells true (cellsN L)) (hn : n ≤ L.length) (hl : L.length < 1000000) : ∃ v m', ACalls Tryd.prog 120 #[.slice (some ⟨b, 0, some 1⟩) n L.length] m v m' ∧
      (v = oneOf [] ∧ Mem.get m' b = .cells true (cellsN ((L.take n).reverse ++ L.drop n)) ∧ But b m m' ∧ m'.size = m.size) := by
  have hbm := live hb
  refine wpF (args := [_]) mixed okf120 (fn := Tryd.f120) rfl rfl rfl (by simp) ?_
  refine cSeq ?_
  refine cRegion ?_
  refine sMv (v := .slice _ _ _) rfl ?_
  refine sLen T22 rfl ?_
  refine sBinI (v := .int .i64 (Int.ofNat n - 1)) rfl rfl (aInt_subI (b := 1) (by simp; omega)) ?_
  refine sAs (v := nv 0) rfl ?_
  refine sAs (v := .int _ _) rfl ?_
  refine sNil (kSeqN ?_)
  refine cBlock ?_
  refine wpC_loop (fun k ρ m' => ∃ (i : Nat) (T : List Nat), k = n - 2 * i ∧ 2 * i ≤ n + 1 ∧ T.length = L.length ∧ (∀ k, T[k]? = if k < n ∧ (k < i ∨ n ≤ k + i) then L[n - 1 - k]? else L[k]?) ∧ Mem.get m' b = .cells true (cellsN T) ∧ But b m m' ∧ m'.size = m.size ∧ Has ρ [(0, .slice (some ⟨b, 0, some 1⟩) n L.length), (2, nv i), (3, .int .i64 (Int.ofNat n - 1 - Int.ofNat i))]) ⟨0, L, rfl, by omega, rfl, fun k => by rw [if_neg (by omega)], hb, ⟨Nat.le_refl _, fun _ _ _ => rfl⟩, rfl, rfl, rfl, by show Value.int .i64 (Int.ofNat n - 1) = _; congr 1; simp, trivial⟩ ?_
  rintro k ρ m' ⟨i, T, rfl, hi, hT, ht, g1, hB, hsz, hh⟩
  rw [hh.env]; clear hh
  refine cSeq ?_   -- seq 1
  refine cSeq ?_
  refine cRegion ?_
  refine sMv (v := nv _) rfl ?_
  refine sMv (v := .int _ _) rfl ?_
  refine sBinI rfl rfl aInt_lssNI ?_
  refine sNil (kSeqN ?_)
  refine cCond rfl (fun c0 => ?_) (fun c0 => ?_)
  ·
    have hij : 2 * i + 1 < n := by have : (i : Int) < (n : Int) - 1 - (i : Int) := c0; omega
    have hj : Int.ofNat n - 1 - Int.ofNat i = Int.ofNat (n - 1 - i) := by simp; omega
    rw [hj]
    have hTi : T[i]? = some (L[i]'(by omega)) := by rw [ht, if_neg (by omega), List.getElem?_eq_getElem]
    have hTj : T[n - 1 - i]? = some (L[n - 1 - i]'(by omega)) := by rw [ht, if_neg (by omega), List.getElem?_eq_getElem]
    refine cSkip (kSeqN ?_)
    refine cSeq ?_
    refine cBlock ?_
    refine cDraw rfl ?_
    refine sMv (v := .slice _ _ _) rfl ?_
    refine sMv (v := nv i) rfl ?_
    refine sMv (v := .slice _ _ _) rfl ?_
    refine sMv (v := nv (n - 1 - i)) rfl ?_
    refine sMv (v := .slice _ _ _) rfl ?_
    refine sMv (v := nv (n - 1 - i)) rfl ?_
    refine sIx T22 S3 rfl rfl (by omega) ?_
    refine sLd (v := nv (L[n - 1 - i]'(by omega))) A3 rfl (by simp (disch := first | omega | (simp only [Array.size_push, Array.size_setIfInBounds]; done) | (simp only [Array.size_push, Array.size_setIfInBounds]; omega)) only [gP, gPn, gS, gSn, g1]; try rfl) (by rw [Nat.zero_add, Nat.mul_one]; exact cellsN_get hTj) ?_
    refine sMv (v := .slice _ _ _) rfl ?_
    refine sMv (v := nv _) rfl ?_
    refine sIx T22 S3 rfl rfl (by omega) ?_
    refine sLd (v := nv (L[i]'(by omega))) A3 rfl (by simp (disch := first | omega | (simp only [Array.size_push, Array.size_setIfInBounds]; done) | (simp only [Array.size_push, Array.size_setIfInBounds]; omega)) only [gP, gPn, gS, gSn, g1]; try rfl) (by rw [Nat.zero_add, Nat.mul_one]; exact cellsN_get hTi) ?_
    refine sIx T22 S3 rfl rfl (by omega) ?_
    refine sSt (v := nv _) S3 rfl rfl (by simp (disch := first | omega | (simp only [Array.size_push, Array.size_setIfInBounds]; done) | (simp only [Array.size_push, Array.size_setIfInBounds]; omega)) only [gP, gPn, gS, gSn, g1]; try rfl) (by simp; omega) rfl rfl ?_
    rw [cellsN_set]
    refine sIx T22 S3 rfl rfl (by omega) ?_
    refine sSt (v := nv _) S3 rfl rfl (by simp (disch := first | omega | (simp only [Array.size_push, Array.size_setIfInBounds]; done) | (simp only [Array.size_push, Array.size_setIfInBounds]; omega)) only [gP, gPn, gS, gSn, g1]; try rfl) (by simp; omega) rfl rfl ?_
    rw [cellsN_set, Nat.zero_add, Nat.mul_one, Nat.zero_add, Nat.mul_one]
    refine sNil (kBlkN (kSeqN ?_))
    refine cRegion ?_
    refine sMv (v := nv _) rfl ?_
    refine sBin rfl rfl (aInt_add (b := 1) (by omega)) ?_
    refine sMv (v := nv (n - 1 - i)) rfl ?_
    refine sBinI (v := .int .i64 (Int.ofNat (n - 1 - i) - 1)) rfl rfl (aInt_subI (b := 1) (by simp; omega)) ?_
    refine sAs (v := nv _) rfl ?_
    refine sAs (v := .int _ _) rfl ?_
    refine sNil (kSeqN ?_)
    refine ⟨_, ?_, i + 1, (T.set i (L[n - 1 - i]'(by omega))).set (n - 1 - i) (L[i]'(by omega)), rfl, by omega, by simpa using hT, fun k => ?_, (by simp (disch := first | omega | (simp only [Array.size_push, Array.size_setIfInBounds]; done) | (simp only [Array.size_push, Array.size_setIfInBounds]; omega)) only [gP, gPn, gS, gSn, g1]; try rfl), (hB.set (.inl rfl) _).set (.inl rfl) _, by simpa using hsz, rfl, rfl, ?_, trivial⟩
    · omega
    · rw [List.getElem?_set, List.getElem?_set, List.length_set, ht k]
      by_cases h1 : k = n - 1 - i
      · subst h1
        rw [if_pos rfl, if_pos (by omega), if_pos (by omega), show n - 1 - (n - 1 - i) = i by omega, List.getElem?_eq_getElem]
      · rw [if_neg (fun h => h1 h.symm)]
        by_cases h2 : k = i
        · subst h2
          rw [if_pos rfl, if_pos (by omega), if_pos (by omega), List.getElem?_eq_getElem]
        · rw [if_neg (fun h => h2 h.symm)]
          by_cases h3 : k < n ∧ (k < i ∨ n ≤ k + i)
          · rw [if_pos h3, if_pos (by omega)]
          · rw [if_neg h3, if_neg (by omega)]
    · show Value.int .i64 (Int.ofNat (n - 1 - i) - 1) = _
      congr 1; simp; omega
  ·
    refine cExit (kSeqE (kSeqE (kBlkS ?_)))
    have hij : n ≤ 2 * i + 1 := by have : ¬ (i : Int) < (n : Int) - 1 - (i : Int) := c0; omega
    refine ⟨.inl rfl, _, rfl, rfl, ?_, hB, hsz⟩
    rw [g1]
    refine congrArg (fun x => AObj.cells true (cellsN x)) (List.ext_getElem? fun k => ?_)
    rw [ht]
    by_cases hk : k < n
    · rw [List.getElem?_append_left (by simp; omega), List.getElem?_reverse (by simp; omega), List.length_take, Nat.min_eq_left hn, List.getElem?_take_of_lt (by omega)]
      by_cases h3 : k < i ∨ n ≤ k + i
      · rw [if_pos ⟨hk, h3⟩]
      · rw [if_neg (by omega)]; congr 1; omega
    · rw [if_neg (by omega), List.getElem?_append_right (by simp; omega), List.getElem?_drop, List.length_reverse, List.length_take, Nat.min_eq_left hn]
      congr 1; omega

end Go.AM

/-! ### E9 -/
namespace Go.AM
open Go.Proofs
set_option maxRecDepth 100000
set_option linter.unusedVariables false
set_option linter.unusedSimpArgs false
theorem call97 : callable Tryd.prog 97 = true := by kernel_rfl
theorem call98 : callable Tryd.prog 98 = true := by kernel_rfl
theorem call111 : callable Tryd.prog 111 = true := by kernel_rfl
theorem call118 : callable Tryd.prog 118 = true := by kernel_rfl
theorem call119 : callable Tryd.prog 119 = true := by kernel_rfl
theorem call83 : callable Tryd.prog 83 = true := by kernel_rfl
theorem OwnF.ofCells {N : Nat} {m : Mem} {b : Nat} {l r : List Nat} (hN : N ≤ b) (h : Mem.get m b = .cells true (cellsN (l ++ r))) : OwnF N m (.slice (some ⟨b, 0, some 1⟩) l.length (l ++ r).length) (ofs l) := by
  refine .inr ⟨b, _, _, by rw [ofs_length], hN, h, by simp, by simp, fun i x hi => ?_⟩
  simp only [ofs, List.getElem?_map, Option.map_eq_some_iff] at hi
  obtain ⟨y, hy, rfl⟩ := hi
  refine cellsN_get ?_
  rw [List.getElem?_append_left (List.getElem?_eq_some_iff.1 hy).1]; exact hy

theorem okf119 : okF Tryd.prog H0 119 5 = true := by kernel_rfl
theorem spec_isZero {m : Mem} {x : Nat} : ∃ v m', ACalls Tryd.prog 119 #[nv x] m v m' ∧ (v = .bool (decide (x = 0)) ∧ m' = m) := by
  refine wpF (args := [_]) mixed okf119 (fn := Tryd.f119) rfl rfl rfl (by simp) ?_
  refine cSeq ?_
  refine cRegion ?_
  refine sAs (v := .bool _) rfl ?_
  refine sNil (kSeqN ?_)
  refine cSeq ?_
  refine cRegion ?_
  refine sMv (v := nv _) rfl ?_
  refine sBin rfl rfl (aInt_eql (b := 0)) ?_
  refine sAs (v := .bool _) rfl ?_
  refine sNil (kSeqN ?_)
  refine cRet ?_
  exact ⟨.inr rfl, _, rfl, rfl, rfl⟩

theorem okf111 : okF Tryd.prog H0 111 9 = true := by kernel_rfl
theorem spec_falling {m : Mem} {t : List Nat} (ht : t.length = 24) : ∃ v m', ACalls Tryd.prog 111 #[.agg (cellsN t)] m v m' ∧ (OwnF m.size m' v (ofs (fallingM t)) ∧ Ext m m') := by
  refine wpF (args := [_]) mixed okf111 (fn := Tryd.f111) rfl rfl rfl (by simp) ?_
  refine cSeq ?_
  refine cRegion ?_
  refine sBox (v := .agg (cellsN t)) rfl ?_
  refine sAs (v := .slice _ _ _) rfl ?_
  refine sNil (kSeqN ?_)
  refine cSeq ?_
  refine cRegion ?_
  refine sSlArr T85 S3 rfl (gP rfl) (by simp [Value.cells, ht]) ?_
  obtain ⟨v5, m5, h5, rfl, g5, kB, ks⟩ := spec_DeleteFunc (m := m.push (.cells true (cellsN t))) (b := m.size) (l := t) (g := 119) (p := fun x => decide (x = 0)) (gP rfl) (by omega) call119 (fun m' x _ => ACalls.callee spec_isZero)
  rw [ht] at h5 g5
  refine sCall2 rfl call118 rfl rfl h5 ?_
  have hfl : (t.filter fun x => !decide (x = 0)).length ≤ 24 := by rw [← ht]; exact List.length_filter_le _ _
  have hLl : ((t.filter fun x => !decide (x = 0)) ++ List.replicate (24 - (t.filter fun x => !decide (x = 0)).length) 0).length = 24 := by simp; omega
  refine sAs (v := .slice _ _ _) rfl ?_
  refine sNil (kSeqN ?_)
  refine cSeq ?_
  refine cRegion ?_
  refine sMv (v := .slice _ _ _) rfl ?_
  obtain ⟨v7, m7, h7, rfl, g7, kB7, ks7⟩ := spec_Reverse (m := m5) (b := m.size) (n := (t.filter fun x => !decide (x = 0)).length) g5 (by rw [hLl]; exact hfl) (by omega)
  rw [hLl] at h7
  refine sCall1 rfl call120 rfl h7 ?_
  refine sNil (kSeqN ?_)
  refine cSeq ?_
  refine cRegion ?_
  refine sMv (v := .slice _ _ _) rfl ?_
  refine sAs (v := .slice _ _ _) rfl ?_
  refine sNil (kSeqN ?_)
  refine cRet ?_
  have hf : (t.filter fun x => !decide (x = 0)).reverse = fallingM t := by
    unfold fallingM
    congr 1
    exact List.filter_congr fun x _ => by by_cases h : x = 0 <;> simp [h]
  rw [List.take_left, hf] at g7
  refine ⟨.inr rfl, _, rfl, ?_, (kB.trans kB7).ext (.push _ _) (Nat.le_refl _)⟩
  have := OwnF.ofCells (N := m.size) (Nat.le_refl _) g7
  have e1 : (fallingM t ++ List.drop (t.filter fun x => !decide (x = 0)).length ((t.filter fun x => !decide (x = 0)) ++ List.replicate (24 - (t.filter fun x => !decide (x = 0)).length) 0)).length = 24 := by
    rw [List.length_append, ← hf, List.length_reverse, List.length_drop, hLl]; omega
  have e2 : (fallingM t).length = (t.filter fun x => !decide (x = 0)).length := by rw [← hf, List.length_reverse]
  rw [e1, e2] at this
  exact this

theorem okf83 : okF Tryd.prog H0 83 7 = true := by kernel_rfl
theorem spec_reduced {m : Mem} {a : Value} {l : List Nat} (ha : IntsAt m a (ofs l)) (hl : l.length ≤ 40) (hx : ∀ x ∈ l, x < 2 ^ 24) : ∃ v m', ACalls Tryd.prog 83 #[a] m v m' ∧ (OwnF m.size m' v (ofs (redM l)) ∧ Ext m m') := by
  obtain ⟨v4, m4, h4, rfl, k4, k4o, k4e⟩ := spec_spanned ha hl hx
  obtain ⟨v5, m5, h5, rfl, k5⟩ := spec_sysReduced k4 k4o
  obtain ⟨v6, m6, h6, k6, k6e⟩ := spec_falling (m := m5) (t := reducedM (sysM l) 24) (reducedM_length _ _)
  obtain ⟨q, cap, rfl⟩ := ha.len
  obtain ⟨q6, cap6, rfl⟩ := k6.ints.len
  refine wpF (args := [_]) mixed okf83 (fn := Tryd.f83) rfl rfl rfl (by simp) ?_
  refine cSeq ?_
  refine cRegion ?_
  refine sAs (v := .slice _ _ _) rfl ?_
  refine sNil (kSeqN ?_)
  refine cSeq ?_
  refine cRegion ?_
  refine sMv (v := .slice _ _ _) rfl ?_
  refine sCall1 rfl call97 rfl h4 ?_
  refine sCall1 rfl call98 rfl h5 ?_
  refine sCall1 rfl call111 rfl h6 ?_
  refine sAs (v := .slice _ _ _) rfl ?_
  refine sNil (kSeqN ?_)
  refine cRet ?_
  exact ⟨.inr rfl, _, rfl, k6.mono (Nat.le_trans k4e.1 k5.1), (k4e.trans k5).trans k6e⟩

end Go.AM
