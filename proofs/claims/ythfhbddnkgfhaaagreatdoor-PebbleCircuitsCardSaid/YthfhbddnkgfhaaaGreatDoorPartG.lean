/- Part 7 of the proof: Contracts of the program's functions. -/
import Derived.Test.YthfhbddnkgfhaaaGreatDoorPartF
import Derived.Test.YthfhbddnkgfhaaaGreatDoorPartE
set_option linter.unusedVariables false
set_option linter.unusedSimpArgs false
/-! ### S5 -/
namespace Go.AM
open Go.Proofs
set_option maxRecDepth 100000
set_option linter.unusedVariables false
set_option linter.unusedSimpArgs false
/-- The row b holds other numbers of the same slice; all else is as it was. -/
def Sorted2 (N : Nat) (v : Value) (L' : List Nat) (m m' : Mem) : Prop := OwnF N m' v (ofs L') ∧ m'.size = m.size ∧ ∀ b, blkOf v ≠ some b → Mem.get m' b = Mem.get m b
theorem own_set2 {N : Nat} {m : Mem} {b cap x y : Nat} {c : Array Value} (h2 : N ≤ b) (h3 : Mem.get m b = .cells true c) (h4 : 2 ≤ cap) (h5 : cap = c.size) :
    Sorted2 N (.slice (some ⟨b, 0, some 1⟩) 2 cap) [y, x] m ((m.setIfInBounds b (.cells true (c.setIfInBounds 1 (nv x)))).setIfInBounds b (.cells true ((c.setIfInBounds 1 (nv x)).setIfInBounds 0 (nv y)))) := by
  have hb := live h3
  refine ⟨.inr ⟨b, cap, (c.setIfInBounds 1 (nv x)).setIfInBounds 0 (nv y), rfl, h2, gS rfl (by rw [Array.size_setIfInBounds]; exact hb), h4, by rw [Array.size_setIfInBounds, Array.size_setIfInBounds]; exact h5, fun i z hi => ?_⟩, by simp, fun b' hb' => ?_⟩
  · match i, hi with
    | 0, hi => simp [ofs] at hi; subst hi; rw [Array.getElem?_setIfInBounds, if_pos rfl, if_pos (by rw [Array.size_setIfInBounds]; omega)]; rfl
    | 1, hi => simp [ofs] at hi; subst hi; rw [Array.getElem?_setIfInBounds, if_neg (by omega), Array.getElem?_setIfInBounds, if_pos rfl, if_pos (by omega)]; rfl
    | i + 2, hi => simp [ofs] at hi
  · have hne : b ≠ b' := fun e => hb' (by rw [← e]; rfl)
    rw [gSn hne, gSn hne]

def H105 : Nat → List (Nat × Nat) := fun id => if id = 4 then [(7,14),(12,14)] else []
theorem okf75 : okF Tryz.prog H105 75 49 = true := by kernel_rfl
theorem spec_insert2 {m : Mem} {N : Nat} {v : Value} {L : List Nat} (h : OwnF N m v (ofs L)) (hl : L.length ≤ 2) : ∃ w m', ACalls Tryz.prog 75 #[v, nv 0, nv L.length] m w m' ∧ (Sorted2 N v (sort2 L) m m') := by
  have h1L : L.length ≤ 1 → sort2 L = L := fun h => by
    match L, h with
    | [], _ => rfl
    | [a], _ => rfl
  have hrfl : L.length ≤ 1 → Sorted2 N v (sort2 L) m m := fun hh => by rw [h1L hh]; exact ⟨h, rfl, fun _ _ => rfl⟩
  obtain ⟨qv, cv, rfl⟩ := h.ints.lenN
  refine wpF (args := [_, _, _]) mixed okf75 (fn := Tryz.f75) rfl rfl rfl (by simp) ?_
  refine cSeq ?_
  refine cRegion ?_
  refine sMv (v := nv _) rfl ?_
  refine sBin (v := nv 1) rfl rfl (aInt_add (a := 0) (b := 1) (by omega)) ?_
  refine sAs (v := nv _) rfl ?_
  refine sNil (kSeqN ?_)
  refine cBlock ?_
  refine wpC_loop (fun k ρ m' => ∃ i, k = 2 - i ∧ ((i = 1 ∧ m = m') ∨ (i = 2 ∧ L.length = 2 ∧ Sorted2 N (.slice qv L.length cv) (sort2 L) m m')) ∧ Has ρ [(0, .slice qv L.length cv), (1, nv 0), (2, nv L.length), (6, nv i)]) ⟨1, rfl, .inl ⟨rfl, rfl⟩, rfl, rfl, rfl, rfl, trivial⟩ ?_
  rintro k ρ m' ⟨i, rfl, hst, hh⟩
  rw [hh.env]; clear hh
  refine cSeq ?_   -- seq 1
  refine cSeq ?_
  refine cRegion ?_
  refine sMv (v := nv _) rfl ?_
  refine sMv (v := nv _) rfl ?_
  refine sBin rfl rfl (aInt_lss) ?_
  refine sNil (kSeqN ?_)
  refine cCond rfl (fun c0 => ?_) (fun c0 => ?_)
  ·
    obtain ⟨rfl, rfl⟩ : i = 1 ∧ m = m' := by
      rcases hst with h | h
      · exact h
      · omega
    obtain ⟨x0, x1, rfl⟩ : ∃ x0 x1, L = [x0, x1] := by
      match L, (show L.length = 2 by omega) with
      | [a, b], _ => exact ⟨a, b, rfl⟩
    obtain ⟨b, cap, c, e1, h2, h3, h4, h5, h6⟩ := h.resolve_left (fun h => by cases h.1)
    obtain ⟨rfl, rfl⟩ : qv = some ⟨b, 0, some 1⟩ ∧ cv = cap := by injection e1 with a1 a2 a3; exact ⟨a1, a3⟩
    clear e1
    have g0 : c[0]? = some (nv x0) := h6 0 _ rfl
    have g1 : c[1]? = some (nv x1) := h6 1 _ rfl
    have hb := live h3
    have hcs : 2 ≤ c.size := by simp [ofs] at h4; omega
    refine cSkip (kSeqN ?_)
    refine cSeq ?_
    refine cBlock ?_
    refine cSeq ?_
    refine cRegion ?_
    refine sMv (v := nv _) rfl ?_
    refine sAs (v := nv _) rfl ?_
    refine sNil (kSeqN ?_)
    refine cBlock ?_
    refine wpC_loop (fun k ρ mm => ∃ j, k = j ∧ ((j = 1 ∧ m = mm) ∨ (j = 0 ∧ x1 < x0 ∧ (m.setIfInBounds b (.cells true (c.setIfInBounds 1 (nv x0)))).setIfInBounds b (.cells true ((c.setIfInBounds 1 (nv x0)).setIfInBounds 0 (nv x1))) = mm)) ∧ Has ρ [(0, .slice (some ⟨b, 0, some 1⟩) [x0, x1].length cv), (1, nv 0), (2, nv [x0, x1].length), (6, nv 1), (7, nv j)]) ⟨1, rfl, .inl ⟨rfl, rfl⟩, rfl, rfl, rfl, rfl, rfl, trivial⟩ ?_
    rintro k ρ mm ⟨j, rfl, hst2, hh⟩
    rw [hh.env]; clear hh
    refine cSeq ?_   -- seq 5
    refine cSeq ?_
    refine cDrawH (hs := [(7,14),(12,14)]) rfl (by decide) ?_
    refine lStepO (sMv (v := nv _) rfl (sNil fun e0 hm0 => ?_))
    refine lStepO (sMv (v := nv _) rfl (sNil fun e1 hm1 => ?_))
    refine lStepO (sBin (b := 0) rfl rfl aInt_gtr (sNil fun e2 hm2 => ?_))
    refine lStepO (sMv (v := .bool _) rfl (sNil fun e3 hm3 => ?_))
    by_cases h7 : 0 < k
    ·
      rw [decide_eq_true h7]
      obtain ⟨rfl, rfl⟩ : k = 1 ∧ m = mm := by
        rcases hst2 with h | h
        · exact h
        · omega
      refine lG rfl rfl ?_
      refine lStepO (sMv (v := .slice _ _ _) rfl (sNil fun e4 hm4 => ?_))
      refine lG rfl rfl ?_
      refine lStepO (sMv (v := nv _) rfl (sNil fun e5 hm5 => ?_))
      refine lG rfl rfl ?_
      refine lStepO (sIx T29 S3 rfl rfl (by omega) (sNil fun e6 hm6 => ?_))
      refine lG rfl rfl ?_
      refine lStepLd (v := nv x1) A3 rfl h3 g1 fun e7 hm7 hv7 hr7 => ?_
      refine lG rfl rfl ?_
      refine lStepO (sMv (v := .slice _ _ _) rfl (sNil fun e8 hm8 => ?_))
      refine lG rfl rfl ?_
      refine lStepO (sMv (v := nv _) rfl (sNil fun e9 hm9 => ?_))
      refine lG rfl rfl ?_
      refine lStepO (sBin (v := nv 0) rfl rfl (aInt_sub (a := 1) (b := 1) (by omega)) (sNil fun e10 hm10 => ?_))
      refine lG rfl rfl ?_
      refine lStepO (sIx T29 S3 rfl rfl (by omega) (sNil fun e11 hm11 => ?_))
      refine lG rfl rfl ?_
      refine lStepLd (v := nv x0) A3 rfl h3 g0 fun e12 hm12 hv12 hr12 => ?_
      refine lG rfl rfl ?_
      refine lStepO (sCall2 rfl call81 rfl rfl spec_Less (sNil fun e13 hm13 => ?_))
      refine lStepO (sP (v := .bool _) rfl (sNil fun e14 hm14 => ?_))
      refine ⟨?_, (kSeqN ?_)⟩
      ·
        refine obl_atE (e := e7) (e' := e14) (by simp) (by rfl) (by simp) ((hr7 e14.m _ _ (by rw [hm14]; exact h3) g1).trans (congrArg some hv7.symm)) ?_
        refine obl_atE (e := e12) (e' := e14) (by simp) (by rfl) (by simp) ((hr12 e14.m _ _ (by rw [hm14]; exact h3) g0).trans (congrArg some hv12.symm)) ?_
        trivial
      refine cCond (p := Int.ofNat x1 < Int.ofNat x0) rfl (fun c1 => ?_) (fun c1 => ?_)
      ·
        have hlt : x1 < x0 := by simp at c1; exact c1
        refine cSkip (kSeqN ?_)
        refine cSeq ?_
        refine cBlock ?_
        refine cDraw rfl ?_
        refine sMv (v := .slice _ _ _) rfl ?_
        refine sMv (v := nv _) rfl ?_
        refine sMv (v := .slice _ _ _) rfl ?_
        refine sMv (v := nv _) rfl ?_
        refine sBin (v := nv 0) rfl rfl (aInt_sub (a := 1) (b := 1) (by omega)) ?_
        refine sMv (v := .slice _ _ _) rfl ?_
        refine sMv (v := nv _) rfl ?_
        refine sBin (v := nv 0) rfl rfl (aInt_sub (a := 1) (b := 1) (by omega)) ?_
        refine sIx T29 S3 rfl rfl (by omega) ?_
        refine sLd (v := nv x0) A3 rfl h3 g0 ?_
        refine sMv (v := .slice _ _ _) rfl ?_
        refine sMv (v := nv _) rfl ?_
        refine sIx T29 S3 rfl rfl (by omega) ?_
        refine sLd (v := nv x1) A3 rfl h3 g1 ?_
        refine sIx T29 S3 rfl rfl (by omega) ?_
        refine sSt (v := nv x0) S3 rfl rfl h3 (by omega) rfl rfl ?_
        refine sIx T29 S3 rfl rfl (by omega) ?_
        refine sSt (v := nv x1) S3 rfl rfl (gS rfl hb) (by simp; omega) rfl rfl ?_
        refine sNil (kBlkN (kSeqN ?_))
        refine cRegion ?_
        refine sMv (v := nv _) rfl ?_
        refine sBin (v := nv 0) rfl rfl (aInt_sub (a := 1) (b := 1) (by omega)) ?_
        refine sAs (v := nv _) rfl ?_
        refine sNil (kSeqN ?_)
        exact ⟨0, by omega, 0, rfl, .inr ⟨rfl, hlt, rfl⟩, rfl, rfl, rfl, rfl, rfl, trivial⟩
      ·
        refine cExit (kSeqE (kSeqE (kBlkS (kBlkN (kSeqN ?_)))))
        refine cRegion ?_
        refine sMv (v := nv _) rfl ?_
        refine sBin rfl rfl (aInt_add (b := 1) (by omega)) ?_
        refine sAs (v := nv _) rfl ?_
        refine sNil (kSeqN ?_)
        refine ⟨0, by omega, 2, rfl, .inr ⟨rfl, rfl, ?_⟩, rfl, rfl, rfl, rfl, trivial⟩
        have hs : sort2 [x0, x1] = [x0, x1] := by unfold sort2; simp only; rw [if_neg (by simp at c1; omega)]
        rw [hs]; exact ⟨h, rfl, fun _ _ => rfl⟩
    ·
      rw [decide_eq_false h7]
      refine lGno (q' := false) rfl rfl (by simp) fun e4 hm4 hq4 => ?_
      refine lGno (q' := false) rfl rfl (by simp) fun e5 hm5 hq5 => ?_
      refine lGno (q' := false) rfl rfl (by simp) fun e6 hm6 hq6 => ?_
      refine lGno (q' := false) rfl rfl (by simp) fun e7 hm7 hq7 => ?_
      refine lGno (q' := false) rfl rfl (by simp) fun e8 hm8 hq8 => ?_
      refine lGno (q' := false) rfl rfl (by simp) fun e9 hm9 hq9 => ?_
      refine lGno (q' := false) rfl rfl (by simp) fun e10 hm10 hq10 => ?_
      refine lGno (q' := false) rfl rfl (by simp) fun e11 hm11 hq11 => ?_
      refine lGno (q' := false) rfl rfl (by simp) fun e12 hm12 hq12 => ?_
      refine lGno (q' := false) rfl rfl (by simp) fun e13 hm13 hq13 => ?_
      refine lStepO (sP (v := .bool _) rfl (sNil fun e14 hm14 => ?_))
      refine ⟨?_, (kSeqN ?_)⟩
      ·
        refine obl_no (e := e7) (by simp) (by rfl) rfl rfl hq7 (by simp) ?_
        refine obl_no (e := e12) (by simp) (by rfl) rfl rfl hq12 (by simp) ?_
        trivial
      refine cCondF rfl ?_
      refine cExit (kSeqE (kSeqE (kBlkS (kBlkN (kSeqN ?_)))))
      refine cRegion ?_
      refine sMv (v := nv _) rfl ?_
      refine sBin rfl rfl (aInt_add (b := 1) (by omega)) ?_
      refine sAs (v := nv _) rfl ?_
      refine sNil (kSeqN ?_)
      obtain ⟨rfl, hlt, rfl⟩ : k = 0 ∧ x1 < x0 ∧ _ := by
        rcases hst2 with h | h
        · omega
        · exact h
      refine ⟨0, by omega, 2, rfl, .inr ⟨rfl, rfl, ?_⟩, rfl, rfl, rfl, rfl, trivial⟩
      have hs : sort2 [x0, x1] = [x1, x0] := by unfold sort2; simp only; rw [if_pos hlt]
      rw [hs]; exact own_set2 h2 h3 (by omega) h5
  ·
    refine cExit (kSeqE (kSeqE (kBlkS ?_)))
    refine ⟨.inl rfl, _, rfl, ?_⟩
    rcases hst with ⟨rfl, rfl⟩ | ⟨rfl, h2, h3⟩
    · exact hrfl (by omega)
    · exact h3

def H100 : Nat → List (Nat × Nat) := fun id => if id = 17 then [(7,13),(11,13)] else []
theorem okf51 : okF Tryz.prog H100 51 134 = true := by kernel_rfl
theorem spec_pdq2 {m : Mem} {N l : Nat} {v : Value} {L : List Nat} (h : OwnF N m v (ofs L)) (hl : L.length ≤ 2) : ∃ w m', ACalls Tryz.prog 51 #[v, nv 0, nv L.length, nv l] m w m' ∧ (Sorted2 N v (sort2 L) m m') := by
  obtain ⟨w5, m5, h5, k5⟩ := spec_insert2 h hl
  obtain ⟨qv, cv, rfl⟩ := h.ints.lenN
  refine wpF (args := [_, _, _, _]) mixed okf51 (fn := Tryz.f51) rfl rfl rfl (by simp) ?_
  refine cSeq ?_
  refine cRegion ?_
  refine sAs (v := .bool _) rfl ?_
  refine sNil (kSeqN ?_)
  refine cSeq ?_
  refine cRegion ?_
  refine sAs (v := .bool _) rfl ?_
  refine sNil (kSeqN ?_)
  refine cBlock ?_
  refine wpC_loop (fun k ρ m' => m = m' ∧ Has ρ [(0, .slice qv L.length cv), (1, nv 0), (2, nv L.length)]) (k := 0) ⟨rfl, rfl, rfl, rfl, trivial⟩ ?_
  rintro k ρ _ ⟨rfl, hh⟩
  rw [hh.env]; clear hh
  refine cBlock ?_
  refine cSeq ?_
  refine cRegion ?_
  refine sMv (v := nv _) rfl ?_
  refine sMv (v := nv _) rfl ?_
  refine sBin (v := nv L.length) rfl rfl (aInt_sub (a := L.length) (b := 0) (by omega)) ?_
  refine sAs (v := nv _) rfl ?_
  refine sNil (kSeqN ?_)
  refine cSeq ?_   -- seq 3
  refine cSeq ?_
  refine cRegion ?_
  refine sMv (v := nv _) rfl ?_
  refine sBin (b := 12) rfl rfl aInt_leq ?_
  refine sNil (kSeqN ?_)
  refine cCondT' rfl (by omega) ?_
  refine cSeq ?_
  refine cRegion ?_
  refine sMv (v := .slice _ _ _) rfl ?_
  refine sMv (v := nv _) rfl ?_
  refine sMv (v := nv _) rfl ?_
  refine sCall3 rfl call75 rfl rfl rfl h5 ?_
  refine sNil (kSeqN ?_)
  refine cRet (kSeqR (kBlkR (kSeqR (kBlkR ?_))))
  exact ⟨.inr rfl, _, rfl, k5⟩

theorem okf20 : okF Tryz.prog H0 20 11 = true := by kernel_rfl
theorem spec_Sort2 {m : Mem} {N : Nat} {v : Value} {L : List Nat} (h : OwnF N m v (ofs L)) (hl : L.length ≤ 2) : ∃ w m', ACalls Tryz.prog 20 #[v] m w m' ∧ (Sorted2 N v (sort2 L) m m') := by
  obtain ⟨w5, m5, h5, k5⟩ := spec_pdq2 (l := lenT L.length) h hl
  obtain ⟨qv, cv, rfl⟩ := h.ints.lenN
  refine wpF (args := [_]) mixed okf20 (fn := Tryz.f20) rfl rfl rfl (by simp) ?_
  refine cSeq ?_
  refine cRegion ?_
  refine sMv (v := .slice _ _ _) rfl ?_
  refine sLen T29 rfl ?_
  refine sAs (v := nv _) rfl ?_
  refine sNil (kSeqN ?_)
  refine cRegion ?_
  refine sMv (v := .slice _ _ _) rfl ?_
  refine sMv (v := nv _) rfl ?_
  refine sMv (v := nv _) rfl ?_
  refine sP (v := .int .u64 (Int.ofNat L.length)) (conv3_104s hl) ?_
  refine sCall1 rfl call52 rfl (spec_Len hl) ?_
  refine sCall4 rfl call51 rfl rfl rfl rfl h5 ?_
  refine sNil ?_
  exact ⟨.inl rfl, _, rfl, k5⟩

end Go.AM

/-! ### P22 -/
namespace Go.AM
open Go.Proofs
set_option maxRecDepth 100000
set_option linter.unusedVariables false
set_option linter.unusedSimpArgs false
theorem El22 : ElemT Tryz.prog 25 25 1 := ⟨_, _, _, 24, T25, T25, rfl, S29, Z29, rfl, bytes29, by decide, by decide⟩
theorem fillV {q : Option Addr} {n c : Nat} : Instr.fill (fun i => some (i * 1, 1)) (if 1 * 1 = 0 then #[] else (Array.range (1 * 1)).map ((Value.slice none 0 0).cells[· % (Value.slice none 0 0).cells.size]!)) [(0, .slice q n c)] = some #[.slice q n c] := by kernel_rfl
theorem OwnR.set {N b : Nat} {m : Mem} {v : Value} {cs : Array Value} {G : List (List Int)} (h : OwnR N m v cs G) (hv : blkOf v ≠ some b) (hr : ∀ (i : Nat) (s : Value), cs[i]? = some s → blkOf s ≠ some b) (o : AObj) : OwnR N (m.setIfInBounds b o) v cs G :=
  ⟨h.1.keep fun c hc => gSn fun e => hv (by rw [e, hc]), fun i g hi => by
    obtain ⟨s, hs, ho, hb⟩ := h.2 i g hi
    exact ⟨s, hs, ho.keep fun c hc => gSn fun e => hr i s hs (by rw [e, hc]), hb⟩⟩
theorem lineM_succ {i : Nat} (h : 1 ≤ i) : lineM (i + 1) = lineM i ++ [[i - 1]] := by
  unfold lineM lineAt
  rw [List.range_succ, List.map_append, List.map_cons, List.map_nil, if_pos ⟨h, by omega⟩]
  congr 1
  refine List.map_congr_left fun j hj => ?_
  have := List.mem_range.1 hj
  by_cases h1 : 1 ≤ j
  · rw [if_pos ⟨h1, by omega⟩, if_pos ⟨h1, by omega⟩]
  · rw [if_neg (by omega), if_neg (by omega)]

end Go.AM

/-! ### P23 -/
namespace Go.AM
open Go.Proofs
set_option maxRecDepth 100000
set_option linter.unusedVariables false
set_option linter.unusedSimpArgs false
theorem treeAt_get {W j : Nat} (hj : j < 2 * W - 1) : (treeAt W (W - 1))[j]? = some (if W ≤ j then [2 * (j - W), 2 * (j - W) + 1] else []) := by
  simp only [treeAt, List.getElem?_map, List.getElem?_range hj, Option.map_some]
  congr 1
  by_cases h : W ≤ j
  · rw [if_pos h, if_pos (by omega)]
  · rw [if_neg h, if_neg (by omega)]
def treeTo (W c : Nat) : List (List Nat) := (treeAt W (W - 1)).take c
theorem treeTo_len {W c : Nat} (h : c ≤ 2 * W - 1) : (treeTo W c).length = c := by
  rw [treeTo, List.length_take, treeAt_length]; omega
theorem treeTo_succ {W c : Nat} (h : c < 2 * W - 1) : treeTo W (c + 1) = treeTo W c ++ [if W ≤ c then [2 * (c - W), 2 * (c - W) + 1] else []] := by
  have hl : c < (treeAt W (W - 1)).length := by rw [treeAt_length]; exact h
  rw [treeTo, List.take_succ_eq_append_getElem hl, treeTo]
  have := treeAt_get h
  rw [List.getElem?_eq_getElem hl] at this
  rw [Option.some.inj this]
theorem treeTo_all (W : Nat) : treeTo W (2 * W - 1) = treeAt W (W - 1) := by
  rw [treeTo, List.take_of_length_le (by rw [treeAt_length]; exact Nat.le_refl _)]

structure TreeI (m : Mem) (W c : Nat) (v : Value) (cs : Array Value) (m' : Mem) : Prop where
  low : Low (m.size + 1) (m.push (.cells true #[.slice none 0 0])) m'
  sz : m.size + 2 ≤ m'.size
  g : Mem.get m' (m.size + 1) = .cells true #[v]
  own : OwnR (m.size + 1) m' v cs (ofs2 (treeTo W c))
  off : blkOf v ≠ some (m.size + 1)
  offs : ∀ (j : Nat) (s : Value), cs[j]? = some s → blkOf s ≠ some (m.size + 1)
theorem TreeI.ext {m : Mem} {W c : Nat} {v : Value} {cs : Array Value} {m' m'' : Mem} (h : TreeI m W c v cs m') (he : Ext m' m'') : TreeI m W c v cs m'' :=
  ⟨h.low.trans_ext he (by have := h.sz; omega), by have := h.sz; have := he.1; omega, he.cells h.g, h.own.ext he, h.off, h.offs⟩
theorem TreeI.add {m : Mem} {W c : Nat} {v v' s : Value} {cs : Array Value} {m' M4 : Mem} {row : List Nat} (h : TreeI m W c v cs m') (hs : OwnF (m.size + 2) m' s (ofs row)) (hap : ∀ b, blkOf s = some b → blkOf v ≠ some b) (hrow : treeTo W (c + 1) = treeTo W c ++ [row])
    (hO : OwnC (m.size + 1) M4 v' 1 ((ofs2 (treeTo W c)).length + 1) (cs ++ #[s])) (hL : Low (m.size + 1) (m'.push (.cells true #[s])) M4) (hG : Grew (m'.push (.cells true #[s])) v M4 v') :
    Mem.get M4 (m.size + 1) = .cells true #[v] ∧ TreeI m W (c + 1) v' (cs ++ #[s]) (M4.setIfInBounds (m.size + 1) (.cells true #[v'])) := by
  have hsz := h.sz
  have hM4 := hG.1
  simp only [Array.size_push] at hM4
  have g4 : Mem.get M4 (m.size + 1) = .cells true #[v] := by rw [hG.2.1 _ (by simp; omega) h.off, gPn (by omega), h.g]
  have hgr := (h.own.ext (.push _ (.cells true #[s]))).grew ((hs.mono (Nat.le_succ _)).ext (.push _ _)) hap hG hO
  have hv' := hG.off h.off (by simp; omega)
  have hr' : ∀ (j : Nat) (u : Value), (cs ++ #[s])[j]? = some u → blkOf u ≠ some (m.size + 1) := fun j u hu => by
    by_cases hj : j < cs.size
    · rw [Array.getElem?_append_left hj] at hu; exact h.offs j u hu
    · rw [Array.getElem?_append_right (by omega)] at hu
      match hd : j - cs.size, hu with
      | 0, hu =>
        obtain rfl : s = u := Option.some.inj hu
        intro e; have := (hs.lt e).1; omega
      | d + 1, hu => simp at hu
  refine ⟨g4, ⟨?_, by simp; omega, gS rfl (live g4), ?_, hv', hr'⟩⟩
  · exact h.low.trans ((Low.push _ (by omega) _).trans (hL.trans (.set (Nat.le_refl _) _)))
  · rw [hrow, show ofs2 (treeTo W c ++ [row]) = ofs2 (treeTo W c) ++ [ofs row] by simp [ofs2]]
    exact hgr.set hv' hr' _

end Go.AM

/-! ### M29 -/
namespace Go.AM
set_option linter.unusedVariables false
set_option linter.unusedSimpArgs false
theorem stepE_keep {d y x d' : Nat} {es : List (Nat × Nat)} (h : lookE es x = some d') : lookE (stepE d y es) x = some d' := by
  unfold stepE; split
  · rw [lookE_append, h]; rfl
  · exact h
theorem stepE_has (d y : Nat) (es : List (Nat × Nat)) : ∃ d', lookE (stepE d y es) y = some d' ∧ (d' = d ∨ (y, d') ∈ es) := by
  unfold stepE; split
  · rename_i h
    exact ⟨d, by rw [lookE_append, h, lookE_cons, if_pos rfl]; rfl, .inl rfl⟩
  · rename_i h
    match h1 : lookE es y with
    | none => exact absurd h1 h
    | some d' => exact ⟨d', rfl, .inr (lookE_mem h1)⟩
theorem roundE_keep {P : List Nat} {k x d y d' : Nat} {es : List (Nat × Nat)} (h : lookE es y = some d') : ∀ n, lookE (roundE P k x d n es) y = some d'
  | 0 => h
  | n + 1 => by
    rw [roundE]; split
    · exact stepE_keep (roundE_keep h n)
    · exact roundE_keep h n
structure Bd (D : Nat) (es : List (Nat × Nat)) : Prop where
  sort : es.Pairwise fun p q => p.2 ≤ q.2
  top : ∀ q ∈ es, q.2 ≤ D + 1
theorem Bd.step {D y : Nat} {es : List (Nat × Nat)} (h : Bd D es) : Bd D (stepE (D + 1) y es) := by
  unfold stepE; split
  · refine ⟨List.pairwise_append.2 ⟨h.sort, List.pairwise_singleton _ _, fun p hp q hq => ?_⟩, fun q hq => ?_⟩
    · rw [List.mem_singleton.1 hq]; exact h.top p hp
    · rcases List.mem_append.1 hq with hq | hq
      · exact h.top q hq
      · rw [List.mem_singleton.1 hq]; exact Nat.le_refl _
  · exact h
theorem Bd.round {P : List Nat} {k x D : Nat} {es : List (Nat × Nat)} (h : Bd D es) : ∀ n, Bd D (roundE P k x D n es)
  | 0 => h
  | n + 1 => by
    rw [roundE]; split
    · exact (Bd.round h n).step
    · exact Bd.round h n
theorem roundE_has {P : List Nat} {k x D : Nat} {es : List (Nat × Nat)} (h : Bd D es) : ∀ n m, m < n → wayB P k x m = true → ∃ d', lookE (roundE P k x D n es) (x ^^^ 2 ^ m) = some d' ∧ d' ≤ D + 1
  | 0, m, hm, _ => by omega
  | n + 1, m, hm, hw => by
    rw [roundE]
    by_cases e : m = n
    · subst e
      rw [if_pos hw]
      obtain ⟨d', h1, h2⟩ := stepE_has (D + 1) (x ^^^ 2 ^ m) (roundE P k x D m es)
      refine ⟨d', h1, ?_⟩
      rcases h2 with rfl | h2
      · exact Nat.le_refl _
      · exact (h.round m).top _ h2
    · obtain ⟨d', h1, h2⟩ := roundE_has h n m (by omega) hw
      refine ⟨d', ?_, h2⟩
      split
      · exact stepE_keep h1
      · exact h1
/-- The entries ahead of a place have all their neighbours; the entries rise. -/
structure Que (P : List Nat) (k i : Nat) (es : List (Nat × Nat)) : Prop where
  sort : es.Pairwise fun p q => p.2 ≤ q.2
  top : ∀ p, es[i]? = some p → ∀ q ∈ es, q.2 ≤ p.2 + 1
  done : ∀ (j : Nat) (p : Nat × Nat), j < i → es[j]? = some p → ∀ n, n < P.length → wayB P k p.1 n = true → ∃ d, lookE es (p.1 ^^^ 2 ^ n) = some d ∧ d ≤ p.2 + 1
theorem Que.far {P : List Nat} {k : Nat} (hP : P.length ≤ 10) : ∀ (f i : Nat) {es : List (Nat × Nat)}, GoodE P.length es → Que P k i es → f + i = 1025 → i ≤ es.length → Que P k (farF P k f i es).length (farF P k f i es)
  | 0, i, es, hg, hq, hf, hi => by
    have := hg.length
    have := Nat.pow_le_pow_right (n := 2) (by omega) hP
    omega
  | f + 1, i, es, hg, hq, hf, hi => by
    rw [farF]
    split
    · rename_i hn
      have : es.length = i := by rw [List.getElem?_eq_none_iff] at hn; omega
      subst this
      exact hq
    · rename_i p hp
      have hil := (List.getElem?_eq_some_iff.1 hp).1
      have hb : Bd p.2 es := ⟨hq.sort, hq.top p hp⟩
      have hb' := hb.round (P := P) (k := k) (x := p.1) P.length
      have hp2 : p.2 < es.length := by have := hg.low i p hp; omega
      refine Que.far hP f (i + 1) (hg.round (hg.lt p (List.mem_of_getElem? hp)) hp2 _ (Nat.le_refl _)) ⟨hb'.sort, fun p' hp' q hq' => ?_, fun j r hj hr n hn hw => ?_⟩ (by omega) (by have := roundE_len P k p.1 p.2 es P.length; omega)
      · have h1 := hb'.top q hq'
        have h2 := roundE_get (P := P) (k := k) (x := p.1) (d := p.2) hp P.length
        obtain ⟨hl, he⟩ := List.getElem?_eq_some_iff.1 hp'
        obtain ⟨hl2, he2⟩ := List.getElem?_eq_some_iff.1 h2
        have h3 := List.pairwise_iff_getElem.1 hb'.sort i (i + 1) hl2 hl (by omega)
        rw [he, he2] at h3
        omega
      · by_cases e : j = i
        · subst e
          have h2 := roundE_get (P := P) (k := k) (x := p.1) (d := p.2) hp P.length
          rw [h2] at hr
          obtain rfl := Option.some.inj hr
          exact roundE_has hb P.length n hn hw
        · have h0 : es[j]? = some r := by
            have h2 := roundE_get (P := P) (k := k) (x := p.1) (d := p.2) (List.getElem?_eq_getElem (show j < es.length by omega)) P.length
            rw [h2] at hr
            rw [List.getElem?_eq_getElem (by omega)]; exact hr
          obtain ⟨d, h1, h3⟩ := hq.done j r (by omega) h0 n hn hw
          exact ⟨d, roundE_keep h1 _, h3⟩
theorem farM_next {P : List Nat} {k g : Nat} (hP : P.length ≤ 10) (hg : g < 2 ^ P.length) {x d n : Nat} (h : lookE (farM P k g) x = some d) (hn : n < P.length) (hw : wayB P k x n = true) : ∃ d', lookE (farM P k g) (x ^^^ 2 ^ n) = some d' ∧ d' ≤ d + 1 := by
  unfold farM at *
  split at h
  · cases h
  rename_i hk
  rw [if_neg hk]
  have hq := Que.far hP 1025 0 (.one hg) (k := k) ⟨List.pairwise_singleton _ _, fun p hp q hq => (by simp at hp hq; subst hp hq; omega), fun j p hj => (by omega)⟩ rfl (by simp)
  obtain ⟨j, hj, he⟩ := List.getElem_of_mem (lookE_mem h)
  exact hq.done j _ hj (by rw [List.getElem?_eq_getElem hj, he]) n hn hw
theorem farM_root {P : List Nat} {k g : Nat} (hg : g < 2 ^ P.length) (hk : popc g ≤ k) : lookE (farM P k g) g = some 0 :=
  lookE_of_mem (farM_good hg).once (farM_bfs hg hk).root
theorem mayM_full {P : List Nat} (hP : LowP P) {x n : Nat} (h : ∀ i, i < n → x.testBit i = true) : mayM P x n = true := by
  refine decide_eq_true (Nat.eq_of_testBit_eq fun i => ?_)
  rw [Nat.testBit_and]
  by_cases hi : i < n
  · rw [h i hi, Bool.true_and]
  · rw [Nat.testBit_lt_two_pow (Nat.lt_of_lt_of_le (getD_lowP hP n) (Nat.pow_le_pow_right (by omega) (by omega))), Bool.and_false]
theorem reach_all {P : List Nat} {k g : Nat} (hL : LowP P) (hP : P.length ≤ 10) (hg : g < 2 ^ P.length) (hk : P.length ≤ k) : ∃ d, lookE (farM P k g) 0 = some d := by
  have hpo : ∀ {x}, x < 2 ^ P.length → popc x ≤ k := fun hx => Nat.le_trans (popc_le_of_lt hx) hk
  have hway : ∀ {x n}, x < 2 ^ P.length → n < P.length → (∀ i, i < n → x.testBit i = true) → wayB P k x n = true := fun {x n} hx hn h => by
    unfold wayB
    rw [mayM_full hL h, decide_eq_true (hpo (Nat.xor_lt_two_pow hx (Nat.pow_lt_pow_right (by omega) hn)))]; rfl
  have up : ∀ n, n ≤ P.length → ∃ x d, x < 2 ^ P.length ∧ lookE (farM P k g) x = some d ∧ ∀ i, i < n → x.testBit i = true := by
    intro n
    induction n with
    | zero => exact fun _ => ⟨g, 0, hg, farM_root hg (hpo hg), fun i hi => by omega⟩
    | succ n ih =>
      intro hn
      obtain ⟨x, d, hx, hl, hb⟩ := ih (by omega)
      by_cases hb' : x.testBit n = true
      · exact ⟨x, d, hx, hl, fun i hi => if e : i = n then e ▸ hb' else hb i (by omega)⟩
      · obtain ⟨d', h1, _⟩ := farM_next hP hg hl (n := n) (by omega) (hway hx (by omega) hb)
        refine ⟨_, d', Nat.xor_lt_two_pow hx (Nat.pow_lt_pow_right (by omega) (by omega)), h1, fun i hi => ?_⟩
        rw [Nat.testBit_xor, Nat.testBit_two_pow]
        by_cases e : i = n
        · subst e; simp at hb'; simp [hb']
        · rw [hb i (by omega), decide_eq_false (by omega)]; rfl
  obtain ⟨x, d, hx, hl, hb⟩ := up P.length (Nat.le_refl _)
  obtain rfl : x = 2 ^ P.length - 1 := by
    refine Nat.eq_of_testBit_eq fun i => ?_
    rw [Nat.testBit_two_pow_sub_one]
    by_cases hi : i < P.length
    · rw [hb i hi, decide_eq_true hi]
    · rw [decide_eq_false hi, Nat.testBit_lt_two_pow (Nat.lt_of_lt_of_le hx (Nat.pow_le_pow_right (by omega) (by omega)))]
  have down : ∀ m n, n + m = P.length → ∃ d, lookE (farM P k g) (2 ^ n - 1) = some d := by
    intro m
    induction m with
    | zero => intro n hn; rw [show n = P.length by omega]; exact ⟨d, hl⟩
    | succ m ih =>
      intro n hn
      obtain ⟨d1, h1⟩ := ih (n + 1) (by omega)
      have hlt : 2 ^ (n + 1) - 1 < 2 ^ P.length := by
        have := Nat.pow_le_pow_right (n := 2) (by omega) (show n + 1 ≤ P.length by omega)
        have := Nat.two_pow_pos (n + 1)
        omega
      obtain ⟨d2, h2, _⟩ := farM_next hP hg h1 (n := n) (by omega) (hway hlt (by omega) fun i hi => by rw [Nat.testBit_two_pow_sub_one]; exact decide_eq_true (by omega))
      refine ⟨d2, ?_⟩
      rw [← h2]
      congr 1
      refine Nat.eq_of_testBit_eq fun i => ?_
      rw [Nat.testBit_xor, Nat.testBit_two_pow, Nat.testBit_two_pow_sub_one, Nat.testBit_two_pow_sub_one]
      by_cases e : i = n
      · subst e; simp
      · by_cases e2 : i < n
        · rw [decide_eq_true e2, decide_eq_true (show i < n + 1 by omega), decide_eq_false (by omega)]; rfl
        · rw [decide_eq_false e2, decide_eq_false (show ¬ i < n + 1 by omega), decide_eq_false (by omega)]; rfl
  exact down P.length 0 (by omega)
theorem isShort_all {P : List Nat} {k g : Nat} (hL : LowP P) (hP : P.length ≤ 10) (hg : g < 2 ^ P.length) (hk : P.length ≤ k) : isShort P k g = true := by
  obtain ⟨d, h⟩ := reach_all hL hP hg hk
  rw [isShort, h]; rfl
theorem trade_ne {G : List (List Int)} {gs : List Int} (h : withE G gs = 0) : tradeG G gs ≠ [] := by
  obtain ⟨N, g, rfl, hN, rfl, hg⟩ := withE_nat h
  have h1 := hN.one
  have hl : (needsM N).length = N.length := by simp [needsM]
  have hs := isShort_all (k := N.length) (g := posM g) hN.lowP (by rw [hl]; exact hN.ten) (by rw [hl]; exact posM_lt hg.lt) (by omega)
  unfold tradeG
  rw [natsG_ofs2, nats_ofs, ofs2_length]
  obtain ⟨n, hn⟩ : ∃ n, N.length = n + 1 := ⟨N.length - 1, by omega⟩
  rw [hn] at hs ⊢
  rw [tradeF]
  split
  · simp
  · rename_i hne
    intro h0
    exact hne ⟨hs, .inl (by rw [h0]; rfl)⟩
end Go.AM

/-! ### G4 -/
namespace Go.AM
open Go.Proofs
set_option maxRecDepth 100000
set_option linter.unusedVariables false
set_option linter.unusedSimpArgs false
theorem popc_half (x : Nat) : popc x = x % 2 + popc (x / 2) := by
  have := popc_double (x / 2) (x % 2) (Nat.mod_lt _ (by omega))
  rwa [Nat.mod_add_div] at this
theorem sShr {P : Program} {ρ : Env} {m : Mem} {K : Env → Mem → Prop} {ops : Array Oper} {l : List Oper} {d : Option Nat} {ty t tz : TypeId} {pos : String} {af : Array Edge} {x y : Operand} {a b : Nat} {k : IntKind}
    (hx : evR ρ x = nv a) (hy : evR ρ y = .int k (Int.ofNat b)) (h : a < 9223372036854775808) (hk : wpOps P ops K l (updO ρ d (nv (a >>> b))) m) :
    wpOps P ops K (⟨d, .binOp .shr t x y tz, ty, pos, af, none⟩ :: l) ρ m := by
  refine sP (v := nv (a >>> b)) ?_ hk
  simp only [aPure, hx, hy, aBin, nv]
  rw [if_pos (.inr trivial)]
  exact aInt_shr h
theorem mayM_iff {N : List (List Nat)} {n : Nat} (hn : n < N.length) (x : Nat) : mayM (needsM N) x n = true ↔ ∀ k ∈ N.getD n [], x.testBit k = true := by
  have hg : (needsM N).getD n 0 = posM (N.getD n []) := by
    simp [needsM, List.getD_eq_getElem?_getD, List.getElem?_map, List.getElem?_eq_getElem hn]
  unfold mayM
  rw [hg, decide_eq_true_eq]
  constructor
  · intro h k hk
    have := congrArg (·.testBit k) h
    simp only [Nat.testBit_and, posM_bit, decide_eq_true hk, Bool.and_true] at this
    exact this
  · intro h
    refine Nat.eq_of_testBit_eq fun i => ?_
    rw [Nat.testBit_and, posM_bit]
    by_cases hi : i ∈ N.getD n []
    · rw [h i hi, decide_eq_true hi]; rfl
    · rw [decide_eq_false hi, Bool.and_false]

theorem ofs2_getD {N : List (List Nat)} {n : Nat} (hn : n < N.length) : (ofs2 N)[n]? = some (ofs (N.getD n [])) := by simp [ofs2, List.getD_eq_getElem?_getD, List.getElem?_eq_getElem hn]
theorem getDr {N : List (List Nat)} {n : Nat} (hn : n < N.length) : N[n]? = some (N.getD n []) := by rw [List.getD_eq_getElem?_getD, List.getElem?_eq_getElem hn]; rfl
theorem bitB (x u : Nat) : decide (x >>> u &&& 1 = 1) = x.testBit u := by
  by_cases h : x.testBit u = true
  · rw [h, decide_eq_true ((bit_one x u).2 h)]
  · rw [Bool.eq_false_iff.2 h, decide_eq_false (fun e => h ((bit_one x u).1 e))]
theorem mayM_all {N : List (List Nat)} {n : Nat} (hn : n < N.length) (x : Nat) : ((N.getD n []).all fun u => x.testBit u) = mayM (needsM N) x n := by
  rw [Bool.eq_iff_iff, mayM_iff hn, List.all_eq_true]
def endX (x : Nat) (l : List Nat) : Nat := l.foldl (fun x n => x ^^^ 2 ^ n) x
theorem endX_snoc (x : Nat) (l : List Nat) (n : Nat) : endX x (l ++ [n]) = endX x l ^^^ 2 ^ n := by simp [endX]
theorem playE_snoc {P : List Nat} {n : Nat} (hn : n < P.length) : ∀ {l : List Nat} {x : Nat}, playE P x (ofs l) = 0 → mayM P (endX x l) n = true → playE P x (ofs (l ++ [n])) = 0
  | [], x, _, hm => by
    have h0 : ¬ (Int.ofNat n < 0 ∨ Int.ofNat P.length ≤ Int.ofNat n) := by simp; omega
    show playE P x [Int.ofNat n] = 0
    rw [playE, if_neg h0, show (Int.ofNat n).toNat = n from rfl, show mayM P x n = true from hm]; rfl
  | y :: l, x, h, hm => by
    have h' : playE P x (Int.ofNat y :: ofs l) = 0 := h
    show playE P x (Int.ofNat y :: ofs (l ++ [n])) = 0
    rw [playE] at h' ⊢
    split at h'
    · cases h'
    · rename_i h1
      rw [if_neg h1]
      split at h'
      · rename_i h2
        rw [if_pos h2]
        exact playE_snoc hn h' hm
      · cases h'
end Go.AM

/-! ### S6 -/
namespace Go.AM
open Go.Proofs
set_option maxRecDepth 100000
set_option linter.unusedVariables false
set_option linter.unusedSimpArgs false
theorem cut_own {N : Nat} {m : Mem} {v : Value} {L : List Nat} {k : Nat} (h : OwnF N m v (ofs L)) (hk : k ≤ L.length) : ∃ v2, aSlice Tryz.prog m 29 v none (some (nv k)) none = some v2 ∧ OwnF N m v2 (ofs (L.take k)) ∧ (∃ q c, v2 = .slice q (L.take k).length c) := by
  rcases h with ⟨h1, rfl⟩ | ⟨b, cap, c, rfl, h2, h3, h4, h5, h6⟩
  · obtain rfl : L = [] := by cases L with
      | nil => rfl
      | cons a r => simp [ofs] at h1
    obtain rfl : k = 0 := by simpa using hk
    exact ⟨.slice none 0 0, by simp only [aSlice, T29, S3, aBounds]; rfl, .nil _ _, _, _, rfl⟩
  · have hkc : k ≤ cap := by rw [ofs_length] at h4; omega
    refine ⟨_, aSlice_hi T29 S3 hkc, .inr ⟨b, cap, c, by rw [ofs_length, List.length_take, Nat.min_eq_left hk], h2, h3, by rw [ofs_length, List.length_take]; omega, h5, fun i x hx => h6 i x ?_⟩, _, _, by rw [List.length_take, Nat.min_eq_left hk]⟩
    simp only [ofs, List.map_take, List.getElem?_take] at hx
    split at hx
    · exact hx
    · cases hx
theorem Sorted2.low {N : Nat} {v : Value} {L : List Nat} {m m' : Mem} (h : Sorted2 N v L m m') : Low N m m' := ⟨by rw [h.2.1]; exact Nat.le_refl _, fun c hc => h.2.2 c fun e => by have := (h.1.lt e).1; omega⟩
theorem minNN {a b : Nat} : aFold aMin2 (nv a) [nv b] = some (nv (min a b)) := by
  simp only [aFold, aMin2, if_true]
  congr 2
  by_cases h : b < a
  · rw [if_pos (by simpa using h), Nat.min_eq_right (by omega)]
  · rw [if_neg (by simpa using h), Nat.min_eq_left (by omega)]
/-- Rows that may be a graph's. -/
def RowOk (G : List (List Nat)) : Prop := ∀ (j : Nat) (g : List Nat), G[j]? = some g → g.length ≤ 2 ∧ (∀ x ∈ g, x < j) ∧ g.Pairwise (· < ·)
theorem RowOk.snoc {G : List (List Nat)} {g : List Nat} (h : RowOk G) (h1 : g.length ≤ 2) (h2 : ∀ x ∈ g, x < G.length) (h3 : g.Pairwise (· < ·)) : RowOk (G ++ [g]) := fun j r hj => by
  by_cases e : j < G.length
  · rw [List.getElem?_append_left e] at hj; exact h j r hj
  · rw [List.getElem?_append_right (by omega)] at hj
    match hd : j - G.length, hj with
    | 0, hj =>
      obtain rfl := Option.some.inj hj
      obtain rfl : j = G.length := by omega
      exact ⟨h1, h2, h3⟩
    | d + 1, hj => simp at hj
theorem RowOk.dag {G : List (List Nat)} (h : RowOk G) (h1 : 1 ≤ G.length) (h2 : G.length ≤ 10) : Dag G where
  one := h1
  ten := h2
  two g hg := by obtain ⟨j, hj, e⟩ := List.getElem_of_mem hg; exact (h j g (by rw [List.getElem?_eq_getElem hj, e])).1
  less j g hj := (h j g hj).2.1
  rise g hg := by obtain ⟨j, hj, e⟩ := List.getElem_of_mem hg; exact (h j g (by rw [List.getElem?_eq_getElem hj, e])).2.2
theorem OwnR.lowx {N b : Nat} {m m' : Mem} {v : Value} {cs : Array Value} {G : List (List Int)} (h : OwnR N m v cs G) (hx : LowX m.size b m m') (hb : b < N) : OwnR N m' v cs G := h.up fun c h1 h2 => hx.2 c h2 (by omega)

/-- A graph that can be read whatever is done to a store. -/
def Steady (m : Mem) (b : Nat) (s : Value) (G : List (List Int)) : Prop := ∀ m', LowX m.size b m m' → RowsAt m' s G
theorem Steady.next {m m2 : Mem} {b : Nat} {s : Value} {G : List (List Int)} (h : Steady m b s G) (hx : LowX m.size b m m2) : Steady m2 b s G := fun m' h' => h m' (hx.trans ⟨h'.1, fun c h1 h2 => h'.2 c (by have := hx.1; omega) h2⟩)

theorem okf5 : okF Tryz.prog H0 5 34 = true := by kernel_rfl
theorem spec_Grown {m : Mem} {N0 N b k most : Nat} (h : StoreAt N0 N m b k) (hk : k < 50000) (hN0 : N0 ≤ b) (hm1 : 1 ≤ most) (hm2 : most ≤ 10) : ∃ v m', ACalls Tryz.prog 5 #[.pointer (some ⟨b, 0, none⟩), nv most] m v m' ∧ (∃ w cs G, v = .agg #[w] ∧ OwnR m.size m' w cs (ofs2 G) ∧ Dag G ∧ G.length ≤ most ∧ StoreAt N0 N m' b (k + 200) ∧ LowX m.size b m m') := by
  have hbm : b < m.size := by have := h.lt; omega
  have hNm : N ≤ m.size := h.lt.2
  have hX0 : LowX (m.size + 1) b ((m.push (.cells true #[.slice none 0 0])).push (.cells true #[.slice none 0 0])) ((m.push (.cells true #[.slice none 0 0])).push (.cells true #[.slice none 0 0])) := .refl _ _ _
  have hS0 : StoreAt N0 N ((m.push (.cells true #[.slice none 0 0])).push (.cells true #[.slice none 0 0])) b k := h.ext hN0 ((Ext.push _ _).trans (.push _ _))
  have hE0 : Ext m ((m.push (.cells true #[.slice none 0 0])).push (.cells true #[.slice none 0 0])) := (Ext.push _ _).trans (.push _ _)
  have hz0 : ((m.push (.cells true #[.slice none 0 0])).push (.cells true #[.slice none 0 0])).size = m.size + 2 := by simp
  refine wpF (args := [_, _]) mixed okf5 (fn := Tryz.f5) rfl rfl rfl (by simp) ?_
  refine cSeq ?_
  refine cRegion ?_
  refine sAllocB (bl := m.size) (by simp) Z27 (by kernel_rfl) ?_
  refine sNil (kSeqN ?_)
  refine cSeq ?_
  refine cRegion ?_
  refine sAllocB (bl := m.size + 1) (by simp) Z27 (by kernel_rfl) ?_
  refine sNil (kSeqN ?_)
  refine cSeq ?_
  refine cSeq ?_
  refine cRegion ?_
  refine sMv (v := .pointer _) rfl ?_
  refine sMv (v := nv _) rfl ?_
  obtain ⟨v10, m10, h10, ⟨n, rfl, hn1, hn2⟩, hS10, hO10⟩ := spec_From (lo := 1) (hi := most) hS0 (by omega) (by omega) (by omega)
  refine sCall3 rfl call17 rfl rfl rfl h10 ?_
  have g10 : Mem.get m10 (m.size + 1) = .cells true #[.slice none 0 0] := (hO10.2 _ (by omega)).trans (gP (by simp))
  have g10' : Mem.get m10 m.size = .cells true #[.slice none 0 0] := (hO10.2 _ (by omega)).trans (by rw [gPn (by simp), gP rfl])
  have z10 : m10.size = m.size + 2 := by rw [hO10.1]; exact hz0
  have hX10 : LowX m.size b m m10 := ⟨by omega, fun c h1 h2 => (hO10.2 c h2).trans (hE0.2 c h1)⟩
  refine sMv (v := nv 0) rfl ?_
  refine sNil (kSeqN ?_)
  refine cBlock ?_
  refine wpC_loop (fun k' ρ m' => ∃ i v cs G, k' = n - i ∧ i ≤ n ∧ G.length = i ∧ RowOk G ∧ LowX (m.size + 1) b m10 m' ∧ Mem.get m' (m.size + 1) = .cells true #[v] ∧ OwnR (m.size + 2) m' v cs (ofs2 G) ∧ StoreAt N0 N m' b (k + 1 + 11 * i) ∧ Has ρ [(0, .pointer (some ⟨b, 0, none⟩)), (4, .pointer (some ⟨m.size, 0, none⟩)), (5, .pointer (some ⟨m.size + 1, 0, none⟩)), (10, nv n), (11, nv i)]) ⟨0, _, #[], [], rfl, by omega, rfl, fun j g hj => by simp at hj, .refl _ _ _, g10, .nil _ _, hS10, rfl, rfl, rfl, rfl, rfl, trivial⟩ ?_
  rintro k' ρ m' ⟨i, v, cs, G, rfl, hi, hGl, hGo, hX, g2, hO, hS, hh⟩
  obtain ⟨qv, cv, rfl⟩ := hO.1.len
  rw [hh.env]; clear hh
  have hz := live g2
  have hz2 : m.size + 2 ≤ m'.size := by have := hX.1; omega
  refine cSeq ?_
  refine cRegion ?_
  refine sBin rfl rfl (aInt_lss) ?_
  refine sNil (kSeqN ?_)
  refine cSeq ?_   -- seq 5
  refine cCond rfl (fun c0 => ?_) (fun c0 => ?_)
  ·
    refine cSkip (kSeqN ?_)
    refine cSeq ?_
    refine cBlock ?_
    refine cSeq ?_
    refine cRegion ?_
    refine sMv (v := nv _) rfl ?_
    refine sAs (v := nv _) rfl ?_
    refine sNil (kSeqN ?_)
    refine cSeq ?_
    refine cRegion ?_
    refine sMv (v := .pointer _) rfl ?_
    refine sMv (v := nv _) rfl ?_
    obtain ⟨v16, m16, h16, L, hO16, hLl, hLx, hLn, hS16, hX16⟩ := spec_Order (n := i) hS (by omega) hN0 (by omega)
    obtain ⟨q16, c16, rfl⟩ := hO16.ints.lenN
    have z16 := hX16.1
    refine sCall2 rfl call18 rfl rfl h16 ?_
    refine sAs (v := .slice _ _ _) rfl ?_
    refine sNil (kSeqN ?_)
    refine cSeq ?_
    refine cRegion ?_
    refine sMv (v := .slice _ _ _) rfl ?_
    refine sMv (v := .slice _ _ _) rfl ?_
    refine sLen T29 rfl ?_
    refine sMv (v := .pointer _) rfl ?_
    obtain ⟨v21, m21, h21, ⟨z, rfl, hzz⟩, hS21, hO21⟩ := spec_SLess (n := 3) hS16 (by omega) (by omega) (by omega)
    refine sCall2 rfl call19 rfl rfl h21 ?_
    have hOL := hO16.only hO21 (by omega)
    obtain ⟨v23, h23, hO23, q23, c23, rfl⟩ := cut_own (k := min L.length z) hOL (Nat.min_le_left _ _)
    have hl2 : (L.take (min L.length z)).length ≤ 2 := by rw [List.length_take]; omega
    refine sP (v := nv (min L.length z)) minNN ?_
    refine sO (v := .slice q23 (L.take (min L.length z)).length c23) (m' := m21) (opF_read rfl h23) ?_
    have hK1 : ∀ x ∈ L.take (min L.length z), x < i := fun x hx => hLx x (List.mem_of_mem_take hx)
    have hK2 : (L.take (min L.length z)).Nodup := hLn.sublist (List.take_sublist _ _)
    generalize L.take (min L.length z) = K at *
    refine sAs (v := .slice _ _ _) rfl ?_
    refine sNil (kSeqN ?_)
    refine cSeq ?_
    refine cRegion ?_
    refine sMv (v := .slice _ _ _) rfl ?_
    obtain ⟨w25, m25, h25, k25⟩ := spec_Sort2 hO23 hl2
    have l25 := k25.low
    have z25 := k25.2.1
    refine sCall1 rfl call20 rfl h25 ?_
    have hXm : LowX m'.size b m' m25 := (hX16.trans hO21.x).trans l25.x
    have g25 : Mem.get m25 (m.size + 1) = .cells true #[.slice qv (ofs2 G).length cv] := (hXm.2 _ (by omega) (by omega)).trans g2
    have hO25 := hO.lowx hXm (by omega)
    have z21 := hO21.1
    have hK3 : (ofs K).length = K.length := ofs_length K
    have hK4 : (ofs (sort2 K)).length = K.length := by rw [ofs_length, sort2_len]
    have hGG : (ofs2 G).length = i := by rw [ofs2_length]; exact hGl
    refine sNil (kSeqN ?_)
    refine cRegion ?_
    refine sFA F27_0 rfl ?_
    refine sLd (v := .slice _ _ _) A25 rfl g25 rfl ?_
    refine sMv (v := .slice _ _ _) rfl ?_
    refine sBuildS T25 S29 Z29 (by decide) (by decide) (by decide) (by kernel_rfl) fillV rfl ?_
    refine sAppC El22 rfl rfl (N := m.size + 2) (n := (ofs2 G).length) (cs := cs) (d := #[.slice q23 K.length c23]) (hO25.ext (.push _ _)).1 (gP rfl) rfl (by kernel_rfl) (by simp; omega) (by omega) fun v' m4 hO4 hL4 hG4 => ?_
    have g24 := hL4.cells (show m.size + 1 < m.size + 2 by omega) ((gPn (live g25)).trans g25)
    have hgr := (hO25.ext (.push _ (.cells true #[.slice q23 K.length c23]))).grew ((k25.1.mono hz2).ext (.push _ _)) (fun b hb e => by
      have h1 := (k25.1.lt hb).1
      have h2 := (hO.1.lt e).2
      omega) hG4 hO4
    obtain ⟨q4, cp4, rfl⟩ := hO4.len
    refine sFA F27_0 rfl ?_
    refine sSt (v := .slice _ _ _) S25 rfl rfl g24 (by simp) rfl rfl ?_
    refine sNil (kBlkN (kSeqN ?_))
    refine cRegion ?_
    refine sBin rfl rfl (aInt_add (b := 1) (by omega)) ?_
    refine sMv (v := nv _) rfl ?_
    refine sNil (kSeqN ?_)
    have hLow4 : Low (m.size + 1) m25 (m4.setIfInBounds (m.size + 1) (.cells true #[.slice q4 ((ofs2 G).length + 1) cp4])) := (Low.push _ (by omega) _).trans ((hL4.le (Nat.le_succ _)).trans (.set (Nat.le_refl _) _))
    have hXm' : LowX (m.size + 1) b m' m25 := ⟨hXm.1, fun c h1 h2 => hXm.2 c (by omega) h2⟩
    refine ⟨_, ?_, i + 1, .slice q4 ((ofs2 G).length + 1) cp4, cs ++ #[.slice q23 K.length c23], G ++ [sort2 K], rfl, by omega, by simp [hGl], hGo.snoc (by rw [sort2_len]; exact hl2) (fun x hx => by rw [hGl]; exact hK1 x ((sort2_perm K).mem_iff.1 hx)) (sort2_rise hl2 hK2), (hX.trans hXm').trans hLow4.x, by rw [gS rfl (live g24)]; rfl, ?_, ((hS21.low hN0 l25 (by omega)).low hN0 hLow4 (by omega)).le (by omega), rfl, rfl, rfl, rfl, rfl, trivial⟩
    · omega
    · rw [show ofs2 (G ++ [sort2 K]) = ofs2 G ++ [ofs (sort2 K)] by simp [ofs2]]
      exact hgr.only (.set (m.size + 1) m4 (.cells true #[.slice q4 ((ofs2 G).length + 1) cp4])) (by omega)
  ·
    obtain rfl : i = n := by omega
    have g0 : Mem.get m' m.size = .cells true #[.slice none 0 0] := (hX.2 _ (by omega) (by omega)).trans g10'
    refine cExit (kSeqE (kSeqE (kBlkS (kSeqN ?_))))
    refine cSeq ?_
    refine cRegion ?_
    refine sLdAll A27 S27 rfl g2 rfl ?_
    refine sStAll S27 rfl rfl g0 rfl rfl (by kernel_rfl) ?_
    refine sNil (kSeqN ?_)
    refine cRet ?_
    refine ⟨.inr rfl, _, resRs_agg A27 S27 rfl (gS rfl (live g0)) rfl, _, cs, G, rfl, (hO.only (.set m.size _ _) (by omega)).mono (by omega), hGo.dag (by omega) (by omega), by omega, ?_, ?_⟩
    · exact (hS.low hN0 (.set (N := m.size) (Nat.le_refl _) _) hNm).le (by omega)
    · exact (hX10.trans ⟨hX.1, fun c h1 h2 => hX.2 c (by omega) h2⟩).trans (Low.set (N := m.size) (Nat.le_refl _) _).x

theorem okf6 : okF Tryz.prog H0 6 29 = true := by kernel_rfl
theorem spec_aims {m : Mem} {N0 N b k : Nat} {s : Value} {G : List (List Nat)} (h : StoreAt N0 N m b k) (hk : k < 50000) (hN0 : N0 ≤ b) (hG : Steady m b s (ofs2 G)) (hD : Dag G) : ∃ v m', ACalls Tryz.prog 6 #[.pointer (some ⟨b, 0, none⟩), .agg #[s]] m v m' ∧ (∃ g : List Nat, OwnF m.size m' v (ofs g) ∧ Goals G.length g ∧ G.length - 1 ∈ g ∧ StoreAt N0 N m' b (k + 10) ∧ LowX m.size b m m') := by
  have hbm : b < m.size := by have := h.lt; omega
  have hNm : N ≤ m.size := h.lt.2
  have h10 := hD.ten
  have h1 := hD.one
  obtain ⟨q, cap, rfl⟩ := (hG m (.refl _ _ _)).len
  have hS0 : StoreAt N0 N (m.push (.cells true #[.slice q (ofs2 G).length cap])) b k := h.ext hN0 (.push _ _)
  rw [ofs2_length] at hS0 ⊢
  refine wpF (args := [_, _]) mixed okf6 (fn := Tryz.f6) rfl rfl rfl (by simp) ?_
  refine cSeq ?_
  refine cRegion ?_
  refine sBox (v := .agg _) rfl ?_
  refine sAs (v := .slice _ _ _) rfl ?_
  refine sNil (kSeqN ?_)
  refine cSeq ?_
  refine cRegion ?_
  refine sAs (v := .slice _ _ _) rfl ?_
  refine sNil (kSeqN ?_)
  refine cSeq ?_
  refine cSeq ?_
  refine cRegion ?_
  refine sFA F27_0 rfl ?_
  refine sLd A25 rfl (by simp (disch := first | omega | (simp only [Array.size_push, Array.size_setIfInBounds]; done) | (simp only [Array.size_push, Array.size_setIfInBounds]; omega)) only [gP, gPn, gS, gSn]; try rfl) rfl ?_
  refine sLen T25 rfl ?_
  refine sMv (v := nv 0) rfl ?_
  refine sNil (kSeqN ?_)
  refine cBlock ?_
  refine wpC_loop (fun k' ρ m' => ∃ i v g, k' = G.length - i ∧ i ≤ G.length ∧ g.length ≤ i ∧ (∀ x ∈ g, x < i) ∧ g.Pairwise (· < ·) ∧ (i = G.length → G.length - 1 ∈ g) ∧ OwnF (m.size + 1) m' v (ofs g) ∧ StoreAt N0 N m' b (k + i) ∧ LowX (m.size + 1) b (m.push (.cells true #[.slice q G.length cap])) m' ∧ Has ρ [(0, .pointer (some ⟨b, 0, none⟩)), (3, .pointer (some ⟨m.size, 0, none⟩)), (5, v), (9, nv G.length), (10, nv i)]) ⟨0, _, [], rfl, by omega, by simp, by simp, .nil, by omega, .nil _ _, hS0, .refl _ _ _, rfl, rfl, rfl, rfl, rfl, trivial⟩ ?_
  rintro k' ρ m' ⟨i, v, g, rfl, hi, hgl, hgx, hgr, hgn, hO, hS, hX, hh⟩
  obtain ⟨qv, cv, rfl⟩ := hO.ints.lenN
  rw [hh.env]; clear hh
  have hz := hX.1
  simp only [Array.size_push] at hz
  have gb : Mem.get m' m.size = .cells true #[.slice q G.length cap] := (hX.2 _ (by omega) (by omega)).trans (gP rfl)
  refine cSeq ?_
  refine cRegion ?_
  refine sBin rfl rfl (aInt_lss) ?_
  refine sNil (kSeqN ?_)
  refine cSeq ?_   -- seq 5
  refine cCond rfl (fun c0 => ?_) (fun c0 => ?_)
  ·
    refine cSkip (kSeqN ?_)
    refine cSeq ?_
    refine cBlock ?_
    refine cSeq ?_
    refine cRegion ?_
    refine sMv (v := nv _) rfl ?_
    refine sAs (v := nv _) rfl ?_
    refine sNil (kSeqN ?_)
    refine cSeq ?_
    refine cRegion ?_
    refine sMv (v := nv _) rfl ?_
    refine sFA F27_0 rfl ?_
    refine sLd A25 rfl (by simp (disch := first | omega | (simp only [Array.size_push, Array.size_setIfInBounds]; done) | (simp only [Array.size_push, Array.size_setIfInBounds]; omega)) only [gP, gPn, gS, gSn, gb]; try rfl) rfl ?_
    refine sLen T25 rfl ?_
    refine sBin (v := nv (G.length - 1)) rfl rfl (aInt_sub (b := 1) (by omega)) ?_
    refine sBin (a := i) (b := G.length - 1) rfl rfl aInt_eql ?_
    refine sMv (v := .bool _) rfl ?_
    by_cases h5 : i = G.length - 1
    ·
      rw [decide_eq_true h5]
      refine sGno (q' := true) rfl rfl (by simp) ?_
      refine sGno (q' := true) rfl rfl (by simp) ?_
      refine sP (v := .bool _) rfl ?_
      refine sNil (kSeqN ?_)
      refine cCondT rfl ?_
      refine cRegion ?_
      refine sMv (v := .slice _ _ _) rfl ?_
      refine sMv (v := nv _) rfl ?_
      refine sBuildS T29 S3 Z3 (by decide) (by decide) (by decide) (by kernel_rfl) fill1 rfl ?_
      refine sApp App29 rfl rfl (N := m.size + 1) (by first | exact hOa.ext (.push _ _) | exact hO.ext (.push _ _)) one_ints (by first | (simp; omega) | (have := hz21; simp; omega)) (by simp; omega) fun v3 m3 hO3 hL3 => ?_
      rw [show ofs g ++ [Int.ofNat i] = ofs (g ++ [i]) by rw [ofs_append]; rfl] at hO3
      obtain ⟨q3, cp3, rfl⟩ := hO3.ints.lenN
      have hrs : (g ++ [i]).Pairwise (· < ·) := List.pairwise_append.2 ⟨hgr, List.pairwise_singleton _ _, fun a ha b hb => by rw [List.mem_singleton.1 hb]; exact hgx a ha⟩
      have hxs : ∀ x ∈ g ++ [i], x < i + 1 := fun x hx => by
        rcases List.mem_append.1 hx with hx | hx
        · have := hgx x hx; omega
        · rw [List.mem_singleton.1 hx]; omega
      refine sAs (v := .slice _ _ _) rfl ?_
      refine sNil (kBlkN (kSeqN ?_))
      refine cRegion ?_
      refine sBin rfl rfl (aInt_add (b := 1) (by omega)) ?_
      refine sMv (v := nv _) rfl ?_
      refine sNil (kSeqN ?_)
      have hL4 := mk_own' (by omega) hL3
      refine ⟨_, ?_, i + 1, _, g ++ [i], rfl, by omega, by simp; omega, hxs, hrs, fun e => by simp; right; omega, hO3, (hS.low hN0 hL4 (by omega)).le (by omega), hX.trans hL4.x, rfl, rfl, rfl, rfl, rfl, trivial⟩
      omega
    ·
      rw [decide_eq_false h5]
      refine sG rfl rfl ?_
      refine sMv (v := .pointer _) rfl ?_
      refine sG rfl rfl ?_
      obtain ⟨v21, m21, h21, ⟨x, rfl⟩, hS21, hO21⟩ := spec_Seldom (n := 6) hS (by omega) (by omega) (by omega)
      refine sCall2 rfl call21 rfl rfl h21 ?_
      refine sP (v := .bool _) rfl ?_
      refine sNil (kSeqN ?_)
      refine cCond (p := x = 0) rfl (fun c2 => ?_) (fun c2 => ?_)
      ·
        have hOa := hO.only hO21 (by omega)
        have hz21 := hO21.1
        refine cRegion ?_
        refine sMv (v := .slice _ _ _) rfl ?_
        refine sMv (v := nv _) rfl ?_
        refine sBuildS T29 S3 Z3 (by decide) (by decide) (by decide) (by kernel_rfl) fill1 rfl ?_
        refine sApp App29 rfl rfl (N := m.size + 1) (by first | exact hOa.ext (.push _ _) | exact hO.ext (.push _ _)) one_ints (by first | (simp; omega) | (have := hz21; simp; omega)) (by simp; omega) fun v3 m3 hO3 hL3 => ?_
        rw [show ofs g ++ [Int.ofNat i] = ofs (g ++ [i]) by rw [ofs_append]; rfl] at hO3
        obtain ⟨q3, cp3, rfl⟩ := hO3.ints.lenN
        have hrs : (g ++ [i]).Pairwise (· < ·) := List.pairwise_append.2 ⟨hgr, List.pairwise_singleton _ _, fun a ha b hb => by rw [List.mem_singleton.1 hb]; exact hgx a ha⟩
        have hxs : ∀ x ∈ g ++ [i], x < i + 1 := fun x hx => by
          rcases List.mem_append.1 hx with hx | hx
          · have := hgx x hx; omega
          · rw [List.mem_singleton.1 hx]; omega
        refine sAs (v := .slice _ _ _) rfl ?_
        refine sNil (kBlkN (kSeqN ?_))
        refine cRegion ?_
        refine sBin rfl rfl (aInt_add (b := 1) (by omega)) ?_
        refine sMv (v := nv _) rfl ?_
        refine sNil (kSeqN ?_)
        have hL4 := mk_own' (M := m.size + 1) (by omega) hL3
        refine ⟨_, ?_, i + 1, _, g ++ [i], rfl, by omega, by simp; omega, hxs, hrs, fun e => by simp; right; omega, hO3, (hS21.low hN0 hL4 (by omega)).le (by omega), (hX.trans hO21.x).trans hL4.x, rfl, rfl, rfl, rfl, rfl, trivial⟩
        omega
      ·
        refine cSkip (kBlkN (kSeqN ?_))
        refine cRegion ?_
        refine sBin rfl rfl (aInt_add (b := 1) (by omega)) ?_
        refine sMv (v := nv _) rfl ?_
        refine sNil (kSeqN ?_)
        have hOa := hO.only hO21 (by omega)
        refine ⟨_, ?_, i + 1, _, g, rfl, by omega, by omega, fun x hx => by have := hgx x hx; omega, hgr, fun e => by omega, hOa, hS21.le (by omega), hX.trans hO21.x, rfl, rfl, rfl, rfl, rfl, trivial⟩
        omega
  ·
    refine cExit (kSeqE (kSeqE (kBlkS (kSeqN ?_))))
    refine cSeq ?_
    refine cRegion ?_
    refine sMv (v := .slice _ _ _) rfl ?_
    refine sAs (v := .slice _ _ _) rfl ?_
    refine sNil (kSeqN ?_)
    refine cRet ?_
    obtain rfl : i = G.length := by omega
    have hm := hgn rfl
    refine ⟨.inr rfl, _, rfl, g, hO.mono (by omega), ⟨List.length_pos_of_mem hm, hgx, hgr⟩, hm, hS.le (by omega), ?_⟩
    exact (Low.push m.size (Nat.le_refl _) _).x.trans ⟨hX.1, fun c h1 h2 => hX.2 c (by omega) h2⟩

end Go.AM

/-! ### S7 -/
namespace Go.AM
open Go.Proofs
set_option maxRecDepth 100000
set_option linter.unusedVariables false
set_option linter.unusedSimpArgs false

theorem okf7 : okF Tryz.prog H0 7 51 = true := by kernel_rfl
theorem spec_Played {m : Mem} {N0 N b k long : Nat} {s : Value} {G : List (List Nat)} (h : StoreAt N0 N m b k) (hk : k < 50000) (hN0 : N0 ≤ b) (hG : Steady m b s (ofs2 G)) (hD : Dag G) (hlong : long ≤ 200) : ∃ v m', ACalls Tryz.prog 7 #[.pointer (some ⟨b, 0, none⟩), .agg #[s], nv long] m v m' ∧ (∃ l : List Nat, OwnF m.size m' v (ofs l) ∧ l.length ≤ long ∧ (∀ y ∈ l, y < G.length) ∧ playE (needsM G) 0 (ofs l) = 0 ∧ StoreAt N0 N m' b (k + 200) ∧ LowX m.size b m m') := by
  have hbm : b < m.size := by have := h.lt; omega
  have hNm : N ≤ m.size := h.lt.2
  have h10 := hD.ten
  have h1 := hD.one
  have hpl : (needsM G).length = G.length := needsM_length G
  obtain ⟨q, cap, rfl⟩ := (hG m (.refl _ _ _)).len
  have hS0 : StoreAt N0 N (m.push (.cells true #[.slice q (ofs2 G).length cap])) b k := h.ext hN0 (.push _ _)
  rw [ofs2_length] at hS0 hG ⊢
  refine wpF (args := [_, _, _]) mixed okf7 (fn := Tryz.f7) rfl rfl rfl (by simp) ?_
  refine cSeq ?_
  refine cRegion ?_
  refine sBox (v := .agg _) rfl ?_
  refine sAs (v := .slice _ _ _) rfl ?_
  refine sNil (kSeqN ?_)
  refine cSeq ?_
  refine cRegion ?_
  refine sAs (v := .slice _ _ _) rfl ?_
  refine sNil (kSeqN ?_)
  refine cSeq ?_
  refine cRegion ?_
  refine sAs (v := nv 0) rfl ?_
  refine sNil (kSeqN ?_)
  refine cSeq ?_
  refine cSeq ?_
  refine cRegion ?_
  refine sMv (v := nv _) rfl ?_
  refine sMv (v := nv 0) rfl ?_
  refine sNil (kSeqN ?_)
  refine cBlock ?_
  refine wpC_loop (fun k' ρ m' => ∃ i v l, k' = long - i ∧ i ≤ long ∧ l.length ≤ i ∧ (∀ y ∈ l, y < G.length) ∧ playE (needsM G) 0 (ofs l) = 0 ∧ endX 0 l < 1024 ∧ OwnF (m.size + 1) m' v (ofs l) ∧ StoreAt N0 N m' b (k + i) ∧ LowX (m.size + 1) b (m.push (.cells true #[.slice q G.length cap])) m' ∧ Has ρ [(0, .pointer (some ⟨b, 0, none⟩)), (4, .pointer (some ⟨m.size, 0, none⟩)), (7, v), (8, nv (endX 0 l)), (13, nv long), (14, nv i)]) ⟨0, _, [], rfl, by omega, by simp, by simp, rfl, by simp [endX], .nil _ _, hS0, .refl _ _ _, rfl, rfl, rfl, rfl, rfl, rfl, trivial⟩ ?_
  rintro k' ρ m' ⟨i, v, l, rfl, hi, hll, hlx, hpe, hex, hO, hS, hX, hh⟩
  obtain ⟨qv, cv, rfl⟩ := hO.ints.lenN
  rw [hh.env]; clear hh
  have hz := hX.1
  simp only [Array.size_push] at hz
  have gb : Mem.get m' m.size = .cells true #[.slice q G.length cap] := (hX.2 _ (by omega) (by omega)).trans (gP rfl)
  generalize hx : endX 0 l = x at *
  refine cSeq ?_
  refine cRegion ?_
  refine sBin rfl rfl (aInt_lss) ?_
  refine sNil (kSeqN ?_)
  refine cSeq ?_   -- seq 6
  refine cCond rfl (fun c0 => ?_) (fun c0 => ?_)
  ·
    refine cSkip (kSeqN ?_)
    refine cSeq ?_
    refine cBlock ?_
    refine cSeq ?_
    refine cRegion ?_
    refine sMv (v := .pointer _) rfl ?_
    refine sFA F27_0 rfl ?_
    refine sLd A25 rfl (by simp (disch := first | omega | (simp only [Array.size_push, Array.size_setIfInBounds]; done) | (simp only [Array.size_push, Array.size_setIfInBounds]; omega)) only [gP, gPn, gS, gSn, gb]; try rfl) rfl ?_
    refine sLen T25 rfl ?_
    obtain ⟨v20, m20, h20, ⟨y, rfl, hy⟩, hS20, hO20⟩ := spec_SLess (n := G.length) hS (by omega) (by omega) (by omega)
    refine sCall2 rfl call19 rfl rfl h20 ?_
    have gb20 : Mem.get m20 m.size = .cells true #[.slice q G.length cap] := (hO20.2 _ (by omega)).trans gb
    have hX20 := hX.trans hO20.x
    have hR := hG m20 ((Low.push m.size (Nat.le_refl _) (.cells true #[.slice q G.length cap])).x.trans ⟨hX20.1, fun c h1 h2 => hX20.2 c (by omega) h2⟩)
    obtain ⟨b1, o1, p1, r1, cc, e1, g1, x1⟩ := hR.at (by rw [ofs2_length]; omega)
    rw [ofs2_length] at e1
    cases e1
    obtain ⟨s1, hs1, har⟩ := x1 y _ (ofs2_getD hy)
    obtain ⟨qs, cs, rfl⟩ := har.lenN
    have hmay := mayM_all hy x
    have hless := hD.less y _ (getDr hy)
    have htwo := hD.two _ (List.mem_of_getElem? (getDr hy))
    generalize G.getD y [] = g at *
    refine sAs (v := nv _) rfl ?_
    refine sNil (kSeqN ?_)
    refine cSeq ?_
    refine cRegion ?_
    refine sAs (v := .bool _) rfl ?_
    refine sNil (kSeqN ?_)
    refine cSeq ?_
    refine cSeq ?_
    refine cRegion ?_
    refine sFA F27_0 rfl ?_
    refine sLd (v := .slice _ _ _) A25 rfl gb20 rfl ?_
    refine sMv (v := nv _) rfl ?_
    refine sIx T25 S29 rfl rfl hy ?_
    refine sLd (v := .slice _ _ _) A29 rfl g1 hs1 ?_
    refine sLen T29 rfl ?_
    refine sMv (v := nv 0) rfl ?_
    refine sNil (kSeqN ?_)
    refine cBlock ?_
    refine wpC_loop (fun k' ρ mm => ∃ j, k' = g.length - j ∧ j ≤ g.length ∧ m20 = mm ∧ Has ρ [(0, .pointer (some ⟨b, 0, none⟩)), (4, .pointer (some ⟨m.size, 0, none⟩)), (7, .slice qv l.length cv), (8, nv x), (9, nv y), (10, .bool ((g.take j).all fun u => x.testBit u)), (13, nv long), (14, nv i), (25, .slice qs g.length cs), (26, nv g.length), (27, nv j)]) ⟨0, rfl, by omega, rfl, rfl, rfl, rfl, rfl, rfl, rfl, rfl, rfl, rfl, rfl, rfl, trivial⟩ ?_
    rintro k' ρ _ ⟨j, rfl, hj, rfl, hh⟩
    rw [hh.env]; clear hh
    refine cSeq ?_
    refine cRegion ?_
    refine sBin rfl rfl (aInt_lss) ?_
    refine sNil (kSeqN ?_)
    refine cSeq ?_   -- seq 13
    refine cCond rfl (fun c1 => ?_) (fun c1 => ?_)
    ·
      obtain ⟨b2, o2, p2, r2, cd, e2, g2, x2⟩ := har.atN (by omega)
      cases e2
      have hgj := hless g[j] (List.getElem_mem c1)
      have hsh := Nat.shiftRight_le x g[j]
      have hst : (g.take (j + 1)).all (fun u => x.testBit u) = ((g.take j).all (fun u => x.testBit u) && x.testBit g[j]) := by
        rw [List.take_add_one, List.getElem?_eq_getElem c1, Option.toList, List.all_append]
        simp
      refine cSkip (kSeqN ?_)
      refine cSeq ?_
      refine cBlock ?_
      refine cSeq ?_
      refine cRegion ?_
      refine sIx T29 S3 rfl rfl (by omega) ?_
      refine sLd (v := nv g[j]) A3 rfl g2 (x2 j g[j] (by simp)) ?_
      refine sAs (v := nv _) rfl ?_
      refine sNil (kSeqN ?_)
      refine cRegion ?_
      refine sMv (v := .bool _) rfl ?_
      refine sMv (v := .bool _) rfl ?_
      by_cases h5 : (g.take j).all (fun u => x.testBit u) = true
      ·
        rw [h5]
        refine sG rfl rfl ?_
        refine sMv (v := nv _) rfl ?_
        refine sG rfl rfl ?_
        refine sMv (v := nv _) rfl ?_
        refine sG rfl rfl ?_
        refine sBin (a := x) (b := g[j]) rfl rfl (aInt_shr (by omega)) ?_
        refine sG rfl rfl ?_
        refine sBin (b := 1) rfl rfl (aInt_and (by omega)) ?_
        refine sG rfl rfl ?_
        refine sBin (v := .bool (x.testBit g[j])) (b := 1) rfl rfl (by rw [aInt_eql, bitB]) ?_
        refine sP (v := .bool _) rfl ?_
        refine sAs (v := .bool _) rfl ?_
        refine sNil (kBlkN (kSeqN ?_))
        refine cRegion ?_
        refine sBin rfl rfl (aInt_add (b := 1) (by omega)) ?_
        refine sMv (v := nv _) rfl ?_
        refine sNil (kSeqN ?_)
        refine ⟨_, ?_, j + 1, rfl, by omega, rfl, rfl, rfl, rfl, rfl, rfl, ?_, rfl, rfl, rfl, rfl, rfl, trivial⟩
        · omega
        · rw [hst, h5, Bool.true_and]; rfl
      ·
        rw [Bool.eq_false_iff.2 h5]
        refine sGno (q' := false) rfl rfl (by simp) ?_
        refine sGno (q' := false) rfl rfl (by simp) ?_
        refine sGno (q' := false) rfl rfl (by simp) ?_
        refine sGno (q' := false) rfl rfl (by simp) ?_
        refine sGno (q' := false) rfl rfl (by simp) ?_
        refine sP (v := .bool _) rfl ?_
        refine sAs (v := .bool _) rfl ?_
        refine sNil (kBlkN (kSeqN ?_))
        refine cRegion ?_
        refine sBin rfl rfl (aInt_add (b := 1) (by omega)) ?_
        refine sMv (v := nv _) rfl ?_
        refine sNil (kSeqN ?_)
        refine ⟨_, ?_, j + 1, rfl, by omega, rfl, rfl, rfl, rfl, rfl, rfl, ?_, rfl, rfl, rfl, rfl, rfl, trivial⟩
        · omega
        · rw [hst, Bool.eq_false_iff.2 h5, Bool.false_and]; rfl
    ·
      obtain rfl : j = g.length := by omega
      rw [List.take_length, hmay]
      refine cExit (kSeqE (kSeqE (kBlkS (kSeqN ?_))))
      refine cSeq ?_
      refine cRegion ?_
      refine sMv (v := .bool _) rfl ?_
      refine sNil (kSeqN ?_)
      refine cCond (p := mayM (needsM G) x y = true) (by show Value.bool _ = Value.bool _; rw [Bool.decide_eq_true]) (fun c2 => ?_) (fun c2 => ?_)
      ·
        have h2y : 2 ^ y < 2 ^ 10 := Nat.pow_lt_pow_right (by omega) (by omega)
        have hxy : x ^^^ 2 ^ y < 2 ^ 10 := Nat.xor_lt_two_pow hex h2y
        have hO20' := hO.only hO20 (by omega)
        have hz20 := hO20.1
        refine cSeq ?_
        refine cRegion ?_
        refine sMv (v := nv _) rfl ?_
        refine sMv (v := nv _) rfl ?_
        refine sBin (a := 1) (b := y) rfl rfl (aInt_shl (by omega)) ?_
        rw [Nat.shiftLeft_eq, Nat.one_mul]
        refine sBin rfl rfl (aInt_xor (by omega)) ?_
        refine sAs (v := nv _) rfl ?_
        refine sNil (kSeqN ?_)
        refine cRegion ?_
        refine sMv (v := .slice _ _ _) rfl ?_
        refine sMv (v := nv _) rfl ?_
        refine sBuildS T29 S3 Z3 (by decide) (by decide) (by decide) (by kernel_rfl) fill1 rfl ?_
        refine sApp App29 rfl rfl (N := m.size + 1) (hO20'.ext (.push _ _)) one_ints (by simp; omega) (by simp; omega) fun v3 m3 hO3 hL3 => ?_
        rw [show ofs l ++ [Int.ofNat y] = ofs (l ++ [y]) by rw [ofs_append]; rfl] at hO3
        obtain ⟨q3, cp3, rfl⟩ := hO3.ints.lenN
        refine sAs (v := .slice _ _ _) rfl ?_
        refine sNil (kBlkN (kSeqN ?_))
        refine cRegion ?_
        refine sBin rfl rfl (aInt_add (b := 1) (by omega)) ?_
        refine sMv (v := nv _) rfl ?_
        refine sNil (kSeqN ?_)
        have hL4 := mk_own' (M := m.size + 1) (by omega) hL3
        have hend : endX 0 (l ++ [y]) = x ^^^ 2 ^ y := by rw [endX_snoc, hx]
        refine ⟨_, ?_, i + 1, _, l ++ [y], rfl, by omega, by simp; omega, fun z hz => ?_, playE_snoc (by rw [hpl]; exact hy) hpe (by rw [hx]; exact c2), by rw [hend]; exact hxy, hO3, (hS20.low hN0 hL4 (by omega)).le (by omega), hX20.trans hL4.x, rfl, rfl, rfl, by rw [hend]; rfl, rfl, rfl, trivial⟩
        · omega
        · rcases List.mem_append.1 hz with hz | hz
          · exact hlx z hz
          · rw [List.mem_singleton.1 hz]; exact hy
      ·
        refine cSkip (kBlkN (kSeqN ?_))
        refine cRegion ?_
        refine sBin rfl rfl (aInt_add (b := 1) (by omega)) ?_
        refine sMv (v := nv _) rfl ?_
        refine sNil (kSeqN ?_)
        refine ⟨_, ?_, i + 1, _, l, rfl, by omega, by omega, hlx, hpe, by rw [hx]; exact hex, hO.only hO20 (by omega), hS20.le (by omega), hX20, rfl, rfl, rfl, by rw [hx]; rfl, rfl, rfl, trivial⟩
        omega
  ·
    refine cExit (kSeqE (kSeqE (kBlkS (kSeqN ?_))))
    refine cSeq ?_
    refine cRegion ?_
    refine sMv (v := .slice _ _ _) rfl ?_
    refine sAs (v := .slice _ _ _) rfl ?_
    refine sNil (kSeqN ?_)
    refine cRet ?_
    refine ⟨.inr rfl, _, rfl, l, hO.mono (by omega), by omega, hlx, hpe, hS.le (by omega), ?_⟩
    exact (Low.push m.size (Nat.le_refl _) _).x.trans ⟨hX.1, fun c h1 h2 => hX.2 c (by omega) h2⟩

theorem spec_ReverseN {m : Mem} : ∃ v m', ACalls Tryz.prog 55 #[.slice none 0 0] m v m' ∧ (m = m') := by
  have hrel : True := trivial
  refine wpF (args := [_]) mixed okf55 (fn := Tryz.f55) rfl rfl rfl (by simp) ?_
  refine cSeq ?_
  refine cRegion ?_
  refine sMv (v := .slice _ _ _) rfl ?_
  refine sLen T29 rfl ?_
  refine sBinI (v := .int .i64 (-1)) (a := Int.ofNat 0) (b := 1) rfl rfl rfl ?_
  refine sAs (v := nv 0) rfl ?_
  refine sAs (v := .int _ _) rfl ?_
  refine sNil (kSeqN ?_)
  refine cBlock ?_
  refine wpC_loop (fun k ρ m' => m = m' ∧ Has ρ [(0, .slice none 0 0), (2, nv 0), (3, .int .i64 (-1))]) (k := 0) ⟨rfl, rfl, rfl, rfl, trivial⟩ ?_
  rintro k ρ _ ⟨rfl, hh⟩
  rw [hh.env]; clear hh
  refine cSeq ?_   -- seq 1
  refine cSeq ?_
  refine cRegion ?_
  refine sMv (v := nv _) rfl ?_
  refine sMv (v := .int _ _) rfl ?_
  refine sBinI (v := .bool false) rfl rfl rfl ?_
  refine sNil (kSeqN ?_)
  refine cCondF rfl ?_
  refine cExit (kSeqE (kSeqE (kBlkS ?_)))
  exact ⟨.inl rfl, _, rfl, rfl⟩

theorem spec_ReverseO {m : Mem} {N : Nat} {v : Value} {L : List Nat} (h : OwnF N m v (ofs L)) (hl : L.length < 1000000) : ∃ w m', ACalls Tryz.prog 55 #[v] m w m' ∧ (Sorted2 N v L.reverse m m') := by
  rcases h with ⟨h1, rfl⟩ | ⟨b, cap, c, rfl, h2, h3, h4, h5, h6⟩
  · obtain rfl : L = [] := by cases L with
      | nil => rfl
      | cons a r => simp [ofs] at h1
    obtain ⟨w, m', h, rfl⟩ := spec_ReverseN (m := m)
    exact ⟨w, _, h, .nil _ _, rfl, fun _ _ => rfl⟩
  have hbm := live h3
  rw [ofs_length] at h4 ⊢
  generalize hn : L.length = n at *
  refine wpF (args := [_]) mixed okf55 (fn := Tryz.f55) rfl rfl rfl (by simp) ?_
  refine cSeq ?_
  refine cRegion ?_
  refine sMv (v := .slice _ _ _) rfl ?_
  refine sLen T29 rfl ?_
  refine sBinI (v := .int .i64 (Int.ofNat n - 1)) rfl rfl (aInt_subI (b := 1) (by simp; omega)) ?_
  refine sAs (v := nv 0) rfl ?_
  refine sAs (v := .int _ _) rfl ?_
  refine sNil (kSeqN ?_)
  refine cBlock ?_
  refine wpC_loop (fun k ρ m' => ∃ (i : Nat) (T : List Nat) (d : Array Value), k = n - 2 * i ∧ 2 * i ≤ n + 1 ∧ T.length = n ∧ (∀ k, T[k]? = if k < n ∧ (k < i ∨ n ≤ k + i) then L[n - 1 - k]? else L[k]?) ∧ Mem.get m' b = .cells true d ∧ d.size = c.size ∧ (∀ (j x : Nat), T[j]? = some x → d[j]? = some (nv x)) ∧ (∀ b', b ≠ b' → Mem.get m' b' = Mem.get m b') ∧ m'.size = m.size ∧ Has ρ [(0, .slice (some ⟨b, 0, some 1⟩) n cap), (2, nv i), (3, .int .i64 (Int.ofNat n - 1 - Int.ofNat i))]) ⟨0, L, c, rfl, by omega, hn, fun k => by rw [if_neg (by omega)], h3, rfl, fun j x hj => h6 j (Int.ofNat x) (by simp [ofs, hj]), fun _ _ => rfl, rfl, rfl, rfl, by show Value.int .i64 (Int.ofNat n - 1) = _; congr 1; simp, trivial⟩ ?_
  rintro k ρ m' ⟨i, T, d, rfl, hi, hT, ht, g1, hds, hdg, hB, hsz, hh⟩
  rw [hh.env]; clear hh
  refine cSeq ?_   -- seq 1
  refine cSeq ?_
  refine cRegion ?_
  refine sMv (v := nv _) rfl ?_
  refine sMv (v := .int _ _) rfl ?_
  refine sBinI rfl rfl aInt_lssNI ?_
  refine sNil (kSeqN ?_)
  refine cCond rfl (fun c0 => ?_) (fun c0 => ?_)
  ·
    have hij : 2 * i + 1 < n := by have : (i : Int) < (n : Int) - 1 - (i : Int) := c0; omega
    have hj : Int.ofNat n - 1 - Int.ofNat i = Int.ofNat (n - 1 - i) := by simp; omega
    rw [hj]
    have hTi : T[i]? = some (L[i]'(by omega)) := by rw [ht, if_neg (by omega), List.getElem?_eq_getElem]
    have hTj : T[n - 1 - i]? = some (L[n - 1 - i]'(by omega)) := by rw [ht, if_neg (by omega), List.getElem?_eq_getElem]
    refine cSkip (kSeqN ?_)
    refine cSeq ?_
    refine cBlock ?_
    refine cDraw rfl ?_
    refine sMv (v := .slice _ _ _) rfl ?_
    refine sMv (v := nv i) rfl ?_
    refine sMv (v := .slice _ _ _) rfl ?_
    refine sMv (v := nv (n - 1 - i)) rfl ?_
    refine sMv (v := .slice _ _ _) rfl ?_
    refine sMv (v := nv (n - 1 - i)) rfl ?_
    refine sIx T29 S3 rfl rfl (by omega) ?_
    refine sLd (v := nv (L[n - 1 - i]'(by omega))) A3 rfl (by simp (disch := first | omega | (simp only [Array.size_push, Array.size_setIfInBounds]; done) | (simp only [Array.size_push, Array.size_setIfInBounds]; omega)) only [gP, gPn, gS, gSn, g1]; try rfl) (by rw [Nat.zero_add, Nat.mul_one]; exact hdg _ _ hTj) ?_
    refine sMv (v := .slice _ _ _) rfl ?_
    refine sMv (v := nv _) rfl ?_
    refine sIx T29 S3 rfl rfl (by omega) ?_
    refine sLd (v := nv (L[i]'(by omega))) A3 rfl (by simp (disch := first | omega | (simp only [Array.size_push, Array.size_setIfInBounds]; done) | (simp only [Array.size_push, Array.size_setIfInBounds]; omega)) only [gP, gPn, gS, gSn, g1]; try rfl) (by rw [Nat.zero_add, Nat.mul_one]; exact hdg _ _ hTi) ?_
    refine sIx T29 S3 rfl rfl (by omega) ?_
    refine sSt (v := nv _) S3 rfl rfl (by simp (disch := first | omega | (simp only [Array.size_push, Array.size_setIfInBounds]; done) | (simp only [Array.size_push, Array.size_setIfInBounds]; omega)) only [gP, gPn, gS, gSn, g1]; try rfl) (by simp; omega) rfl rfl ?_
    refine sIx T29 S3 rfl rfl (by omega) ?_
    refine sSt (v := nv _) S3 rfl rfl (by simp (disch := first | omega | (simp only [Array.size_push, Array.size_setIfInBounds]; done) | (simp only [Array.size_push, Array.size_setIfInBounds]; omega)) only [gP, gPn, gS, gSn, g1]; try rfl) (by simp; omega) rfl rfl ?_
    rw [Nat.zero_add, Nat.mul_one i, Nat.zero_add, Nat.mul_one (n - 1 - i)]
    refine sNil (kBlkN (kSeqN ?_))
    refine cRegion ?_
    refine sMv (v := nv _) rfl ?_
    refine sBin rfl rfl (aInt_add (b := 1) (by omega)) ?_
    refine sMv (v := nv (n - 1 - i)) rfl ?_
    refine sBinI (v := .int .i64 (Int.ofNat (n - 1 - i) - 1)) rfl rfl (aInt_subI (b := 1) (by simp; omega)) ?_
    refine sAs (v := nv _) rfl ?_
    refine sAs (v := .int _ _) rfl ?_
    refine sNil (kSeqN ?_)
    refine ⟨_, ?_, i + 1, (T.set i (L[n - 1 - i]'(by omega))).set (n - 1 - i) (L[i]'(by omega)), _, rfl, by omega, by simpa using hT, fun k => ?_, gS rfl (by rw [Array.size_setIfInBounds]; exact live g1), by simpa using hds, fun j x hjx => ?_, fun b' hb' => by rw [gSn hb', gSn hb']; exact hB b' hb', by simpa using hsz, rfl, rfl, ?_, trivial⟩
    · omega
    · rw [List.getElem?_set, List.getElem?_set, List.length_set, ht k]
      by_cases h1 : k = n - 1 - i
      · subst h1
        rw [if_pos rfl, if_pos (by omega), if_pos (by omega), show n - 1 - (n - 1 - i) = i by omega, List.getElem?_eq_getElem]
      · rw [if_neg (fun h => h1 h.symm)]
        by_cases h2 : k = i
        · subst h2
          rw [if_pos rfl, if_pos (by omega), if_pos (by omega), List.getElem?_eq_getElem]
        · rw [if_neg (fun h => h2 h.symm)]
          by_cases h3 : k < n ∧ (k < i ∨ n ≤ k + i)
          · rw [if_pos h3, if_pos (by omega)]
          · rw [if_neg h3, if_neg (by omega)]
    · rw [List.getElem?_set, List.getElem?_set, List.length_set] at hjx
      rw [Array.getElem?_setIfInBounds, Array.getElem?_setIfInBounds, Array.size_setIfInBounds]
      by_cases h1 : n - 1 - i = j
      · rw [if_pos h1, if_pos (by omega)] at hjx
        rw [if_pos h1, if_pos (by omega), ← Option.some.inj hjx]
      · rw [if_neg h1] at hjx
        rw [if_neg h1]
        by_cases h2 : i = j
        · rw [if_pos h2, if_pos (by omega)] at hjx
          rw [if_pos h2, if_pos (by omega), ← Option.some.inj hjx]
        · rw [if_neg h2] at hjx
          rw [if_neg h2]; exact hdg j x hjx
    · show Value.int .i64 (Int.ofNat (n - 1 - i) - 1) = _
      congr 1; simp; omega
  ·
    refine cExit (kSeqE (kSeqE (kBlkS ?_)))
    have hij : n ≤ 2 * i + 1 := by have : ¬ (i : Int) < (n : Int) - 1 - (i : Int) := c0; omega
    refine ⟨.inl rfl, _, rfl, .inr ⟨b, cap, d, by rw [ofs_length, List.length_reverse, hn], h2, g1, by rw [ofs_length, List.length_reverse, hn]; exact h4, by rw [hds]; exact h5, fun j y hj => ?_⟩, hsz, fun b' hb' => hB b' (fun e => hb' (by rw [← e]; rfl))⟩
    simp only [ofs, List.getElem?_map, Option.map_eq_some_iff] at hj
    obtain ⟨x, hx, rfl⟩ := hj
    refine hdg j x ?_
    have hjn : j < n := by have := (List.getElem?_eq_some_iff.1 hx).1; rw [List.length_reverse, hn] at this; exact this
    rw [List.getElem?_reverse (by omega), hn] at hx
    rw [ht]
    by_cases h3 : j < i ∨ n ≤ j + i
    · rw [if_pos ⟨hjn, h3⟩]; exact hx
    · rw [if_neg (by omega), ← hx]; congr 1; omega

end Go.AM

/-! ### M30 -/
namespace Go.AM
set_option linter.unusedVariables false
set_option linter.unusedSimpArgs false
theorem rowE_zero {n : Nat} : ∀ {r : List Nat} {last : Int}, (∀ k ∈ r, k < n ∧ last < Int.ofNat k) → r.Pairwise (· < ·) → rowE n last (ofs r) = 0
  | [], _, _, _ => rfl
  | k :: r, last, h, hp => by
    obtain ⟨h1, h2⟩ := h k (by simp)
    show rowE n last (Int.ofNat k :: ofs r) = 0
    rw [rowE, if_neg (by rintro (h | h); omega; simp at h; omega)]
    rw [List.pairwise_cons] at hp
    exact rowE_zero (fun j hj => ⟨(h j (by simp [hj])).1, by have := hp.1 j hj; simp; omega⟩) hp.2
theorem rowsE_zero : ∀ {N : List (List Nat)} {i : Nat}, (∀ g ∈ N, g.length ≤ 2) → (∀ (j : Nat) (g : List Nat), N[j]? = some g → ∀ k ∈ g, k < i + j) → (∀ g ∈ N, g.Pairwise (· < ·)) → rowsE i (ofs2 N) = 0
  | [], _, _, _, _ => rfl
  | g :: N, i, h1, h2, h3 => by
    show rowsE i (ofs g :: ofs2 N) = 0
    have hr : rowE i (-1) (ofs g) = 0 := rowE_zero (fun k hk => ⟨by have := h2 0 g rfl k hk; omega, by simp; omega⟩) (h3 g (by simp))
    rw [rowsE, if_neg (by rw [ofs_length]; have := h1 g (by simp); omega), if_neg (by rw [hr]; simp)]
    exact rowsE_zero (fun g' hg => h1 g' (by simp [hg])) (fun j g' hj k hk => by have := h2 (j + 1) g' (by simpa using hj) k hk; omega) (fun g' hg => h3 g' (by simp [hg]))
theorem Dag.check {N : List (List Nat)} (h : Dag N) : checkG (ofs2 N) = 0 := by
  have h1 := h.one
  have h2 := h.ten
  rw [checkG, if_neg (by rw [ofs2_length]; omega)]
  exact rowsE_zero h.two (fun j g hj k hk => by have := h.less j g hj k hk; omega) h.rise
theorem endX_app (x : Nat) (l r : List Nat) : endX x (l ++ r) = endX (endX x l) r := by simp [endX]
theorem playL_ofs : ∀ (l : List Nat) (x : Nat), playL x (ofs l) = (List.range l.length).map fun i => endX x (l.take (i + 1))
  | [], _ => rfl
  | y :: l, x => by
    show playL x (Int.ofNat y :: ofs l) = _
    rw [playL, playL_ofs l, List.length_cons, List.range_succ_eq_map, List.map_cons, List.map_map]
    rfl
theorem playedL_ofs (l : List Nat) : playedL (ofs l) = (List.range (l.length + 1)).map fun i => endX 0 (l.take i) := by
  rw [playedL, playL_ofs, List.range_succ_eq_map, List.map_cons, List.map_map]
  rfl
theorem playedL_get {l : List Nat} {i : Nat} (h : i ≤ l.length) : (playedL (ofs l))[i]? = some (endX 0 (l.take i)) := by
  rw [playedL_ofs, List.getElem?_map, List.getElem?_range (by omega)]; rfl
theorem playedL_length (l : List Nat) : (playedL (ofs l)).length = l.length + 1 := by rw [playedL_ofs]; simp
theorem playE_may {P : List Nat} : ∀ {l : List Nat} {x : Nat}, playE P x (ofs l) = 0 → ∀ (i : Nat) (y : Nat), l[i]? = some y → mayM P (endX x (l.take i)) y = true
  | [], _, _, i, y, hi => by simp at hi
  | z :: l, x, h, i, y, hi => by
    have h' : playE P x (Int.ofNat z :: ofs l) = 0 := h
    rw [playE] at h'
    split at h'
    · cases h'
    · split at h'
      · rename_i h2
        cases i with
        | zero => simp at hi; subst hi; exact h2
        | succ i => exact playE_may h' i y (by simpa using hi)
      · cases h'
theorem playE_lt {P : List Nat} : ∀ {l : List Nat} {x : Nat}, playE P x (ofs l) = 0 → ∀ y ∈ l, y < P.length
  | [], _, _, y, hy => by simp at hy
  | z :: l, x, h, y, hy => by
    have h' : playE P x (Int.ofNat z :: ofs l) = 0 := h
    rw [playE] at h'
    split at h'
    · cases h'
    · rename_i h1
      split at h'
      · rcases List.mem_cons.1 hy with rfl | hy
        · simp at h1; omega
        · exact playE_lt h' y hy
      · cases h'
theorem take_succ' {l : List Nat} {i y : Nat} (h : l[i]? = some y) : l.take (i + 1) = l.take i ++ [y] := by
  rw [List.take_add_one, h]; rfl
/-- Backwards: the same positions. -/
theorem endX_back {l : List Nat} : ∀ {j : Nat}, j ≤ l.length → endX 0 (l ++ l.reverse.take j) = endX 0 (l.take (l.length - j))
  | 0, _ => by simp
  | j + 1, h => by
    have hj : l.reverse[j]? = l[l.length - 1 - j]? := List.getElem?_reverse (by omega)
    obtain ⟨y, hy⟩ : ∃ y, l[l.length - 1 - j]? = some y := ⟨_, List.getElem?_eq_getElem (by omega)⟩
    rw [take_succ' (hj.trans hy), ← List.append_assoc, endX_snoc, endX_back (by omega)]
    have e : l.take (l.length - j) = l.take (l.length - (j + 1)) ++ [y] := by
      have := take_succ' hy
      rw [show l.length - 1 - j + 1 = l.length - j by omega] at this
      rw [this, show l.length - 1 - j = l.length - (j + 1) by omega]
    rw [e, endX_snoc, xor_xor]
theorem playE_back {P : List Nat} (hP : LowP P) {l : List Nat} (h : playE P 0 (ofs l) = 0) : ∀ {j : Nat}, j ≤ l.length → playE P 0 (ofs (l ++ l.reverse.take j)) = 0
  | 0, _ => by simpa using h
  | j + 1, hj => by
    have hjr : l.reverse[j]? = l[l.length - 1 - j]? := List.getElem?_reverse (by omega)
    have hy : l[l.length - 1 - j]? = some l[l.length - 1 - j] := List.getElem?_eq_getElem (by omega)
    rw [take_succ' (hjr.trans hy), ← List.append_assoc]
    refine playE_snoc (playE_lt h _ (List.getElem_mem _)) (playE_back hP h (by omega)) ?_
    rw [endX_back (by omega)]
    have e : l.take (l.length - j) = l.take (l.length - 1 - j) ++ [l[l.length - 1 - j]] := by
      have := take_succ' hy
      rwa [show l.length - 1 - j + 1 = l.length - j by omega] at this
    rw [e, endX_snoc, mayM_back hP]
    exact playE_may h _ _ hy
theorem back_full {P : List Nat} (hP : LowP P) {l : List Nat} (h : playE P 0 (ofs l) = 0) : playE P 0 (ofs (l ++ l.reverse)) = 0 := by
  have := playE_back hP h (j := l.length) (Nat.le_refl _)
  rwa [List.take_of_length_le (by simp)] at this
theorem back_low {l : List Nat} {i : Nat} (h : i ≤ l.length) : (playedL (ofs (l ++ l.reverse)))[i]? = some (endX 0 (l.take i)) := by
  rw [playedL_get (by simp; omega), List.take_append_of_le_length h]
theorem back_high {l : List Nat} {i : Nat} (h : i ≤ l.length) : (playedL (ofs (l ++ l.reverse)))[2 * l.length - i]? = some (endX 0 (l.take i)) := by
  rw [playedL_get (by simp; omega), List.take_append, List.take_of_length_le (by omega), show 2 * l.length - i - l.length = l.length - i by omega, endX_back (by omega), show l.length - (l.length - i) = i by omega]
theorem endX_lt {n : Nat} {l : List Nat} (h : ∀ y ∈ l, y < n) : endX 0 l < 2 ^ n := by
  suffices hh : ∀ (l : List Nat) (x : Nat), x < 2 ^ n → (∀ y ∈ l, y < n) → endX x l < 2 ^ n from hh l 0 (Nat.two_pow_pos n) h
  intro l
  induction l with
  | nil => intro x hx _; exact hx
  | cons y l ih => intro x hx h; exact ih _ (Nat.xor_lt_two_pow hx (Nat.pow_lt_pow_right (by omega) (h y (by simp)))) fun z hz => h z (by simp [hz])
theorem gPlay_zero {N : List (List Nat)} (hN : Dag N) {l : List Nat} (h : playE (needsM N) 0 (ofs l) = 0) (hl : l.length ≤ 120) : gPlayE (ofs2 N) (ofs l) = 0 := by
  rw [gPlayE, if_pos hN.check, natsG_ofs2, playedE, if_neg (by rw [ofs_length]; omega)]; exact h
end Go.AM

/-! ### M31 -/
namespace Go.AM
set_option linter.unusedVariables false
set_option linter.unusedSimpArgs false
theorem popc_flip : ∀ (n x : Nat), (x.testBit n = true → popc (x ^^^ 2 ^ n) + 1 = popc x) ∧ (x.testBit n = false → popc (x ^^^ 2 ^ n) = popc x + 1)
  | 0, x => by
    have h1 := popc_half x
    have h2 := popc_half (x ^^^ 2 ^ 0)
    have e1 : (x ^^^ 2 ^ 0) / 2 = x / 2 := by
      apply Nat.eq_of_testBit_eq; intro i
      rw [Nat.testBit_div_two, Nat.testBit_div_two, Nat.testBit_xor, Nat.testBit_two_pow, decide_eq_false (by omega), Bool.xor_false]
    have e2 : (x ^^^ 2 ^ 0) % 2 = if x % 2 = 1 then 0 else 1 := by
      have := Nat.testBit_xor x (2 ^ 0) 0
      rw [Nat.testBit_zero, Nat.testBit_zero] at this
      have h3 := Nat.mod_two_eq_zero_or_one x
      have h4 := Nat.mod_two_eq_zero_or_one (x ^^^ 2 ^ 0)
      rcases h3 with h3 | h3 <;> rcases h4 with h4 | h4 <;> simp_all
    rw [e1, e2] at h2
    rw [Nat.testBit_zero]
    constructor
    · intro h; have := of_decide_eq_true h; rw [if_pos this] at h2; omega
    · intro h; have := of_decide_eq_false h; rw [if_neg this] at h2; omega
  | n + 1, x => by
    have h1 := popc_half x
    have h2 := popc_half (x ^^^ 2 ^ (n + 1))
    have e1 : (x ^^^ 2 ^ (n + 1)) / 2 = (x / 2) ^^^ 2 ^ n := by
      apply Nat.eq_of_testBit_eq; intro i
      rw [Nat.testBit_div_two, Nat.testBit_xor, Nat.testBit_xor, Nat.testBit_div_two, Nat.testBit_two_pow, Nat.testBit_two_pow]
      congr 1
      exact decide_eq_decide.2 (by omega)
    have e2 : (x ^^^ 2 ^ (n + 1)) % 2 = x % 2 := by
      have := Nat.testBit_xor x (2 ^ (n + 1)) 0
      rw [Nat.testBit_zero, Nat.testBit_zero, Nat.testBit_two_pow] at this
      have h3 := Nat.mod_two_eq_zero_or_one x
      have h4 := Nat.mod_two_eq_zero_or_one (x ^^^ 2 ^ (n + 1))
      rcases h3 with h3 | h3 <;> rcases h4 with h4 | h4 <;> simp_all
    have ih := popc_flip n (x / 2)
    rw [e1, e2] at h2
    rw [Nat.testBit_succ]
    constructor
    · intro h; have := ih.1 h; omega
    · intro h; have := ih.2 h; omega
theorem popc_posM {l : List Nat} (h : l.Pairwise (· < ·)) : popc (posM l) = l.length := by
  have key : ∀ i, i ≤ l.length → popc (posM (l.take i)) = i := by
    intro i
    induction i with
    | zero => intro _; rfl
    | succ i ih =>
      intro hi
      obtain ⟨y, hy⟩ : ∃ y, l[i]? = some y := ⟨_, List.getElem?_eq_getElem (by omega)⟩
      have hni : y ∉ l.take i := fun hm => by
        obtain ⟨j, hj, e⟩ := List.getElem_of_mem hm
        rw [List.length_take] at hj
        rw [List.getElem_take] at e
        obtain ⟨hi2, hye⟩ := List.getElem?_eq_some_iff.1 hy
        have := List.pairwise_iff_getElem.1 h j i (by omega) hi2 (by omega)
        omega
      have hb : (posM (l.take i)).testBit y = false := by rw [posM_bit]; exact decide_eq_false hni
      rw [take_succ' hy]
      have e : posM (l.take i ++ [y]) = posM (l.take i) ^^^ 2 ^ y := by
        apply Nat.eq_of_testBit_eq; intro j
        rw [posM_bit, Nat.testBit_xor, Nat.testBit_two_pow, posM_bit]
        by_cases h1 : j = y
        · subst h1; simp [hni]
        · have : ¬ y = j := fun h => h1 h.symm
          simp [h1, this]
      rw [e, (popc_flip y _).2 hb, ih (by omega)]
  have := key l.length (Nat.le_refl _)
  rwa [List.take_length] at this
theorem Bfs.count {P : List Nat} {k g : Nat} {es : List (Nat × Nat)} (h : Bfs P k g es) (hP : LowP P) : ∀ (d y : Nat), lookE es y = some d → (popc y + d) % 2 = popc g % 2 ∧ popc g ≤ popc y + d
  | 0, y, hy => by
    have := h.zero _ (lookE_mem hy) rfl
    simp only at this
    subst this
    exact ⟨rfl, Nat.le_refl _⟩
  | d + 1, y, hy => by
    obtain ⟨n, hn, hw, hl⟩ := h.back hP hy
    have ih := Bfs.count h hP d _ hl
    have hf := popc_flip n y
    cases hb : y.testBit n with
    | true => have := hf.1 hb; omega
    | false => have := hf.2 hb; omega
theorem isShort_pop {P : List Nat} {k g : Nat} (h : isShort P k g = true) : popc g ≤ k := by
  refine Decidable.byContradiction fun hk => ?_
  rw [isShort, farM, if_pos (by omega)] at h
  cases h
theorem short_look {P : List Nat} {k g : Nat} (h : isShort P k g = true) : lookE (farM P k g) 0 = some (shortM P k g).length := by
  unfold isShort at h
  obtain ⟨d, hd⟩ := Option.isSome_iff_exists.1 h
  rw [shortM, pathF_len, hd]; rfl
/-- With more freedom nothing is further away. -/
theorem far_le {P : List Nat} {k k' g : Nat} (hP : P.length ≤ 10) (hg : g < 2 ^ P.length) (hk : popc g ≤ k) (hk' : popc g ≤ k')
    (hw : ∀ x n, x < 2 ^ P.length → n < P.length → wayB P k x n = true → wayB P k' x n = true) : ∀ (d y : Nat), lookE (farM P k g) y = some d → ∃ d', lookE (farM P k' g) y = some d' ∧ d' ≤ d := by
  have hb := farM_bfs hg hk
  intro d
  induction d with
  | zero =>
    intro y hy
    have := hb.zero _ (lookE_mem hy) rfl
    simp only at this
    subst this
    exact ⟨0, farM_root hg hk', Nat.le_refl _⟩
  | succ d ih =>
    intro y hy
    obtain ⟨n, x, hn, hx, hyx, hwx⟩ := hb.par _ (lookE_mem hy) (Nat.succ_pos d)
    simp only at hx hyx
    rw [Nat.add_sub_cancel] at hx
    obtain ⟨d1, h1, h2⟩ := ih x (lookE_of_mem hb.good.once hx)
    obtain ⟨d2, h3, h4⟩ := farM_next hP hg h1 hn (hw x n (hb.good.lt _ hx) hn hwx)
    exact ⟨d2, by rw [hyx]; exact h3, by omega⟩
theorem wayB_mono {P : List Nat} {k k' x n : Nat} (h : k ≤ k') (hw : wayB P k x n = true) : wayB P k' x n = true := by
  unfold wayB at *
  rw [Bool.and_eq_true] at *
  exact ⟨hw.1, decide_eq_true (Nat.le_trans (of_decide_eq_true hw.2) h)⟩
theorem short_mono {P : List Nat} {k k' g : Nat} (hP : P.length ≤ 10) (hg : g < 2 ^ P.length) (hk : k ≤ k') (h : isShort P k g = true) : isShort P k' g = true ∧ (shortM P k' g).length ≤ (shortM P k g).length := by
  have hp := isShort_pop h
  obtain ⟨d', h1, h2⟩ := far_le hP hg hp (Nat.le_trans hp hk) (fun x n _ _ hw => wayB_mono hk hw) _ _ (short_look h)
  have hs : isShort P k' g = true := by rw [isShort, h1]; rfl
  have := short_look hs
  rw [h1] at this
  have := Option.some.inj this
  exact ⟨hs, by omega⟩
theorem short_top {P : List Nat} {g : Nat} (hL : LowP P) (hP : P.length ≤ 10) (hg : g < 2 ^ P.length) : (shortM P 10 g).length = (shortM P P.length g).length := by
  have hs := isShort_all (k := P.length) hL hP hg (Nat.le_refl _)
  obtain ⟨hs10, hle⟩ := short_mono hP hg hP hs
  have hp := isShort_pop hs
  obtain ⟨d', h1, h2⟩ := far_le (k := 10) (k' := P.length) hP hg (by omega) hp (fun x n hx hn hw => by
    unfold wayB at *
    rw [Bool.and_eq_true] at *
    exact ⟨hw.1, decide_eq_true (popc_le_of_lt (Nat.xor_lt_two_pow hx (Nat.pow_lt_pow_right (by omega) hn)))⟩) _ _ (short_look hs10)
  have := short_look hs
  rw [h1] at this
  have := Option.some.inj this
  omega
theorem last_le {l : List (Nat × Nat)} (h : l.Pairwise fun p q => p.1 < q.1 ∧ q.2 < p.2) : ∀ p ∈ l, (l.getLastD (0, 0)).2 ≤ p.2 := by
  intro p hp
  obtain ⟨j, hj, e⟩ := List.getElem_of_mem hp
  have hlast : l.getLastD (0, 0) = l[l.length - 1]'(by omega) := by
    rw [List.getLastD_eq_getLast?, List.getLast?_eq_getElem?, List.getElem?_eq_getElem (by omega)]; rfl
  rw [hlast]
  by_cases h1 : j = l.length - 1
  · subst h1; rw [e]; exact Nat.le_refl _
  · have := List.pairwise_iff_getElem.1 h j (l.length - 1) hj (by omega) (by omega)
    rw [e] at this
    exact Nat.le_of_lt this.2
theorem tradeF_all {P : List Nat} {g : Nat} : ∀ k, (∀ p ∈ tradeF P g k, 1 ≤ p.1 ∧ p.1 ≤ k ∧ isShort P p.1 g = true ∧ p.2 = (shortM P p.1 g).length) ∧ (tradeF P g k).Pairwise fun p q => p.1 < q.1 ∧ q.2 < p.2
  | 0 => ⟨by simp [tradeF], .nil⟩
  | k + 1 => by
    obtain ⟨h1, h2⟩ := tradeF_all k (P := P) (g := g)
    rw [tradeF]
    split
    · rename_i hc
      refine ⟨fun p hp => ?_, List.pairwise_append.2 ⟨h2, List.pairwise_singleton _ _, fun p hp q hq => ?_⟩⟩
      · rcases List.mem_append.1 hp with hp | hp
        · have := h1 p hp; exact ⟨this.1, by omega, this.2.2⟩
        · rw [List.mem_singleton.1 hp]; exact ⟨by simp, Nat.le_refl _, hc.1, rfl⟩
      · rw [List.mem_singleton.1 hq]
        have h3 := h1 p hp
        refine ⟨by simp only; omega, ?_⟩
        rcases hc.2 with h | h
        · have := List.length_pos_of_mem hp; omega
        · have := last_le h2 p hp; simp only; omega
    · exact ⟨fun p hp => by have := h1 p hp; exact ⟨this.1, by omega, this.2.2⟩, h2⟩
theorem getLastD_mem {l : List (Nat × Nat)} (h : l.length ≠ 0) : l.getLastD (0, 0) ∈ l := by
  rw [List.getLastD_eq_getLast?, List.getLast?_eq_getElem?, List.getElem?_eq_getElem (show l.length - 1 < l.length by omega)]
  exact List.getElem_mem _
theorem trade_last {P : List Nat} {g k : Nat} (hP : P.length ≤ 10) (hg : g < 2 ^ P.length) (h : isShort P k g = true) (hk : 1 ≤ k) : ((tradeF P g k).getLastD (0, 0)).2 = (shortM P k g).length := by
  obtain ⟨k, rfl⟩ : ∃ j, k = j + 1 := ⟨k - 1, by omega⟩
  rw [tradeF]
  by_cases hc : isShort P (k + 1) g = true ∧ ((tradeF P g k).length = 0 ∨ (shortM P (k + 1) g).length < ((tradeF P g k).getLastD (0, 0)).2)
  · rw [if_pos hc]; simp
  · rw [if_neg hc]
    have h0 : (tradeF P g k).length ≠ 0 := fun e => hc ⟨h, .inl e⟩
    have h1 : ¬ (shortM P (k + 1) g).length < ((tradeF P g k).getLastD (0, 0)).2 := fun e => hc ⟨h, .inr e⟩
    obtain ⟨_, a2, a3, a4⟩ := (tradeF_all k).1 _ (getLastD_mem h0)
    have := (short_mono hP hg (show _ ≤ k + 1 by omega) a3).2
    omega
theorem short_parity {P : List Nat} {k : Nat} {g : List Nat} (hL : LowP P) (hr : g.Pairwise (· < ·)) (hlt : posM g < 2 ^ P.length) (h : isShort P k (posM g) = true) : g.length ≤ (shortM P k (posM g)).length ∧ ((shortM P k (posM g)).length - g.length) % 2 = 0 := by
  have hb := farM_bfs hlt (isShort_pop h)
  have := hb.count hL _ _ (short_look h)
  have h0 : popc 0 = 0 := rfl
  rw [h0, popc_posM hr] at this
  omega
end Go.AM

/-! ### M32 -/
namespace Go.AM
set_option linter.unusedVariables false
set_option linter.unusedSimpArgs false
theorem endX_bit : ∀ {l : List Nat} {x : Nat} (j : Nat), l.Nodup → (endX x l).testBit j = (x.testBit j ^^ decide (j ∈ l))
  | [], x, j, _ => by simp [endX]
  | y :: l, x, j, h => by
    rw [List.nodup_cons] at h
    show (endX (x ^^^ 2 ^ y) l).testBit j = _
    rw [endX_bit j h.2, Nat.testBit_xor, Nat.testBit_two_pow]
    by_cases e : y = j
    · subst e; simp [h.1]
    · have e' : ¬ j = y := fun h => e h.symm
      simp [e, e']
theorem playE_of {P : List Nat} : ∀ {l : List Nat} {x : Nat}, (∀ (i y : Nat), l[i]? = some y → y < P.length ∧ mayM P (endX x (l.take i)) y = true) → playE P x (ofs l) = 0
  | [], _, _ => rfl
  | y :: l, x, h => by
    obtain ⟨h1, h2⟩ := h 0 y rfl
    show playE P x (Int.ofNat y :: ofs l) = 0
    rw [playE, if_neg (by simp; omega), show (Int.ofNat y).toNat = y from rfl, if_pos (show mayM P x y = true from h2)]
    exact playE_of fun i z hz => h (i + 1) z (by simpa using hz)
theorem neededF_spec {P : List Nat} (hP : LowP P) : ∀ (n x : Nat), (∀ i, x.testBit i = true → (neededF P n x).testBit i = true) ∧ (∀ i, n ≤ i → (neededF P n x).testBit i = x.testBit i) ∧ ∀ i, i < n → (neededF P n x).testBit i = true → ∀ j, (P.getD i 0).testBit j = true → (neededF P n x).testBit j = true
  | 0, x => ⟨fun i h => h, fun i _ => rfl, fun i hi => by omega⟩
  | n + 1, x => by
    have hlow : ∀ i, n ≤ i → (P.getD n 0).testBit i = false := fun i hi => Nat.testBit_lt_two_pow (Nat.lt_of_lt_of_le (getD_lowP hP n) (Nat.pow_le_pow_right (by omega) hi))
    have hx : ∀ i, n ≤ i → (if x.testBit n then x ||| P.getD n 0 else x).testBit i = x.testBit i := fun i hi => by
      split
      · rw [Nat.testBit_or, hlow i hi, Bool.or_false]
      · rfl
    obtain ⟨h1, h2, h3⟩ := neededF_spec hP n (if x.testBit n then x ||| P.getD n 0 else x)
    rw [neededF]
    refine ⟨fun i hi => h1 i ?_, fun i hi => by rw [h2 i (by omega), hx i (by omega)], fun i hi hb j hj => ?_⟩
    · split
      · rw [Nat.testBit_or, hi]; rfl
      · exact hi
    · by_cases e : i = n
      · subst e
        rw [h2 i (Nat.le_refl _), hx i (Nat.le_refl _)] at hb
        refine h1 j ?_
        rw [if_pos hb, Nat.testBit_or, hj, Bool.or_true]
      · exact h3 i (by omega) hb j hj
theorem mayM_of {P : List Nat} {x n : Nat} (h : ∀ j, (P.getD n 0).testBit j = true → x.testBit j = true) : mayM P x n = true := by
  refine decide_eq_true (Nat.eq_of_testBit_eq fun i => ?_)
  rw [Nat.testBit_and]
  cases hb : (P.getD n 0).testBit i with
  | true => rw [h i hb]; rfl
  | false => rw [Bool.and_false]
theorem nodesUp_mem {x n i : Nat} : i ∈ nodesUp x n ↔ i < n ∧ x.testBit i = true := by simp [nodesUp]
theorem nodesUp_rise (x n : Nat) : (nodesUp x n).Pairwise (· < ·) := List.Pairwise.filter _ List.pairwise_lt_range
theorem lt_nodup {l : List Nat} (h : l.Pairwise (· < ·)) : l.Nodup := h.imp fun h => by omega
theorem take_nodup {l : List Nat} (h : l.Nodup) (i : Nat) : (l.take i).Nodup := h.sublist (List.take_sublist i l)
theorem mem_take_lt {l : List Nat} (h : l.Pairwise (· < ·)) {i y j : Nat} (hy : l[i]? = some y) (hj : j ∈ l) (hlt : j < y) : j ∈ l.take i := by
  obtain ⟨k, hk, rfl⟩ := List.getElem_of_mem hj
  obtain ⟨hi, rfl⟩ := List.getElem?_eq_some_iff.1 hy
  have hki : k < i := by
    refine Decidable.byContradiction fun hc => ?_
    by_cases e : k = i
    · subst e; omega
    · have := List.pairwise_iff_getElem.1 h i k hi hk (by omega)
      omega
  exact List.mem_take_iff_getElem.2 ⟨k, by omega, rfl⟩
theorem needs_bit {P : List Nat} (hP : LowP P) {n j : Nat} (h : (P.getD n 0).testBit j = true) : j < n := by
  refine Decidable.byContradiction fun hc => ?_
  rw [Nat.testBit_lt_two_pow (Nat.lt_of_lt_of_le (getD_lowP hP n) (Nat.pow_le_pow_right (by omega) (by omega)))] at h
  cases h
structure PlainOk (P : List Nat) (g : Nat) (l : List Nat) : Prop where
  play : playE P 0 (ofs l) = 0
  ends : endX 0 l = g
  long : l.length ≤ 20
theorem plain_ok {N : List (List Nat)} {g : List Nat} (hN : Dag N) (hg : Goals N.length g) : PlainOk (needsM N) (posM g) (plainM (ofs2 N) (ofs g)) := by
  have hL := hN.lowP
  have h10 := hN.ten
  have hlen : (needsM N).length = N.length := needsM_length N
  obtain ⟨a1, a2, a3⟩ := neededF_spec hL N.length (posM g)
  have hNG : neededG (ofs2 N) (ofs g) = nodesUp (neededF (needsM N) N.length (posM g)) 10 := by rw [neededG, natsG_ofs2, nats_ofs]; rfl
  rw [plainM, hNG, nats_ofs]
  generalize neededF (needsM N) N.length (posM g) = X at *
  have hpo := posM_lt hg.lt
  have hbg : ∀ j, (posM g).testBit j = decide (j ∈ g) := fun j => by rw [posM_bit]
  have hX : ∀ i, X.testBit i = true → i < N.length := fun i hi => by
    refine Decidable.byContradiction fun hc => ?_
    rw [a2 i (by omega), Nat.testBit_lt_two_pow (Nat.lt_of_lt_of_le hpo (Nat.pow_le_pow_right (by omega) (by omega)))] at hi
    cases hi
  have hmem : ∀ i, i ∈ nodesUp X 10 ↔ X.testBit i = true := fun i => by
    rw [nodesUp_mem]; exact ⟨fun h => h.2, fun h => ⟨by have := hX i h; omega, h⟩⟩
  have hrise := nodesUp_rise X 10
  have hlen10 := nodesUp_len X 10
  generalize nodesUp X 10 = L at *
  have hnd := lt_nodup hrise
  have hD : ∀ i, i ∈ (L.filter fun i => !decide (i ∈ g)).reverse ↔ X.testBit i = true ∧ i ∉ g := fun i => by simp [hmem]
  have hDlen : (L.filter fun i => !decide (i ∈ g)).reverse.length ≤ 10 := by
    rw [List.length_reverse]; exact Nat.le_trans (List.length_filter_le _ _) hlen10
  have hDr : (L.filter fun i => !decide (i ∈ g)).reverse.Pairwise (fun a b => b < a) := List.pairwise_reverse.2 (hrise.filter _)
  generalize (L.filter fun i => !decide (i ∈ g)).reverse = D at *
  have hDn : D.Nodup := hDr.imp fun h => by omega
  have hend : endX 0 L = X := Nat.eq_of_testBit_eq fun j => by
    rw [endX_bit j hnd, Nat.zero_testBit, Bool.false_xor]
    cases hb : X.testBit j with
    | true => exact decide_eq_true ((hmem j).2 hb)
    | false => exact decide_eq_false fun h => by rw [(hmem j).1 h] at hb; cases hb
  refine ⟨playE_of fun i y hy => ?_, ?_, by rw [List.length_append]; omega⟩
  · by_cases hi : i < L.length
    · rw [List.getElem?_append_left hi] at hy
      have hyX := (hmem y).1 (List.mem_of_getElem? hy)
      have hyn := hX y hyX
      refine ⟨by omega, mayM_of fun j hj => ?_⟩
      rw [List.take_append_of_le_length (by omega), endX_bit j (take_nodup hnd i), Nat.zero_testBit, Bool.false_xor]
      exact decide_eq_true (mem_take_lt hrise hy ((hmem j).2 (a3 y hyn hyX j hj)) (needs_bit hL hj))
    · rw [List.getElem?_append_right (by omega)] at hy
      obtain ⟨hyX, _⟩ := (hD y).1 (List.mem_of_getElem? hy)
      have hyn := hX y hyX
      refine ⟨by omega, mayM_of fun j hj => ?_⟩
      rw [List.take_append, List.take_of_length_le (by omega), endX_app, hend, endX_bit j (take_nodup hDn _), a3 y hyn hyX j hj, decide_eq_false]
      · rfl
      · intro hm
        have hlt := needs_bit hL hj
        obtain ⟨k, hk, e⟩ := List.getElem_of_mem hm
        rw [List.length_take] at hk
        rw [List.getElem_take] at e
        obtain ⟨hi2, e2⟩ := List.getElem?_eq_some_iff.1 hy
        have := List.pairwise_iff_getElem.1 hDr k (i - L.length) (by omega) hi2 (by omega)
        omega
  · rw [endX_app, hend]
    refine Nat.eq_of_testBit_eq fun j => ?_
    rw [endX_bit j hDn, hbg]
    by_cases hj : j ∈ g
    · have := a1 j (by rw [hbg]; exact decide_eq_true hj)
      rw [this, decide_eq_true hj, decide_eq_false fun h => ((hD j).1 h).2 hj]; rfl
    · rw [decide_eq_false hj]
      cases hb : X.testBit j with
      | true => rw [decide_eq_true ((hD j).2 ⟨hb, hj⟩)]; rfl
      | false => rw [decide_eq_false fun h => by have := ((hD j).1 h).1; rw [hb] at this; cases this]; rfl
/-- The way back along the distances. -/
theorem pathF_ok {P : List Nat} {k g : Nat} {es : List (Nat × Nat)} (h : Bfs P k g es) (hP : LowP P) : ∀ (d y : Nat), lookE es y = some d →
    playE P y (ofs (pathF P k es d y)) = 0 ∧ endX y (pathF P k es d y) = g ∧ ∀ i, i ≤ d → lookE es (endX y ((pathF P k es d y).take i)) = some (d - i)
  | 0, y, hy => ⟨rfl, h.zero _ (lookE_mem hy) rfl, fun i hi => by obtain rfl : i = 0 := (by omega); exact hy⟩
  | d + 1, y, hy => by
    obtain ⟨h1, h2, _⟩ := nextN_spec h hP hy
    unfold hitB at h2
    rw [Bool.and_eq_true] at h2
    have hl := of_decide_eq_true h2.2
    have hw := h2.1
    unfold wayB at hw
    rw [Bool.and_eq_true] at hw
    obtain ⟨i1, i2, i3⟩ := pathF_ok h hP d _ hl
    rw [pathF]
    generalize nextN P k es d y = n at *
    refine ⟨?_, i2, fun i hi => ?_⟩
    · show playE P y (Int.ofNat n :: ofs _) = 0
      rw [playE, if_neg (by simp; omega), show (Int.ofNat n).toNat = n from rfl, if_pos hw.1]
      exact i1
    · cases i with
      | zero => exact hy
      | succ i =>
        have := i3 i (by omega)
        rw [show d + 1 - (i + 1) = d - i by omega]; exact this
structure ShortOk (P : List Nat) (k g : Nat) (l : List Nat) : Prop where
  play : playE P 0 (ofs l) = 0
  ends : endX 0 l = g
  look : ∀ i, i ≤ l.length → lookE (farM P k g) (endX 0 (l.take i)) = some (l.length - i)
theorem short_ok {P : List Nat} {k g : Nat} (hL : LowP P) (hg : g < 2 ^ P.length) (h : isShort P k g = true) : ShortOk P k g (shortM P k g) := by
  have hb := farM_bfs hg (isShort_pop h)
  have hl := short_look h
  obtain ⟨h1, h2, h3⟩ := pathF_ok hb hL _ _ hl
  have e : shortM P k g = pathF P k (farM P k g) (shortM P k g).length 0 := by
    conv => lhs; unfold shortM
    rw [hl]; rfl
  rw [← e] at h1 h2 h3
  exact ⟨h1, h2, h3⟩
theorem mostM_le2 {n : Nat} {l : List Nat} : mostM l ≤ n ↔ ∀ x ∈ l, popc x ≤ n := by
  suffices h : ∀ (l : List Nat) (a : Nat), l.foldl (fun a x => max a (popc x)) a ≤ n ↔ a ≤ n ∧ ∀ x ∈ l, popc x ≤ n by
    have := h l 0
    unfold mostM
    rw [this]; simp
  intro l
  induction l with
  | nil => intro a; simp
  | cons y l ih =>
    intro a
    rw [List.foldl_cons, ih]
    simp only [List.mem_cons, forall_eq_or_imp, Nat.max_le]
    exact ⟨fun h => ⟨h.1.1, h.1.2, h.2⟩, fun h => ⟨⟨h.1, h.2.1⟩, h.2.2⟩⟩
theorem most_play {l : List Nat} {n : Nat} : mostM (playedL (ofs l)) ≤ n ↔ ∀ i, i ≤ l.length → popc (endX 0 (l.take i)) ≤ n := by
  rw [mostM_le2, playedL_ofs]
  simp only [List.mem_map, List.mem_range, forall_exists_index, and_imp]
  exact ⟨fun h i hi => h _ i (by omega) rfl, fun h x i hi e => e ▸ h i (by omega)⟩
theorem ShortOk.most {P : List Nat} {k g : Nat} {l : List Nat} (h : ShortOk P k g l) (hg : g < 2 ^ P.length) (hs : isShort P k g = true) : mostM (playedL (ofs l)) ≤ k :=
  most_play.2 fun i hi => (farM_bfs hg (isShort_pop hs)).pop _ (lookE_mem (h.look i hi))
theorem playE_lt' {P : List Nat} {l : List Nat} (h : playE P 0 (ofs l) = 0) {i y : Nat} (hi : l[i]? = some y) : y < P.length := playE_lt h y (List.mem_of_getElem? hi)
/-- No game of so many pebbles is shorter. -/
theorem short_min {P : List Nat} {k g : Nat} {l : List Nat} (hL : LowP P) (hP : P.length ≤ 10) (hg : g < 2 ^ P.length) (hs : isShort P k g = true) (h1 : playE P 0 (ofs l) = 0) (h2 : endX 0 l = g) (h3 : mostM (playedL (ofs l)) ≤ k) : (shortM P k g).length ≤ l.length := by
  have hpop := most_play.1 h3
  have hk := isShort_pop hs
  have key : ∀ j, j ≤ l.length → ∃ d, lookE (farM P k g) (endX 0 (l.take (l.length - j))) = some d ∧ d ≤ j := by
    intro j
    induction j with
    | zero => intro _; rw [Nat.sub_zero, List.take_length, h2]; exact ⟨0, farM_root hg hk, Nat.le_refl _⟩
    | succ j ih =>
      intro hj
      obtain ⟨d, hd1, hd2⟩ := ih (by omega)
      obtain ⟨y, hy⟩ : ∃ y, l[l.length - (j + 1)]? = some y := ⟨_, List.getElem?_eq_getElem (by omega)⟩
      have e : l.take (l.length - j) = l.take (l.length - (j + 1)) ++ [y] := by
        have := take_succ' hy
        rwa [show l.length - (j + 1) + 1 = l.length - j by omega] at this
      rw [e, endX_snoc] at hd1
      have hm := playE_may h1 _ _ hy
      obtain ⟨d', h4, h5⟩ := farM_next hP hg hd1 (n := y) (playE_lt' h1 hy) (by
        unfold wayB
        rw [mayM_back hL, hm, xor_xor, decide_eq_true (hpop _ (by omega))]; rfl)
      rw [xor_xor] at h4
      exact ⟨d', h4, by omega⟩
  obtain ⟨d, h4, h5⟩ := key l.length (Nat.le_refl _)
  rw [Nat.sub_self] at h4
  have := short_look hs
  rw [show endX 0 (l.take 0) = 0 from rfl, this] at h4
  have := Option.some.inj h4
  omega
end Go.AM

/-! ### M33 -/
namespace Go.AM
set_option linter.unusedVariables false
set_option linter.unusedSimpArgs false
/-- Two positions that one move joins are nearly as far. -/
theorem nb {P : List Nat} {k g : Nat} (hL : LowP P) (hP : P.length ≤ 10) (hg : g < 2 ^ P.length) {x d n : Nat} (h : lookE (farM P k g) x = some d) (hn : n < P.length) (hm : mayM P x n = true) (h1 : popc x ≤ k) (h2 : popc (x ^^^ 2 ^ n) ≤ k) :
    ∃ d', lookE (farM P k g) (x ^^^ 2 ^ n) = some d' ∧ d' ≤ d + 1 ∧ d ≤ d' + 1 := by
  obtain ⟨d', h3, h4⟩ := farM_next hP hg h hn (by unfold wayB; rw [hm, decide_eq_true h2]; rfl)
  obtain ⟨d2, h5, h6⟩ := farM_next hP hg h3 hn (by unfold wayB; rw [mayM_back hL, hm, xor_xor, decide_eq_true h1]; rfl)
  rw [xor_xor, h] at h5
  have := Option.some.inj h5
  exact ⟨d', h3, h4, by omega⟩
def nb1 (x : Nat) : Nat := if x.testBit 0 then x else x ^^^ 2 ^ 0
def nb2 (x : Nat) : Nat := if (nb1 x).testBit 1 then nb1 x else nb1 x ^^^ 2 ^ 1
def nb3 (x : Nat) : Nat := if (nb2 x).testBit 2 then nb2 x ^^^ 2 ^ 2 else nb2 x
theorem nb_all : ∀ x, x < 128 → (x / 8 ≠ 15 → popc x ≤ 6 ∧ popc (nb1 x) ≤ 6 ∧ popc (nb2 x) ≤ 6 ∧ popc (nb3 x) ≤ 6) ∧ (nb1 x).testBit 0 = true ∧ (nb2 x).testBit 0 = true ∧ (nb2 x).testBit 1 = true ∧ nb3 x = x / 8 * 8 + 3 := by decide
theorem near3 {P : List Nat} {k g : Nat} (hL : LowP P) (h7 : P.length = 7) (hg : g < 2 ^ P.length) (hk : 6 ≤ k) {x d : Nat} (h : lookE (farM P k g) x = some d) (hx : x < 128) (hu : x / 8 ≠ 15) :
    ∃ d', lookE (farM P k g) (x / 8 * 8 + 3) = some d' ∧ d' ≤ d + 3 ∧ d ≤ d' + 3 := by
  obtain ⟨a, b1, b2, b3, b4⟩ := nb_all x hx
  obtain ⟨a0, a1, a2, a3⟩ := a hu
  rw [← b4]
  have hP : P.length ≤ 10 := by omega
  obtain ⟨d1, h1, h2, h3⟩ : ∃ d', lookE (farM P k g) (nb1 x) = some d' ∧ d' ≤ d + 1 ∧ d ≤ d' + 1 := by
    unfold nb1 at *
    split
    · exact ⟨d, h, by omega, by omega⟩
    · rename_i hc
      rw [if_neg hc] at a1
      exact nb hL hP hg h (by omega) (mayM_full hL fun i hi => by omega) (by omega) (by omega)
  obtain ⟨d2, h4, h5, h6⟩ : ∃ d', lookE (farM P k g) (nb2 x) = some d' ∧ d' ≤ d1 + 1 ∧ d1 ≤ d' + 1 := by
    unfold nb2 at *
    split
    · exact ⟨d1, h1, by omega, by omega⟩
    · rename_i hc
      rw [if_neg hc] at a2
      exact nb hL hP hg h1 (by omega) (mayM_full hL fun i hi => by obtain rfl : i = 0 := (by omega); exact b1) (by omega) (by omega)
  obtain ⟨d3, h7, h8, h9⟩ : ∃ d', lookE (farM P k g) (nb3 x) = some d' ∧ d' ≤ d2 + 1 ∧ d2 ≤ d' + 1 := by
    unfold nb3 at *
    split
    · rename_i hc
      rw [if_pos hc] at a3
      refine nb hL hP hg h4 (by omega) (mayM_full hL fun i hi => ?_) (by omega) (by omega)
      match i, hi with
      | 0, _ => exact b2
      | 1, _ => exact b3
    · exact ⟨d2, h4, by omega, by omega⟩
  exact ⟨d3, h7, by omega, by omega⟩
theorem nodup_le {l : List Nat} {n : Nat} (h : l.Nodup) (hl : ∀ x ∈ l, x < n) : l.length ≤ n := by
  have := h.length_le_of_subset (l₂ := List.range n) fun x hx => List.mem_range.2 (hl x hx)
  rwa [List.length_range] at this
theorem map_nodup {n : Nat} {f : Nat → Nat} (h : ∀ i j, i < n → j < n → f i = f j → i = j) : ((List.range n).map f).Nodup := by
  unfold List.Nodup
  rw [List.pairwise_map]
  exact List.pairwise_lt_range.imp_of_mem fun {i j} hi hj hij e => by
    have := h i j (List.mem_range.1 hi) (List.mem_range.1 hj) e
    omega
/-- Seven nodes, six pebbles or more. -/
theorem far_113 {P : List Nat} {k g : Nat} (hL : LowP P) (h7 : P.length = 7) (hg : g < 2 ^ P.length) (hk : 6 ≤ k) (hs : isShort P k g = true) : (shortM P k g).length ≤ 112 := by
  have ho := short_ok hL hg hs
  have hb := farM_bfs hg (isShort_pop hs)
  generalize shortM P k g = l at *
  have hlk : ∀ t, t ≤ l.length → lookE (farM P k g) (endX 0 (l.take (l.length - t))) = some t := fun t ht => by
    have := ho.look (l.length - t) (by omega)
    rwa [show l.length - (l.length - t) = t by omega] at this
  have hlt : ∀ {y d}, lookE (farM P k g) y = some d → y < 128 := fun {y d} h => by
    have := hb.good.lt _ (lookE_mem h)
    rw [h7] at this
    exact this
  let y : Nat → Nat := fun t => endX 0 (l.take (l.length - t))
  let c : Nat → Nat := fun t => if y t / 8 = 15 then y t - 15 else y t / 8 * 7 + (t + 3 - (lookE (farM P k g) (y t / 8 * 8 + 3)).getD 0)
  have hy : ∀ t, t ≤ l.length → lookE (farM P k g) (y t) = some t ∧ y t < 128 := fun t ht => ⟨hlk t ht, hlt (hlk t ht)⟩
  have hn : ∀ t, t ≤ l.length → y t / 8 ≠ 15 → (lookE (farM P k g) (y t / 8 * 8 + 3)).getD 0 ≤ t + 3 ∧ t ≤ (lookE (farM P k g) (y t / 8 * 8 + 3)).getD 0 + 3 := fun t ht hu => by
    obtain ⟨d', h1, h2, h3⟩ := near3 hL h7 hg hk (hy t ht).1 (hy t ht).2 hu
    rw [h1]; exact ⟨h2, h3⟩
  have hc1 : ∀ t, t ≤ l.length → c t < 113 := fun t ht => by
    have h1 := (hy t ht).2
    show (if y t / 8 = 15 then y t - 15 else y t / 8 * 7 + (t + 3 - (lookE (farM P k g) (y t / 8 * 8 + 3)).getD 0)) < 113
    split
    · omega
    · rename_i hu
      have := hn t ht hu
      omega
  have hc2 : ∀ t s, t < l.length + 1 → s < l.length + 1 → c t = c s → t = s := fun t s ht hs e => by
    have h1 := hy t (by omega)
    have h2 := hy s (by omega)
    have h3 := hn t (by omega)
    have h4 := hn s (by omega)
    change (if y t / 8 = 15 then y t - 15 else y t / 8 * 7 + (t + 3 - (lookE (farM P k g) (y t / 8 * 8 + 3)).getD 0)) = (if y s / 8 = 15 then y s - 15 else y s / 8 * 7 + (s + 3 - (lookE (farM P k g) (y s / 8 * 8 + 3)).getD 0)) at e
    by_cases ut : y t / 8 = 15
    · rw [if_pos ut] at e
      by_cases us : y s / 8 = 15
      · rw [if_pos us] at e
        have e2 : y t = y s := by omega
        rw [e2, h2.1] at h1
        exact (Option.some.inj h1.1).symm
      · rw [if_neg us] at e
        have := h4 us
        omega
    · rw [if_neg ut] at e
      have a1 := h3 ut
      by_cases us : y s / 8 = 15
      · rw [if_pos us] at e
        omega
      · rw [if_neg us] at e
        have a2 := h4 us
        have eu : y t / 8 = y s / 8 := by omega
        rw [eu] at e a1
        omega
  have := nodup_le (map_nodup (n := l.length + 1) hc2) fun x hx => by
    obtain ⟨t, ht, rfl⟩ := List.mem_map.1 hx
    exact hc1 t (by have := List.mem_range.1 ht; omega)
  rw [List.length_map, List.length_range] at this
  omega
set_option maxRecDepth 100000 in
theorem pop5 : ((List.range 128).filter fun x => decide (popc x ≤ 5)).length = 120 := by decide
/-- Seven nodes or fewer. -/
theorem short_120 {P : List Nat} {k g : Nat} (hL : LowP P) (h7 : P.length ≤ 7) (hg : g < 2 ^ P.length) (hs : isShort P k g = true) : (shortM P k g).length ≤ 119 := by
  by_cases h : P.length = 7 ∧ 6 ≤ k
  · have := far_113 hL h.1 hg h.2 hs; omega
  have hb := farM_bfs hg (isShort_pop hs)
  have hl := short_look hs
  obtain ⟨j, hj, e⟩ := List.getElem_of_mem (lookE_mem hl)
  have h2 := hb.good.low j _ (List.getElem?_eq_getElem hj)
  rw [e] at h2
  have h3 : (shortM P k g).length ≤ j := h2
  suffices (farM P k g).length ≤ 120 by omega
  by_cases h6 : P.length ≤ 6
  · have := hb.good.length
    have := Nat.pow_le_pow_right (n := 2) (by omega) h6
    omega
  · have e7 : P.length = 7 := by omega
    have h1 : ((farM P k g).map (·.1)).length ≤ ((List.range 128).filter fun x => decide (popc x ≤ 5)).length := by
      refine hb.good.once.length_le_of_subset fun x hx => ?_
      obtain ⟨p, hp, rfl⟩ := List.mem_map.1 hx
      have a1 := hb.good.lt p hp
      have a2 := hb.pop p hp
      rw [e7] at a1
      exact List.mem_filter.2 ⟨List.mem_range.2 a1, decide_eq_true (by omega)⟩
    rw [pop5, List.length_map] at h1
    exact h1
structure LeastOk (P : List Nat) (g n : Nat) : Prop where
  one : 1 ≤ n
  yes : isShort P n g = true
  no : ∀ j, 1 ≤ j → j < n → isShort P j g = false
theorem least_ex {P : List Nat} {g : Nat} (hP : P.length ≤ 10) (hg : g < 2 ^ P.length) : ∀ k, 1 ≤ k → isShort P k g = true → ∃ n, n ≤ k ∧ LeastOk P g n
  | 0, h, _ => by omega
  | k + 1, _, h => by
    by_cases hc : 1 ≤ k ∧ isShort P k g = true
    · obtain ⟨n, h1, h2⟩ := least_ex hP hg k hc.1 hc.2
      exact ⟨n, by omega, h2⟩
    · refine ⟨k + 1, Nat.le_refl _, by omega, h, fun j h1 h2 => ?_⟩
      rw [Bool.eq_false_iff]
      intro h3
      exact hc ⟨by omega, (short_mono hP hg (by omega) h3).1⟩
theorem LeastOk.head {P : List Nat} {g n : Nat} (h : LeastOk P g n) : ∀ k, n ≤ k → ((tradeF P g k).headD (0, 0)).1 = n ∧ tradeF P g k ≠ [] := by
  have he : ∀ j, j < n → tradeF P g j = [] := by
    intro j
    induction j with
    | zero => exact fun _ => rfl
    | succ j ih =>
      intro hj
      rw [tradeF, if_neg (fun h' => by rw [h.no (j + 1) (by omega) hj] at h'; cases h'.1)]
      exact ih (by omega)
  intro k
  have h1 := h.one
  induction k with
  | zero => intro h; omega
  | succ k ih =>
    intro hk
    rw [tradeF]
    by_cases e : n = k + 1
    · subst e
      rw [if_pos ⟨h.yes, .inl (by rw [he k (by omega)]; rfl)⟩, he k (by omega)]
      exact ⟨rfl, by simp⟩
    · obtain ⟨h2, h3⟩ := ih (by omega)
      split
      · refine ⟨?_, by simp⟩
        match ht : tradeF P g k, h3, h2 with
        | x :: r, _, h2 => exact h2
      · exact ⟨h2, h3⟩
/-- What is reached from nothing, nothing is reached from. -/
theorem far_sym {P : List Nat} {k g d : Nat} (hL : LowP P) (hP : P.length ≤ 10) (hg : g < 2 ^ P.length) (h : lookE (farM P k 0) g = some d) : isShort P k g = true := by
  have h0 : popc 0 ≤ k := Nat.zero_le _
  have hb := farM_bfs (P := P) (g := 0) (Nat.two_pow_pos _) h0
  have hpg := hb.pop _ (lookE_mem h)
  have key : ∀ d y, lookE (farM P k 0) y = some d → (∃ e, lookE (farM P k g) y = some e) → ∃ e, lookE (farM P k g) 0 = some e := by
    intro d
    induction d with
    | zero =>
      intro y hy h
      have := hb.zero _ (lookE_mem hy) rfl
      simp only at this
      subst this
      exact h
    | succ d ih =>
      intro y hy h
      obtain ⟨n, hn, hw, hl⟩ := hb.back hL hy
      obtain ⟨e, he⟩ := h
      obtain ⟨e', he', _⟩ := farM_next hP hg he hn hw
      exact ih _ hl ⟨e', he'⟩
  obtain ⟨e, he⟩ := key d g h ⟨0, farM_root hg hpg⟩
  rw [isShort, he]; rfl
theorem closedUp_mem {es : List (Nat × Nat)} {n x : Nat} : x ∈ closedUp es n ↔ x < n ∧ (lookE es x).isSome = true := by simp [closedUp]
theorem closed_shows {P : List Nat} {k g : Nat} (hL : LowP P) (hP : P.length ≤ 10) (hg : g < 2 ^ P.length) (hs : isShort P k g = false) : showsB P g k (closedUp (farM P k 0) (2 ^ P.length)) = true := by
  have hp0 := Nat.two_pow_pos P.length
  have hr : (closedUp (farM P k 0) (2 ^ P.length)).Pairwise (· < ·) := List.Pairwise.filter _ List.pairwise_lt_range
  have h2 : 0 ∈ closedUp (farM P k 0) (2 ^ P.length) := closedUp_mem.2 ⟨hp0, by rw [farM_root hp0 (Nat.zero_le _)]; rfl⟩
  have h3 : ¬ g ∈ closedUp (farM P k 0) (2 ^ P.length) := fun h => by
    obtain ⟨d, hd⟩ := Option.isSome_iff_exists.1 (closedUp_mem.1 h).2
    rw [far_sym hL hP hg hd] at hs; cases hs
  have h4 : ∀ x ∈ closedUp (farM P k 0) (2 ^ P.length), ∀ i, i < P.length → wayB P k x i = true → x ^^^ 2 ^ i ∈ closedUp (farM P k 0) (2 ^ P.length) := fun x hx i hi hw => by
    obtain ⟨hx1, hx2⟩ := closedUp_mem.1 hx
    obtain ⟨d, hd⟩ := Option.isSome_iff_exists.1 hx2
    obtain ⟨d', h5, _⟩ := farM_next hP hp0 hd hi hw
    exact closedUp_mem.2 ⟨Nat.xor_lt_two_pow hx1 (Nat.pow_lt_pow_right (by omega) hi), by rw [h5]; rfl⟩
  generalize closedUp (farM P k 0) (2 ^ P.length) = ps at *
  have hget : ∀ i, i < ps.length → ps.getD i 0 = ps[i]?.getD 0 := fun i _ => List.getD_eq_getElem?_getD ..
  have h1 : ∀ i, i + 1 < ps.length → ps.getD i 0 < ps.getD (i + 1) 0 := fun i hi => by
    have := List.pairwise_iff_getElem.1 hr i (i + 1) (by omega) hi (by omega)
    rw [hget _ (by omega), hget _ hi, List.getElem?_eq_getElem (by omega), List.getElem?_eq_getElem hi]
    exact this
  unfold showsB
  have a1 : risingB ps = true := List.all_eq_true.2 fun i hi => decide_eq_true (by have := h1 i (by have := List.mem_range.1 hi; omega); omega)
  have a2 : apartB ps = true := List.all_eq_true.2 fun i hi => decide_eq_true (by have := h1 i (by have := List.mem_range.1 hi; omega); omega)
  have a3 : closedB P k ps = true := by
    refine List.all_eq_true.2 fun x hx => List.all_eq_true.2 fun y hy => decide_eq_true ?_
    obtain ⟨i, hi, rfl⟩ := List.mem_map.1 hy
    obtain ⟨hi1, hi2⟩ := List.mem_filter.1 hi
    exact h4 x hx i (List.mem_range.1 hi1) hi2
  rw [a1, a2, a3, decide_eq_true h2, decide_eq_false h3]; rfl
end Go.AM

/-! ### Q0 -/
namespace Go.AM
open Go.Proofs
set_option maxRecDepth 100000
set_option linter.unusedVariables false
theorem T107 : undOf Tryz.prog 107 = some (.map 3 105) := by kernel_rfl
theorem Z105 : zeroOf Tryz.prog 105 = some (.agg #[nv 0, .nilFunc]) := by kernel_rfl
theorem S105 : szOf Tryz.prog 105 = some 2 := by kernel_rfl
theorem A105 : isAggT Tryz.prog 105 = some true := by kernel_rfl
theorem S107 : szOf Tryz.prog 107 = some 1 := by kernel_rfl
theorem A107 : isAggT Tryz.prog 107 = some false := by kernel_rfl
theorem Z140 : zeroOf Tryz.prog 140 = some (.agg #[nv 0, nv 0, .slice none 0 0, .nilFunc]) := by kernel_rfl
theorem S140 : szOf Tryz.prog 140 = some 4 := by kernel_rfl
theorem A140 : isAggT Tryz.prog 140 = some true := by kernel_rfl
theorem F140_0 {b o : Nat} : aFieldAddr Tryz.prog 140 (.pointer (some ⟨b, o, none⟩)) 0 = some (.pointer (some ⟨b, o, none⟩)) := by kernel_rfl
theorem B140 {a b c d : Nat} {q : Option Addr} : aBuild Tryz.prog 140 [(0, .agg #[nv a, nv b, .slice q c d])] = some (.agg #[nv a, nv b, .slice q c d, .nilFunc]) := by kernel_rfl
theorem call11 : callable Tryz.prog 11 = true := by kernel_rfl
theorem call12 : callable Tryz.prog 12 = true := by kernel_rfl
theorem call13 : callable Tryz.prog 13 = true := by kernel_rfl
theorem call29 : callable Tryz.prog 29 = true := by kernel_rfl
theorem call30 : callable Tryz.prog 30 = true := by kernel_rfl
theorem call31 : callable Tryz.prog 31 = true := by kernel_rfl
theorem call32 : callable Tryz.prog 32 = true := by kernel_rfl
theorem call33 : callable Tryz.prog 33 = true := by kernel_rfl
theorem call34 : callable Tryz.prog 34 = true := by kernel_rfl
theorem call58 : callable Tryz.prog 58 = true := by kernel_rfl
theorem call59 : callable Tryz.prog 59 = true := by kernel_rfl
theorem call60 : callable Tryz.prog 60 = true := by kernel_rfl
theorem call61 : callable Tryz.prog 61 = true := by kernel_rfl
theorem call62 : callable Tryz.prog 62 = true := by kernel_rfl
theorem call88 : callable Tryz.prog 88 = true := by kernel_rfl
theorem call89 : callable Tryz.prog 89 = true := by kernel_rfl
theorem call90 : callable Tryz.prog 90 = true := by kernel_rfl
theorem call103 : callable Tryz.prog 103 = true := by kernel_rfl
theorem call104 : callable Tryz.prog 104 = true := by kernel_rfl
theorem call105 : callable Tryz.prog 105 = true := by kernel_rfl
theorem call107 : callable Tryz.prog 107 = true := by kernel_rfl
theorem call125 : callable Tryz.prog 125 = true := by kernel_rfl
theorem call127 : callable Tryz.prog 127 = true := by kernel_rfl
end Go.AM

/-! ### Q1 -/
namespace Go.AM
open Go.Proofs
set_option maxRecDepth 100000
set_option linter.unusedVariables false
set_option linter.unusedSimpArgs false

theorem okf29 : okF Tryz.prog H0 29 19 = true := by kernel_rfl
theorem spec_Index {m : Mem} {a : Value} {l : List Nat} {x : Nat} (ha : IntsAt m a (ofs l)) (hl : l.length < 1000000) : ∃ i : Int, ACalls Tryz.prog 29 #[a, nv x] m (.int .i64 i) m ∧ (0 ≤ i ↔ x ∈ l) := by
  suffices h : ∃ v m', ACalls Tryz.prog 29 #[a, nv x] m v m' ∧ (∃ i : Int, v = .int .i64 i ∧ m' = m ∧ (0 ≤ i ↔ x ∈ l)) by
    obtain ⟨v, m', h, i, rfl, rfl, h2⟩ := h; exact ⟨i, h, h2⟩
  obtain ⟨q, cap, rfl⟩ := ha.lenN
  refine wpF (args := [_, _]) mixed okf29 (fn := Tryz.f29) rfl rfl rfl (by simp) ?_
  refine cSeq ?_
  refine cRegion ?_
  refine sAs (v := nv 0) rfl ?_
  refine sNil (kSeqN ?_)
  refine cSeq ?_
  refine cSeq ?_
  refine cRegion ?_
  refine sMv (v := .slice _ _ _) rfl ?_
  refine sLen T29 rfl ?_
  refine sMv (v := nv 0) rfl ?_
  refine sNil (kSeqN ?_)
  refine cBlock ?_
  refine wpC_loop (fun k ρ m' => ∃ i, k = l.length - i ∧ i ≤ l.length ∧ (∀ j, j < i → l[j]? ≠ some x) ∧ m = m' ∧ Has ρ [(0, .slice q l.length cap), (1, nv x), (7, nv l.length), (8, nv i)]) ⟨0, rfl, by omega, by omega, rfl, rfl, rfl, rfl, rfl, trivial⟩ ?_
  rintro k ρ _ ⟨i, rfl, hi, hr, rfl, hh⟩
  rw [hh.env]; clear hh
  refine cSeq ?_
  refine cRegion ?_
  refine sBin rfl rfl (aInt_lss) ?_
  refine sNil (kSeqN ?_)
  refine cSeq ?_   -- seq 4
  refine cCond rfl (fun c0 => ?_) (fun c0 => ?_)
  ·
    obtain ⟨b1, o1, p1, r1, cc, e1, g1, x1⟩ := ha.atN (by omega)
    cases e1
    refine cSkip (kSeqN ?_)
    refine cSeq ?_
    refine cBlock ?_
    refine cSeq ?_
    refine cRegion ?_
    refine sMv (v := nv _) rfl ?_
    refine sAs (v := nv _) rfl ?_
    refine sNil (kSeqN ?_)
    refine cSeq ?_
    refine cRegion ?_
    refine sMv (v := nv _) rfl ?_
    refine sMv (v := .slice _ _ _) rfl ?_
    refine sMv (v := nv _) rfl ?_
    refine sIx T29 S3 rfl rfl (by omega) ?_
    refine sLd (v := nv l[i]) A3 rfl g1 (x1 i l[i] (by simp)) ?_
    refine sBin (a := x) (b := l[i]) rfl rfl aInt_eql ?_
    refine sNil (kSeqN ?_)
    refine cCond rfl (fun c1 => ?_) (fun c1 => ?_)
    ·
      refine cSeq ?_
      refine cRegion ?_
      refine sMv (v := nv _) rfl ?_
      refine sAs (v := nv _) rfl ?_
      refine sNil (kSeqN ?_)
      refine cRet (kBlkR (kSeqR (kSeqR (kBlkR (kSeqR ?_)))))
      have hm : x ∈ l := by have := List.getElem_mem c0; rwa [← c1] at this
      exact ⟨.inr rfl, _, rfl, Int.ofNat i, rfl, rfl, ⟨fun _ => hm, fun _ => by simp⟩⟩
    ·
      refine cSkip (kBlkN (kSeqN ?_))
      refine cRegion ?_
      refine sBin rfl rfl (aInt_add (b := 1) (by omega)) ?_
      refine sMv (v := nv _) rfl ?_
      refine sNil (kSeqN ?_)
      refine ⟨_, ?_, i + 1, rfl, by omega, fun j hj e => ?_, rfl, rfl, rfl, rfl, rfl, trivial⟩
      · omega
      · by_cases h : j = i
        · subst h
          rw [List.getElem?_eq_getElem c0] at e
          exact c1 (Option.some.inj e).symm
        · exact hr j (by omega) e
  ·
    refine cExit (kSeqE (kSeqE (kBlkS (kSeqN ?_))))
    refine cSeq ?_
    refine cRegion ?_
    refine sAs (v := .int .i64 (-1)) rfl ?_
    refine sNil (kSeqN ?_)
    refine cRet ?_
    have hm : ¬ x ∈ l := fun h => by
      obtain ⟨j, hj, e⟩ := List.getElem_of_mem h
      exact hr j (by omega) (by rw [List.getElem?_eq_getElem hj, e])
    exact ⟨.inr rfl, _, rfl, -1, rfl, rfl, ⟨fun h => by omega, fun h => absurd h hm⟩⟩

theorem okf11 : okF Tryz.prog H0 11 9 = true := by kernel_rfl
theorem spec_Contains {m : Mem} {a : Value} {l : List Nat} {x : Nat} (ha : IntsAt m a (ofs l)) (hl : l.length < 1000000) : ACalls Tryz.prog 11 #[a, nv x] m (.bool (decide (x ∈ l))) m := by
  suffices h : ∃ v m', ACalls Tryz.prog 11 #[a, nv x] m v m' ∧ (v = .bool (decide (x ∈ l)) ∧ m' = m) by
    obtain ⟨v, m', h, rfl, rfl⟩ := h; exact h
  obtain ⟨q, cap, rfl⟩ := ha.lenN
  obtain ⟨i, hi, hm⟩ := spec_Index ha hl (x := x)
  refine wpF (args := [_, _]) mixed okf11 (fn := Tryz.f11) rfl rfl rfl (by simp) ?_
  refine cSeq ?_
  refine cRegion ?_
  refine sAs (v := .bool _) rfl ?_
  refine sNil (kSeqN ?_)
  refine cSeq ?_
  refine cRegion ?_
  refine sMv (v := .slice _ _ _) rfl ?_
  refine sMv (v := nv _) rfl ?_
  refine sCall2 rfl call29 rfl rfl hi ?_
  refine sBinI (v := .bool (decide (x ∈ l))) (a := i) (b := 0) rfl rfl (by rw [aInt_geqI]; congr 2; exact decide_eq_decide.2 hm) ?_
  refine sAs (v := .bool _) rfl ?_
  refine sNil (kSeqN ?_)
  refine cRet ?_
  exact ⟨.inr rfl, _, rfl, rfl, rfl⟩

theorem okf104 : okF Tryz.prog H0 104 20 = true := by kernel_rfl
theorem spec_Arity {m : Mem} {k a : Nat} (h : (k = 1 ∧ a = 1) ∨ (k = 9 ∧ a = 2) ∨ (k = 12 ∧ a = 3)) : ACalls Tryz.prog 104 #[nv k] m (nv a) m := by
  refine ACalls.callee ?_
  refine wpF (args := [_]) mixed okf104 (fn := Tryz.f104) rfl rfl rfl (by simp) ?_
  refine cSeq ?_
  refine cRegion ?_
  refine sAs (v := nv 0) rfl ?_
  refine sNil (kSeqN ?_)
  refine cSeq ?_
  refine cBlock ?_
  refine cSeq ?_
  refine cRegion ?_
  refine sMv (v := nv _) rfl ?_
  refine sBin (b := 12) rfl rfl aInt_eql ?_
  refine sAs (v := .bool _) rfl ?_
  refine sNil (kSeqN ?_)
  refine cCond rfl (fun c0 => ?_) (fun c0 => ?_)
  ·
    obtain rfl : a = 3 := by omega
    refine cSeq ?_
    refine cRegion ?_
    refine sAs (v := nv 3) rfl ?_
    refine sNil (kSeqN ?_)
    refine cRet (kBlkR (kSeqR ?_))
    exact ⟨.inr rfl, _, rfl, rfl, rfl⟩
  ·
    refine cSeq ?_
    refine cRegion ?_
    refine sMv (v := nv _) rfl ?_
    refine sBin (b := 9) rfl rfl aInt_geq ?_
    refine sMv (v := .bool _) rfl ?_
    by_cases h9 : 9 ≤ k
    ·
      rw [decide_eq_true h9]
      have e9 : k = 9 ∧ a = 2 := by omega
      refine sG rfl rfl ?_
      refine sMv (v := nv _) rfl ?_
      refine sG rfl rfl ?_
      refine sBin (v := .bool true) (a := k) (b := 11) rfl rfl (by rw [aInt_leq, decide_eq_true (by omega)]) ?_
      refine sP (v := .bool _) rfl ?_
      refine sAs (v := .bool _) rfl ?_
      refine sNil (kSeqN ?_)
      refine cCondT rfl ?_
      refine cSeq ?_
      refine cRegion ?_
      refine sAs (v := nv 2) rfl ?_
      refine sNil (kSeqN ?_)
      refine cRet (kBlkR (kSeqR ?_))
      exact ⟨.inr rfl, _, rfl, (by rw [e9.2]; rfl), rfl⟩
    ·
      rw [decide_eq_false h9]
      have e1 : k = 1 ∧ a = 1 := by omega
      refine sGno (q' := false) rfl rfl (by simp) ?_
      refine sGno (q' := false) rfl rfl (by simp) ?_
      refine sP (v := .bool _) rfl ?_
      refine sAs (v := .bool _) rfl ?_
      refine sNil (kSeqN ?_)
      refine cCondF rfl ?_
      refine cSeq ?_
      refine cRegion ?_
      refine sMv (v := nv _) rfl ?_
      refine sBin (v := .bool true) (a := k) (b := 1) rfl rfl (by rw [aInt_geq, decide_eq_true (by omega)]) ?_
      refine sMv (v := .bool _) rfl ?_
      refine sG rfl rfl ?_
      refine sMv (v := nv _) rfl ?_
      refine sG rfl rfl ?_
      refine sBin (v := .bool true) (a := k) (b := 14) rfl rfl (by rw [aInt_leq, decide_eq_true (by omega)]) ?_
      refine sP (v := .bool true) rfl ?_
      refine sAs (v := .bool _) rfl ?_
      refine sNil (kSeqN ?_)
      refine cCondT rfl ?_
      refine cSeq ?_
      refine cRegion ?_
      refine sAs (v := nv 1) rfl ?_
      refine sNil (kSeqN ?_)
      refine cRet (kBlkR (kSeqR ?_))
      exact ⟨.inr rfl, _, rfl, (by rw [e1.2]; rfl), rfl⟩

end Go.AM

/-! ### Q2 -/
namespace Go.AM
open Go.Proofs
set_option maxRecDepth 100000
set_option linter.unusedVariables false
set_option linter.unusedSimpArgs false
/-- A right gate of a game's circuit on n wires. -/
structure GateOk (n : Nat) (g : Nat × List Nat) : Prop where
  kind : (g.1 = 1 ∧ g.2.length = 1) ∨ (g.1 = 9 ∧ g.2.length = 2) ∨ (g.1 = 12 ∧ g.2.length = 3)
  lt : ∀ w ∈ g.2, w < n
  once : g.2.Nodup
structure CircOk (n : Nat) (Gs : List (Nat × List Nat)) : Prop where
  one : 1 ≤ n
  ten : n ≤ 10
  few : Gs.length ≤ 120
  all : ∀ g ∈ Gs, GateOk n g
theorem quad_at {c : Array Value} {i : Nat} {a b d e : Value} (h1 : c[i * 4]? = some a) (h2 : c[i * 4 + 1]? = some b) (h3 : c[i * 4 + 2]? = some d) (h4 : c[i * 4 + 3]? = some e) : c.extract (0 + i * 4) (0 + i * 4 + 4) = #[a, b, d, e] := by
  have hs := (Array.getElem?_eq_some_iff.1 h4).1
  apply Array.ext_getElem?
  intro j
  rw [Array.getElem?_extract]
  match j with
  | 0 => rw [if_pos (by omega)]; simpa using h1
  | 1 => rw [if_pos (by omega)]; simpa using h2
  | 2 => rw [if_pos (by omega)]; simpa using h3
  | 3 => rw [if_pos (by omega)]; simpa using h4
  | j + 4 => rw [if_neg (by omega)]; rfl
/-- One gate, where it lies. -/
theorem OwnG.gate {N : Nat} {m : Mem} {v : Value} {cs : Array Value} {Gs : List (Nat × List Nat)} (h : OwnG N m v cs Gs) {i : Nat} {g : Nat × List Nat} (hi : Gs[i]? = some g) :
    ∃ b cap c ws, v = .slice (some ⟨b, 0, some 4⟩) Gs.length cap ∧ Mem.get m b = .cells true c ∧ i * 4 + 4 ≤ c.size ∧ c.extract (0 + i * 4) (0 + i * 4 + 4) = #[nv g.1, ws, nv 0, nv 0] ∧ OwnF N m ws (ofs g.2) := by
  have hl := (List.getElem?_eq_some_iff.1 hi).1
  obtain ⟨b, cap, c, rfl, hN, hb, hsz, hc⟩ := h.1.at (by omega)
  obtain ⟨ws, h1, h2, h3, h4, ho, _⟩ := h.2 i g hi
  rw [← hc _ (by omega)] at h1 h2 h3 h4
  exact ⟨b, cap, c, ws, rfl, hb, by omega, quad_at h1 h2 h3 h4, ho⟩

theorem okf103 : okF Tryz.prog H0 103 13 = true := by kernel_rfl
theorem spec_wire {m : Mem} {p n : Nat} {r : Bool} {a b d : Value} {x : Int} (h : Mem.get m p = .cells r #[nv n, a, b, d]) : ACalls Tryz.prog 103 #[.int .i64 x, .pointer (some ⟨p, 0, none⟩)] m (.bool (decide (0 ≤ x) && decide (x < Int.ofNat n))) m := by
  refine ACalls.callee ?_
  refine wpF (args := [_, _]) mixed okf103 (fn := Tryz.f103) rfl rfl rfl (by simp) ?_
  refine cSeq ?_
  refine cRegion ?_
  refine sAs (v := .bool _) rfl ?_
  refine sNil (kSeqN ?_)
  refine cSeq ?_
  refine cRegion ?_
  refine sMv (v := .int _ _) rfl ?_
  refine sBinI (v := .bool (decide (0 ≤ x))) (b := 0) rfl rfl aInt_geqI ?_
  refine sMv (v := .bool _) rfl ?_
  by_cases h1 : 0 ≤ x
  ·
    rw [decide_eq_true h1]
    refine sG rfl rfl ?_
    refine sMv (v := .int _ _) rfl ?_
    refine sG rfl rfl ?_
    refine sFA F140_0 rfl ?_
    refine sG rfl rfl ?_
    refine sFA F38_0 rfl ?_
    refine sG rfl rfl ?_
    refine sLd (v := nv n) A3 rfl h rfl ?_
    refine sG rfl rfl ?_
    refine sBinI (v := .bool (decide (x < Int.ofNat n))) rfl rfl aInt_lssI ?_
    refine sP (v := .bool _) rfl ?_
    refine sAs (v := .bool _) rfl ?_
    refine sNil (kSeqN ?_)
    refine cRet ?_
    exact ⟨.inr rfl, _, rfl, rfl, rfl⟩
  ·
    rw [decide_eq_false h1]
    refine sGno (q' := false) rfl rfl (by simp) ?_
    refine sGno (q' := false) rfl rfl (by simp) ?_
    refine sGno (q' := false) rfl rfl (by simp) ?_
    refine sGno (q' := false) rfl rfl (by simp) ?_
    refine sGno (q' := false) rfl rfl (by simp) ?_
    refine sP (v := .bool _) rfl ?_
    refine sAs (v := .bool _) rfl ?_
    refine sNil (kSeqN ?_)
    refine cRet ?_
    exact ⟨.inr rfl, _, rfl, rfl, rfl⟩

theorem okf107 : okF Tryz.prog H0 107 8 = true := by kernel_rfl
theorem spec_every1 {m : Mem} {p : Nat} {r : Bool} {g : FuncId} {cp : Array Value} {x : Int} {y : Bool} (h : Mem.get m p = .cells r #[.func (.func g) #[] cp]) (hk : callable Tryz.prog g = true) (hc : ACalls Tryz.prog g (#[.int .i64 x] ++ cp) m (.bool y) m) : ACalls Tryz.prog 107 #[.int .i64 x, .pointer (some ⟨p, 0, none⟩)] m (.bool (!y)) m := by
  refine ACalls.callee ?_
  refine wpF (args := [_, _]) mixed okf107 (fn := Tryz.f107) rfl rfl rfl (by simp) ?_
  refine cSeq ?_
  refine cRegion ?_
  refine sAs (v := .bool _) rfl ?_
  refine sNil (kSeqN ?_)
  refine cSeq ?_
  refine cRegion ?_
  refine sLd (v := .func (.func g) #[] cp) A55 rfl h rfl ?_
  refine sMv (v := .int _ _) rfl ?_
  refine sCall rfl hk (by simpa [evR, updO] using hc) ?_
  refine sP (v := .bool (!y)) rfl ?_
  refine sAs (v := .bool _) rfl ?_
  refine sNil (kSeqN ?_)
  refine cRet ?_
  exact ⟨.inr rfl, _, rfl, rfl, rfl⟩

theorem okf105 : okF Tryz.prog H0 105 9 = true := by kernel_rfl
theorem spec_every {m : Mem} {a : Value} {l : List Int} {g : FuncId} {cp : Array Value} {p : Int → Bool} (ha : IntsAt m a l) (hl : l.length < 1000000) (hk : callable Tryz.prog g = true) (hp : ∀ x ∈ l, ∀ m', Ext m m' → ACalls Tryz.prog g (#[.int .i64 x] ++ cp) m' (.bool (p x)) m') : ∃ v m', ACalls Tryz.prog 105 #[a, .func (.func g) #[] cp] m v m' ∧ (v = .bool (l.all p) ∧ Ext m m') := by
  obtain ⟨q, cap, rfl⟩ := ha.len
  have he : Ext m (m.push (.cells true #[.func (.func g) #[] cp])) := .push _ _
  refine wpF (args := [_, _]) mixed okf105 (fn := Tryz.f105) rfl rfl rfl (by simp) ?_
  refine cSeq ?_
  refine cRegion ?_
  refine sBox (v := .func (.func g) #[] cp) rfl ?_
  change wpOps _ _ _ _ _ (m.push (.cells true #[.func (.func g) #[] cp]))
  refine sAs (v := .bool _) rfl ?_
  refine sNil (kSeqN ?_)
  refine cSeq ?_
  refine cRegion ?_
  refine sMv (v := .slice _ _ _) rfl ?_
  refine sMFc1 rfl ?_
  have h7 := spec_ContainsFunc (m := m.push (.cells true #[.func (.func g) #[] cp])) (p := fun x => !p x) (ha.ext he) (by omega) call107 (cp := #[.pointer (some ⟨m.size, 0, none⟩)]) fun x hx => spec_every1 (gP rfl) hk (hp x hx _ he)
  refine sCall rfl call53 (by simpa [evR, updO] using h7) ?_
  refine sP (v := .bool (!(l.any fun x => !p x))) rfl ?_
  refine sAs (v := .bool _) rfl ?_
  refine sNil (kSeqN ?_)
  refine cRet ?_
  refine ⟨.inr rfl, _, rfl, ?_, he⟩
  have : (!(l.any fun x => !p x)) = l.all p := by rw [List.all_eq_not_any_not]
  rw [← this]; rfl

def H88 : Nat → List (Nat × Nat) := fun id => if id = 4 then [(1,6),(2,6)] else []
theorem okf88 : okF Tryz.prog H88 88 96 = true := by kernel_rfl
theorem spec_gate {m : Mem} {N n : Nat} {sl ws d : Value} {g : Nat × List Nat} (hg : GateOk n g) (hn : n ≤ 10) (hw : OwnF N m ws (ofs g.2)) : ∃ v m', ACalls Tryz.prog 88 #[.agg #[nv n, nv 0, sl, d], .agg #[nv g.1, ws, nv 0, nv 0]] m v m' ∧ (v = nv 0 ∧ Ext m m') := by
  obtain ⟨k, w⟩ := g
  obtain ⟨hk, hlt, hnd⟩ := hg
  simp only at hk hlt hnd hw
  obtain ⟨qw, cw, rfl⟩ := hw.ints.lenN
  have hl : w.length ≤ 3 := by omega
  have ex : Ext m ((m.push (.cells true #[nv n, nv 0, sl, d])).push (.cells true #[nv k, .slice qw w.length cw, nv 0, nv 0])) := (Ext.push _ _).trans (.push _ _)
  have g1 : Mem.get ((m.push (.cells true #[nv n, nv 0, sl, d])).push (.cells true #[nv k, .slice qw w.length cw, nv 0, nv 0])) m.size = .cells true #[nv n, nv 0, sl, d] := by rw [gPn (by simp), gP rfl]
  have g2 : Mem.get ((m.push (.cells true #[nv n, nv 0, sl, d])).push (.cells true #[nv k, .slice qw w.length cw, nv 0, nv 0])) (m.size + 1) = .cells true #[nv k, .slice qw w.length cw, nv 0, nv 0] := gP (by simp)
  refine wpF (args := [_, _]) mixed okf88 (fn := Tryz.f88) rfl rfl rfl (by simp) ?_
  refine cSeq ?_
  refine cRegion ?_
  refine sBox (v := .agg _) rfl ?_
  refine sBoxB (bl := m.size + 1) (v := .agg _) (by simp) rfl ?_
  change wpOps _ _ _ _ _ ((m.push (.cells true #[nv n, nv 0, sl, d])).push (.cells true #[nv k, .slice qw w.length cw, nv 0, nv 0]))
  generalize ((m.push (.cells true #[nv n, nv 0, sl, d])).push (.cells true #[nv k, .slice qw w.length cw, nv 0, nv 0])) = M at *
  refine sAs (v := nv 0) rfl ?_
  refine sNil (kSeqN ?_)
  refine cSeq ?_
  refine cRegion ?_
  refine sMFc1 rfl ?_
  refine sAs (v := .func _ _ _) rfl ?_
  refine sNil (kSeqN ?_)
  refine cSeq ?_
  refine cBlock ?_
  refine cSeq ?_
  refine cRegion ?_
  refine sFA F67_0 rfl ?_
  refine sLd (v := nv k) A3 rfl g2 rfl ?_
  refine sCall1 rfl call104 rfl (spec_Arity hk) ?_
  refine sBin (v := .bool false) (a := w.length) (b := 0) rfl rfl (by rw [aInt_eql, decide_eq_false (by omega)]) ?_
  refine sAs (v := .bool _) rfl ?_
  refine sNil (kSeqN ?_)
  refine cCondF rfl ?_
  refine cSeq ?_
  refine cDrawH (hs := [(1,6),(2,6)]) rfl (by decide) ?_
  refine lStepO (sFA F67_1 rfl (sNil fun e0 hm0 => ?_))
  refine lStepLd (v := .slice qw w.length cw) A29 rfl g2 rfl fun e1 hm1 hv1 hr1 => ?_
  refine lStepLen T29 rfl fun e2 hm2 hv2 hr2 => ?_
  refine lStepO (sFA F67_0 rfl (sNil fun e3 hm3 => ?_))
  refine lStepLd (v := nv k) A3 rfl g2 rfl fun e4 hm4 hv4 hr4 => ?_
  refine lStepO (sCall1 rfl call104 rfl (spec_Arity hk) (sNil fun e5 hm5 => ?_))
  refine lStepO (sBin (v := .bool false) (a := w.length) (b := w.length) rfl rfl (neqF rfl) (sNil fun e6 hm6 => ?_))
  refine lStepO (sAs (v := .bool _) rfl (sNil fun e7 hm7 => ?_))
  refine ⟨?_, (kSeqN ?_)⟩
  ·
    refine obl_atE (e := e1) (e' := e6) (by simp) (by rfl) (by simp) ((hr1 e6.m _ _ (by rw [hm6]; exact g2) (by rfl)).trans (congrArg some hv1.symm)) ?_
    refine obl_pure (e := e2) (by simp) (by rfl) (hr2.trans (congrArg some hv2.symm)) ?_
    trivial
  refine cCondF rfl ?_
  refine cSeq ?_
  refine cRegion ?_
  refine sFA F67_1 rfl ?_
  refine sLd (v := .slice qw w.length cw) A29 rfl g2 rfl ?_
  refine sMv (v := .func _ _ _) rfl ?_
  obtain ⟨v27, m27, h27, hv27, e27⟩ := spec_every (m := M) (p := fun x => decide (0 ≤ x) && decide (x < Int.ofNat n)) (g := 103) (cp := #[.pointer (some ⟨m.size, 0, none⟩)]) (hw.ints.ext ex) (by rw [ofs_length]; omega) call103 fun x _ m' he => spec_wire (he.cells g1)
  have hall : ((ofs w).all fun x => decide (0 ≤ x) && decide (x < Int.ofNat n)) = true := by
    rw [List.all_eq_true]
    intro x hx
    obtain ⟨y, hy, rfl⟩ := List.mem_map.1 hx
    have := hlt y hy
    simp; omega
  rw [hall] at hv27
  subst hv27
  refine sCall2 rfl call105 rfl rfl h27 ?_
  replace g1 := e27.cells g1
  replace g2 := e27.cells g2
  replace ex := ex.trans e27
  refine sP (v := .bool false) rfl ?_
  refine sAs (v := .bool _) rfl ?_
  refine sNil (kSeqN ?_)
  refine cCondF rfl ?_
  refine cSkip (kBlkN (kSeqN ?_))
  refine cSeq ?_
  refine cSeq ?_
  refine cRegion ?_
  refine sFA F67_1 rfl ?_
  refine sLd (v := .slice qw w.length cw) A29 rfl g2 rfl ?_
  refine sLen T29 rfl ?_
  refine sMv (v := nv 0) rfl ?_
  refine sNil (kSeqN ?_)
  refine cBlock ?_
  refine wpC_loop (fun k' ρ m' => ∃ i, k' = w.length - i ∧ i ≤ w.length ∧ Ext m27 m' ∧ Has ρ [(2, .pointer (some ⟨m.size, 0, none⟩)), (3, .pointer (some ⟨m.size + 1, 0, none⟩)), (30, .slice qw w.length cw), (31, nv w.length), (32, nv i)]) ⟨0, rfl, by omega, .refl _, rfl, rfl, rfl, rfl, rfl, trivial⟩ ?_
  rintro k' ρ m' ⟨i, rfl, hi, X, hh⟩
  rw [hh.env]; clear hh
  replace g1 := X.cells g1
  replace g2 := X.cells g2
  replace ex := ex.trans X
  refine cSeq ?_
  refine cRegion ?_
  refine sBin rfl rfl (aInt_lss) ?_
  refine sNil (kSeqN ?_)
  refine cSeq ?_   -- seq 9
  refine cCond rfl (fun c3 => ?_) (fun c3 => ?_)
  ·
    obtain ⟨b1, o1, p1, r1, cc, ee1, gg, x1⟩ := hw.ints.atN (by omega)
    cases ee1
    refine cSkip (kSeqN ?_)
    refine cSeq ?_
    refine cBlock ?_
    refine cSeq ?_
    refine cRegion ?_
    refine sMv (v := nv _) rfl ?_
    refine sIx T29 S3 rfl rfl (by omega) ?_
    refine sLd (v := nv w[i]) A3 rfl (ex.cells gg) (x1 i w[i] (by simp)) ?_
    refine sAs (v := nv _) rfl ?_
    refine sAs (v := nv _) rfl ?_
    refine sNil (kSeqN ?_)
    refine cSeq ?_
    refine cRegion ?_
    refine sFA F67_1 rfl ?_
    refine sLd (v := .slice _ _ _) A29 rfl g2 rfl ?_
    refine sMv (v := nv _) rfl ?_
    obtain ⟨v40, h40, o40, q40, c40, rfl⟩ := cut_own (hw.ext ex) (Nat.le_of_lt c3)
    refine sO (v := .slice q40 (w.take i).length c40) (m' := m') (opF_read rfl h40) ?_
    refine sMv (v := nv _) rfl ?_
    have h42 := spec_Contains o40.ints (by simp; omega) (x := w[i])
    have hni : ¬ w[i] ∈ w.take i := fun hm => by
      obtain ⟨j, hj, e⟩ := List.getElem_of_mem hm
      rw [List.length_take] at hj
      rw [List.getElem_take] at e
      have := (List.getElem_inj hnd).1 e
      omega
    rw [decide_eq_false hni] at h42
    refine sCall2 rfl call11 rfl rfl h42 ?_
    refine sNil (kSeqN ?_)
    refine cCondF rfl ?_
    refine cSkip (kBlkN (kSeqN ?_))
    refine cRegion ?_
    refine sBin rfl rfl (aInt_add (b := 1) (by omega)) ?_
    refine sMv (v := nv _) rfl ?_
    refine sNil (kSeqN ?_)
    refine ⟨_, ?_, i + 1, rfl, by omega, X, rfl, rfl, rfl, rfl, rfl, trivial⟩
    omega
  ·
    refine cExit (kSeqE (kSeqE (kBlkS (kSeqN ?_))))
    refine cSeq ?_
    refine cRegion ?_
    refine sFA F67_0 rfl ?_
    refine sLd (v := nv k) A3 rfl g2 rfl ?_
    refine sBin (v := .bool false) (a := k) (b := 13) rfl rfl (by rw [aInt_eql, decide_eq_false (by omega)]) ?_
    refine sAs (v := .bool false) rfl ?_
    refine sNil (kSeqN ?_)
    refine cSeq ?_
    refine cBlock ?_
    refine cSeq ?_
    refine cRegion ?_
    refine sFA F67_3 rfl ?_
    refine sLd (v := nv 0) A3 rfl g2 rfl ?_
    refine sBin (v := .bool false) (a := 0) (b := 0) rfl rfl rfl ?_
    refine sMv (v := .bool _) rfl ?_
    refine sG rfl rfl ?_
    refine sFA F67_3 rfl ?_
    refine sG rfl rfl ?_
    refine sLd (v := nv 0) A3 rfl g2 rfl ?_
    refine sG rfl rfl ?_
    refine sFA F140_0 rfl ?_
    refine sG rfl rfl ?_
    refine sFA F38_1 rfl ?_
    refine sG rfl rfl ?_
    refine sLd (v := nv 0) A3 rfl g1 rfl ?_
    refine sG rfl rfl ?_
    refine sBin (v := .bool false) (a := 0) (b := 0) rfl rfl rfl ?_
    refine sP (v := .bool false) rfl ?_
    refine sMv (v := .bool _) rfl ?_
    refine sG rfl rfl ?_
    refine sMv (v := .bool false) rfl ?_
    refine sG rfl rfl ?_
    refine sMv (v := .bool false) rfl ?_
    refine sGno (q' := false) rfl rfl (by simp) ?_
    refine sGno (q' := false) rfl rfl (by simp) ?_
    refine sGno (q' := false) rfl rfl (by simp) ?_
    refine sGno (q' := false) rfl rfl (by simp) ?_
    refine sGnoU rfl rfl ?_
    refine sGnoU rfl rfl ?_
    refine sGnoU rfl rfl ?_
    refine sGnoU rfl rfl ?_
    refine sGnoU rfl rfl ?_
    refine sGnoU rfl rfl ?_
    refine sGno (q' := false) rfl rfl (by simp) ?_
    refine sG rfl rfl ?_
    refine sP (v := .bool false) rfl ?_
    refine sP (v := .bool false) rfl ?_
    refine sAs (v := .bool _) rfl ?_
    refine sNil (kSeqN ?_)
    refine cCondF rfl ?_
    refine cSeq ?_
    refine cRegion ?_
    refine sMv (v := .bool false) rfl ?_
    refine sMv (v := .bool _) rfl ?_
    refine sG rfl rfl ?_
    refine sFA F67_0 rfl ?_
    refine sG rfl rfl ?_
    refine sLd (v := nv k) A3 rfl g2 rfl ?_
    refine sG rfl rfl ?_
    refine sBin (v := .bool false) (a := k) (b := 14) rfl rfl (by rw [aInt_eql, decide_eq_false (by omega)]) ?_
    refine sP (v := .bool false) rfl ?_
    refine sMv (v := .bool _) rfl ?_
    refine sGno (q' := false) rfl rfl (by simp) ?_
    refine sGno (q' := false) rfl rfl (by simp) ?_
    refine sGno (q' := false) rfl rfl (by simp) ?_
    refine sP (v := .bool false) rfl ?_
    refine sMv (v := .bool _) rfl ?_
    refine sG rfl rfl ?_
    refine sMv (v := .bool false) rfl ?_
    refine sG rfl rfl ?_
    refine sP (v := .bool true) rfl ?_
    refine sG rfl rfl ?_
    refine sMv (v := .bool true) rfl ?_
    refine sG rfl rfl ?_
    refine sFA F67_2 rfl ?_
    refine sG rfl rfl ?_
    refine sLd (v := nv 0) A3 rfl g2 rfl ?_
    refine sG rfl rfl ?_
    refine sBin (v := .bool false) (a := 0) (b := 0) rfl rfl (neqF rfl) ?_
    refine sG rfl rfl ?_
    refine sP (v := .bool false) rfl ?_
    refine sP (v := .bool false) rfl ?_
    refine sAs (v := .bool _) rfl ?_
    refine sNil (kSeqN ?_)
    refine cCondF rfl ?_
    refine cSkip (kBlkN (kSeqN ?_))
    refine cSeq ?_
    refine cRegion ?_
    refine sAs (v := nv 0) rfl ?_
    refine sNil (kSeqN ?_)
    refine cRet ?_
    exact ⟨.inr rfl, _, rfl, rfl, ex⟩

theorem okf58 : okF Tryz.prog H0 58 48 = true := by kernel_rfl
theorem spec_Check4 {m : Mem} {N n : Nat} {s : Value} {cs : Array Value} {Gs : List (Nat × List Nat)} (hG : OwnG N m s cs Gs) (hc : CircOk n Gs) : ∃ v m', ACalls Tryz.prog 58 #[.agg #[nv n, nv 0, s]] m v m' ∧ (v = nv 0 ∧ Ext m m') := by
  obtain ⟨q, cap, rfl⟩ := hG.1.len
  obtain ⟨h1, h10, hf, hall⟩ := hc
  have e1 : Ext m (m.push (.cells true #[nv n, nv 0, .slice q Gs.length cap])) := .push _ _
  have g1 : Mem.get (m.push (.cells true #[nv n, nv 0, .slice q Gs.length cap])) m.size = .cells true #[nv n, nv 0, .slice q Gs.length cap] := gP rfl
  refine wpF (args := [_]) mixed okf58 (fn := Tryz.f58) rfl rfl rfl (by simp) ?_
  refine cSeq ?_
  refine cRegion ?_
  refine sBox (v := .agg _) rfl ?_
  change wpOps _ _ _ _ _ (m.push (.cells true #[nv n, nv 0, .slice q Gs.length cap]))
  generalize hM : m.push (.cells true #[nv n, nv 0, .slice q Gs.length cap]) = M
  have e1 : Ext m M := by rw [← hM]; exact .push _ _
  have g1 : Mem.get M m.size = .cells true #[nv n, nv 0, .slice q Gs.length cap] := by rw [← hM]; exact gP rfl
  clear hM
  refine sAs (v := nv 0) rfl ?_
  refine sNil (kSeqN ?_)
  refine cSeq ?_
  refine cBlock ?_
  refine cSeq ?_
  refine cRegion ?_
  refine sFA F38_0 rfl ?_
  refine sLd (v := nv n) A3 rfl g1 rfl ?_
  refine sBin (v := .bool false) (a := n) (b := 1) rfl rfl (by rw [aInt_lss, decide_eq_false (by omega)]) ?_
  refine sMv (v := .bool _) rfl ?_
  refine sG rfl rfl ?_
  refine sFA F38_0 rfl ?_
  refine sG rfl rfl ?_
  refine sLd (v := nv n) A3 rfl g1 rfl ?_
  refine sG rfl rfl ?_
  refine sBin (v := .bool false) (a := n) (b := 12) rfl rfl (by rw [aInt_gtr, decide_eq_false (by omega)]) ?_
  refine sP (v := .bool false) rfl ?_
  refine sMv (v := .bool _) rfl ?_
  refine sG rfl rfl ?_
  refine sFA F38_1 rfl ?_
  refine sG rfl rfl ?_
  refine sLd (v := nv 0) A3 rfl g1 rfl ?_
  refine sG rfl rfl ?_
  refine sBin (v := .bool false) (a := 0) (b := 0) rfl rfl rfl ?_
  refine sP (v := .bool false) rfl ?_
  refine sMv (v := .bool _) rfl ?_
  refine sG rfl rfl ?_
  refine sFA F38_1 rfl ?_
  refine sG rfl rfl ?_
  refine sLd (v := nv 0) A3 rfl g1 rfl ?_
  refine sG rfl rfl ?_
  refine sBin (v := .bool false) (a := 0) (b := 8) rfl rfl rfl ?_
  refine sP (v := .bool false) rfl ?_
  refine sAs (v := .bool _) rfl ?_
  refine sNil (kSeqN ?_)
  refine cCondF rfl ?_
  refine cSeq ?_
  refine cRegion ?_
  refine sFA F38_2 rfl ?_
  refine sLd (v := .slice q Gs.length cap) A36 rfl g1 rfl ?_
  refine sLen T36 rfl ?_
  refine sBin (v := .bool false) (a := Gs.length) (b := 120) rfl rfl (by rw [aInt_gtr, decide_eq_false (by omega)]) ?_
  refine sAs (v := .bool _) rfl ?_
  refine sNil (kSeqN ?_)
  refine cCondF rfl ?_
  refine cSkip (kBlkN (kSeqN ?_))
  refine cSeq ?_
  refine cRegion ?_
  refine sLdAll A38 S38 rfl g1 rfl ?_
  refine sBuild B140 ?_
  refine sMFf rfl ?_
  refine sAs (v := .func _ _ _) rfl ?_
  refine sNil (kSeqN ?_)
  refine cSeq ?_
  refine cSeq ?_
  refine cRegion ?_
  refine sFA F38_2 rfl ?_
  refine sLd (v := .slice q Gs.length cap) A36 rfl g1 rfl ?_
  refine sLen T36 rfl ?_
  refine sMv (v := nv 0) rfl ?_
  refine sNil (kSeqN ?_)
  refine cBlock ?_
  refine wpC_loop (fun k' ρ m' => ∃ i, k' = Gs.length - i ∧ i ≤ Gs.length ∧ Ext M m' ∧ Has ρ [(1, .pointer (some ⟨m.size, 0, none⟩)), (3, .func (.func 88) #[.agg #[nv n, nv 0, .slice q Gs.length cap, .nilFunc]] #[]), (35, .slice q Gs.length cap), (36, nv Gs.length), (37, nv i)]) ⟨0, rfl, by omega, .refl _, rfl, rfl, rfl, rfl, rfl, trivial⟩ ?_
  rintro k' ρ m' ⟨i, rfl, hi, X, hh⟩
  rw [hh.env]; clear hh
  replace g1 := X.cells g1
  replace e1 := e1.trans X
  refine cSeq ?_
  refine cRegion ?_
  refine sBin rfl rfl (aInt_lss) ?_
  refine sNil (kSeqN ?_)
  refine cSeq ?_   -- seq 8
  refine cCond rfl (fun c2 => ?_) (fun c2 => ?_)
  ·
    obtain ⟨g, hgi⟩ : ∃ g, Gs[i]? = some g := ⟨_, List.getElem?_eq_getElem c2⟩
    have hgo := hall g (List.mem_of_getElem? hgi)
    obtain ⟨b2, cp2, cc, ws, ee, gb, hcs, hex, hws⟩ := (hG.ext e1).gate hgi
    cases ee
    obtain ⟨qw, cw, rfl⟩ := hws.ints.lenN
    refine cSkip (kSeqN ?_)
    refine cSeq ?_
    refine cBlock ?_
    refine cSeq ?_
    refine cRegion ?_
    refine sIx T36 S67 rfl rfl c2 ?_
    refine sLdA A67 S67 rfl gb (by omega) ?_
    rw [hex]
    refine sAlloc Z67 (by kernel_rfl) ?_
    refine sStNA S67 rfl rfl rfl rfl (by kernel_rfl) ?_
    refine sNil (kSeqN ?_)
    refine cSeq ?_
    refine cRegion ?_
    refine sMv (v := .func _ _ _) rfl ?_
    refine sLdAll A67 S67 rfl (gP rfl) rfl ?_
    obtain ⟨v43, m43, h43, rfl, e43⟩ := spec_gate (m := m'.push (.cells true #[nv g.1, .slice qw g.2.length cw, nv 0, nv 0])) (sl := .slice (some ⟨b2, 0, some 4⟩) Gs.length cap) (d := .nilFunc) hgo h10 (hws.ext (.push _ _))
    refine sCallF1 rfl call88 rfl h43 ?_
    refine sAs (v := nv _) rfl ?_
    refine sNil (kSeqN ?_)
    refine cSeq ?_
    refine cRegion ?_
    refine sMv (v := nv _) rfl ?_
    refine sBin (v := .bool false) (a := 0) (b := 0) rfl rfl (neqF rfl) ?_
    refine sNil (kSeqN ?_)
    refine cCondF rfl ?_
    refine cSkip (kBlkN (kSeqN ?_))
    refine cRegion ?_
    refine sBin rfl rfl (aInt_add (b := 1) (by omega)) ?_
    refine sMv (v := nv _) rfl ?_
    refine sNil (kSeqN ?_)
    refine ⟨_, ?_, i + 1, rfl, by omega, X.trans ((Ext.push _ _).trans e43), rfl, rfl, rfl, rfl, rfl, trivial⟩
    omega
  ·
    refine cExit (kSeqE (kSeqE (kBlkS (kSeqN ?_))))
    refine cSeq ?_
    refine cRegion ?_
    refine sAs (v := nv 0) rfl ?_
    refine sNil (kSeqN ?_)
    refine cRet ?_
    exact ⟨.inr rfl, _, rfl, rfl, e1⟩

end Go.AM

/-! ### Q3 -/
namespace Go.AM
open Go.Proofs
set_option maxRecDepth 100000
set_option linter.unusedVariables false
set_option linter.unusedSimpArgs false
/-- The table of kinds holds X, CX, CCX. -/
def GlobC (m : Mem) : Prop := ∃ r b r2 es, Mem.get m 0 = .cells r #[.map (some b)] ∧ Mem.get m b = .map r2 es ∧ ∀ k, (k = 1 ∨ k = 9 ∨ k = 12) → ∃ i c, aFindNow (.int .i64) (nv k) es 0 = some (some (i, .agg #[nv c, .func (.func 125) #[] #[]]))
theorem GlobC.ext {m m' : Mem} (h : GlobC m) (he : Ext m m') : GlobC m' := by
  obtain ⟨r, b, r2, es, h1, h2, h3⟩ := h
  exact ⟨r, b, r2, es, he.cells h1, by rw [he.2 b (Mem.lt_of_live (by rw [h2]; rfl)), h2], h3⟩
theorem lookC {m : Mem} {b k i c : Nat} {r2 : Bool} {es : List (Value × Value)} {ok : Bool} (h2 : Mem.get m b = .map r2 es) (h3 : aFindNow (.int .i64) (nv k) es 0 = some (some (i, .agg #[nv c, .func (.func 125) #[] #[]]))) :
    aLookup Tryz.prog m 107 (.map (some b)) (nv k) ok = some (if ok then .tuple #[.agg #[nv c, .func (.func 125) #[] #[]], .bool true] else .agg #[nv c, .func (.func 125) #[] #[]]) := by
  have hf : (plainKey (.int .i64) && flat (.agg #[nv 0, .nilFunc])) = true := by kernel_rfl
  simp only [aLookup, T107, U3, Z105, hf, if_true, h2, h3]
theorem kind_in {n : Nat} {g : Nat × List Nat} (h : GateOk n g) : g.1 = 1 ∨ g.1 = 9 ∨ g.1 = 12 := by
  rcases h.kind with h | h | h
  · exact .inl h.1
  · exact .inr (.inl h.1)
  · exact .inr (.inr h.1)
/-- The last wire is turned if all others are 1. -/
def turnM (x : Nat) (w : List Nat) : Nat := if w.dropLast.all (fun c => x.testBit c) then x ^^^ 2 ^ w.getLastD 0 else x
def runM (Gs : List (Nat × List Nat)) (x : Nat) : Nat := Gs.foldl (fun x g => turnM x g.2) x
theorem runM_take {Gs : List (Nat × List Nat)} {i : Nat} {g : Nat × List Nat} (h : Gs[i]? = some g) (x : Nat) : runM (Gs.take (i + 1)) x = turnM (runM (Gs.take i) x) g.2 := by
  rw [List.take_add_one, h, runM, List.foldl_append]; rfl
theorem turnM_lt {n x : Nat} {w : List Nat} (hx : x < 2 ^ n) (hw : ∀ y ∈ w, y < n) (h0 : 0 < w.length) : turnM x w < 2 ^ n := by
  unfold turnM
  split
  · refine Nat.xor_lt_two_pow hx (Nat.pow_lt_pow_right (by omega) (hw _ ?_))
    rw [List.getLastD_eq_getLast?, List.getLast?_eq_getElem?, List.getElem?_eq_getElem (by omega)]
    exact List.getElem_mem _
  · exact hx
theorem runM_lt {n x : Nat} {Gs : List (Nat × List Nat)} (hx : x < 2 ^ n) (hg : ∀ g ∈ Gs, GateOk n g) : runM Gs x < 2 ^ n := by
  induction Gs generalizing x with
  | nil => exact hx
  | cons g Gs ih =>
    have h := hg g (by simp)
    exact ih (turnM_lt hx h.lt (by have := h.kind; omega)) fun g' hg' => hg g' (by simp [hg'])

theorem okf60 : okF Tryz.prog H0 60 19 = true := by kernel_rfl
theorem spec_Check1 {m : Mem} {n : Nat} {g : Nat × List Nat} {ws : Value} (hC : GlobC m) (hg : GateOk n g) (hw : ∃ q l c, ws = .slice q l c) : ∃ v m', ACalls Tryz.prog 60 #[.agg #[nv g.1, ws, nv 0, nv 0]] m v m' ∧ (v = .bool false ∧ Ext m m') := by
  obtain ⟨q, l, c, rfl⟩ := hw
  obtain ⟨r, b, r2, es, h1, h2, h3⟩ := hC
  obtain ⟨i, k, h4⟩ := h3 _ (kind_in hg)
  refine wpF (args := [_]) mixed okf60 (fn := Tryz.f60) rfl rfl rfl (by simp) ?_
  refine cSeq ?_
  refine cRegion ?_
  refine sBox (v := .agg _) rfl ?_
  change wpOps _ _ _ _ _ (m.push (.cells true #[nv g.1, .slice q l c, nv 0, nv 0]))
  have e1 : Ext m (m.push (.cells true #[nv g.1, .slice q l c, nv 0, nv 0])) := .push _ _
  have hm : Mem.get (m.push (.cells true #[nv g.1, .slice q l c, nv 0, nv 0])) b = .map r2 es := by rw [e1.2 b (Mem.lt_of_live (by rw [h2]; rfl)), h2]
  refine sAs (v := .bool _) rfl ?_
  refine sNil (kSeqN ?_)
  refine cSeq ?_
  refine cRegion ?_
  refine sLd (v := .map (some b)) A107 rfl (e1.cells h1) rfl ?_
  refine sFA F67_0 rfl ?_
  refine sLd (v := nv g.1) A3 rfl (gP rfl) rfl ?_
  refine sO (v := .tuple #[.agg #[nv k, .func (.func 125) #[] #[]], .bool true]) (opF_read rfl (lookC hm h4)) ?_
  refine sMv (v := .tuple _) rfl ?_
  refine sP (v := .agg _) rfl ?_   -- extract ['t5', '0']
  refine sP (v := .bool true) rfl ?_
  refine sAllocB (bl := m.size + 1) (by simp) Z105 (by kernel_rfl) ?_
  refine sStNAB (by simp) S105 rfl rfl rfl rfl (by kernel_rfl) ?_
  refine sAs (v := .bool true) rfl ?_
  refine sNil (kSeqN ?_)
  refine cSeq ?_
  refine cRegion ?_
  refine sMv (v := .bool true) rfl ?_
  refine sP (v := .bool false) rfl ?_
  refine sMv (v := .bool _) rfl ?_
  refine sG rfl rfl ?_
  refine sFA F67_3 rfl ?_
  refine sG rfl rfl ?_
  refine sLd (v := nv 0) A3 rfl (by rw [gPn (by simp)]; exact gP rfl) rfl ?_
  refine sG rfl rfl ?_
  refine sBin (v := .bool false) (a := 0) (b := 0) rfl rfl (neqF rfl) ?_
  refine sP (v := .bool false) rfl ?_
  refine sAs (v := .bool _) rfl ?_
  refine sNil (kSeqN ?_)
  refine cRet ?_
  exact ⟨.inr rfl, _, rfl, rfl, e1.trans (.push _ _)⟩

theorem okf89 : okF Tryz.prog H0 89 19 = true := by kernel_rfl
theorem spec_IndexG {m : Mem} {N n : Nat} {s : Value} {cs : Array Value} {Gs : List (Nat × List Nat)} (hC : GlobC m) (hG : OwnG N m s cs Gs) (hc : CircOk n Gs) : ∃ v m', ACalls Tryz.prog 89 #[s, .func (.func 60) #[] #[]] m v m' ∧ (v = .int .i64 (-1) ∧ Ext m m') := by
  obtain ⟨q, cap, rfl⟩ := hG.1.len
  obtain ⟨h1, h10, hf, hall⟩ := hc
  refine wpF (args := [_, _]) mixed okf89 (fn := Tryz.f89) rfl rfl rfl (by simp) ?_
  refine cSeq ?_
  refine cRegion ?_
  refine sAs (v := nv 0) rfl ?_
  refine sNil (kSeqN ?_)
  refine cSeq ?_
  refine cSeq ?_
  refine cRegion ?_
  refine sMv (v := .slice _ _ _) rfl ?_
  refine sLen T36 rfl ?_
  refine sMv (v := nv 0) rfl ?_
  refine sNil (kSeqN ?_)
  refine cBlock ?_
  refine wpC_loop (fun k' ρ m' => ∃ i, k' = Gs.length - i ∧ i ≤ Gs.length ∧ Ext m m' ∧ Has ρ [(0, .slice q Gs.length cap), (1, .func (.func 60) #[] #[]), (7, nv Gs.length), (8, nv i)]) ⟨0, rfl, by omega, .refl _, rfl, rfl, rfl, rfl, trivial⟩ ?_
  rintro k' ρ m' ⟨i, rfl, hi, X, hh⟩
  rw [hh.env]; clear hh
  refine cSeq ?_
  refine cRegion ?_
  refine sBin rfl rfl (aInt_lss) ?_
  refine sNil (kSeqN ?_)
  refine cSeq ?_   -- seq 4
  refine cCond rfl (fun c0 => ?_) (fun c0 => ?_)
  ·
    obtain ⟨g, hgi⟩ : ∃ g, Gs[i]? = some g := ⟨_, List.getElem?_eq_getElem c0⟩
    have hgo := hall g (List.mem_of_getElem? hgi)
    obtain ⟨b2, cp2, cc, ws, ee, gb, hcs, hex, hws⟩ := (hG.ext X).gate hgi
    cases ee
    obtain ⟨qw, cw, rfl⟩ := hws.ints.lenN
    refine cSkip (kSeqN ?_)
    refine cSeq ?_
    refine cBlock ?_
    refine cSeq ?_
    refine cRegion ?_
    refine sMv (v := nv _) rfl ?_
    refine sAs (v := nv _) rfl ?_
    refine sNil (kSeqN ?_)
    refine cSeq ?_
    refine cRegion ?_
    refine sMv (v := .func _ _ _) rfl ?_
    refine sMv (v := .slice _ _ _) rfl ?_
    refine sMv (v := nv _) rfl ?_
    refine sIx T36 S67 rfl rfl c0 ?_
    refine sLdA A67 S67 rfl gb (by omega) ?_
    rw [hex]
    obtain ⟨v16, m16, h16, rfl, e16⟩ := spec_Check1 (hC.ext X) hgo (ws := .slice qw g.2.length cw) ⟨_, _, _, rfl⟩
    refine sCall1 rfl call60 rfl h16 ?_
    refine sNil (kSeqN ?_)
    refine cCondF rfl ?_
    refine cSkip (kBlkN (kSeqN ?_))
    refine cRegion ?_
    refine sBin rfl rfl (aInt_add (b := 1) (by omega)) ?_
    refine sMv (v := nv _) rfl ?_
    refine sNil (kSeqN ?_)
    refine ⟨_, ?_, i + 1, rfl, by omega, X.trans e16, rfl, rfl, rfl, rfl, trivial⟩
    omega
  ·
    refine cExit (kSeqE (kSeqE (kBlkS (kSeqN ?_))))
    refine cSeq ?_
    refine cRegion ?_
    refine sAs (v := .int .i64 (-1)) rfl ?_
    refine sNil (kSeqN ?_)
    refine cRet ?_
    exact ⟨.inr rfl, _, rfl, rfl, X⟩

theorem okf59 : okF Tryz.prog H0 59 9 = true := by kernel_rfl
theorem spec_ContainsG {m : Mem} {N n : Nat} {s : Value} {cs : Array Value} {Gs : List (Nat × List Nat)} (hC : GlobC m) (hG : OwnG N m s cs Gs) (hc : CircOk n Gs) : ∃ v m', ACalls Tryz.prog 59 #[s, .func (.func 60) #[] #[]] m v m' ∧ (v = .bool false ∧ Ext m m') := by
  obtain ⟨q, cap, rfl⟩ := hG.1.len
  refine wpF (args := [_, _]) mixed okf59 (fn := Tryz.f59) rfl rfl rfl (by simp) ?_
  refine cSeq ?_
  refine cRegion ?_
  refine sAs (v := .bool _) rfl ?_
  refine sNil (kSeqN ?_)
  refine cSeq ?_
  refine cRegion ?_
  refine sMv (v := .slice _ _ _) rfl ?_
  refine sMv (v := .func _ _ _) rfl ?_
  obtain ⟨v7, m7, h7, rfl, e7⟩ := spec_IndexG hC hG hc
  refine sCall2 rfl call89 rfl rfl h7 ?_
  refine sBinI (v := .bool false) (a := -1) (b := 0) rfl rfl (by rw [aInt_geqI]; rfl) ?_
  refine sAs (v := .bool _) rfl ?_
  refine sNil (kSeqN ?_)
  refine cRet ?_
  exact ⟨.inr rfl, _, rfl, rfl, e7⟩

theorem okf30 : okF Tryz.prog H0 30 12 = true := by kernel_rfl
theorem spec_Check8 {m : Mem} {N n : Nat} {s : Value} {cs : Array Value} {Gs : List (Nat × List Nat)} (hC : GlobC m) (hG : OwnG N m s cs Gs) (hc : CircOk n Gs) : ∃ v m', ACalls Tryz.prog 30 #[.agg #[nv n, nv 0, s]] m v m' ∧ (v = nv 0 ∧ Ext m m') := by
  obtain ⟨q, cap, rfl⟩ := hG.1.len
  refine wpF (args := [_]) mixed okf30 (fn := Tryz.f30) rfl rfl rfl (by simp) ?_
  refine cSeq ?_
  refine cRegion ?_
  refine sBox (v := .agg _) rfl ?_
  change wpOps _ _ _ _ _ (m.push (.cells true #[nv n, nv 0, .slice q Gs.length cap]))
  have e1 : Ext m (m.push (.cells true #[nv n, nv 0, .slice q Gs.length cap])) := .push _ _
  have g1 : Mem.get (m.push (.cells true #[nv n, nv 0, .slice q Gs.length cap])) m.size = .cells true #[nv n, nv 0, .slice q Gs.length cap] := gP rfl
  refine sAs (v := nv 0) rfl ?_
  refine sNil (kSeqN ?_)
  refine cSeq ?_
  refine cSeq ?_
  refine cRegion ?_
  refine sLdAll A38 S38 rfl g1 rfl ?_
  obtain ⟨v5, m5, h5, rfl, e5⟩ := spec_Check4 (hG.ext e1) hc
  refine sCall1 rfl call58 rfl h5 ?_
  replace g1 := e5.cells g1
  replace e1 := e1.trans e5
  refine sAs (v := nv _) rfl ?_
  refine sNil (kSeqN ?_)
  refine cSeq ?_
  refine cRegion ?_
  refine sMv (v := nv _) rfl ?_
  refine sBin (v := .bool false) (a := 0) (b := 0) rfl rfl (neqF rfl) ?_
  refine sNil (kSeqN ?_)
  refine cCondF rfl ?_
  refine cSkip (kSeqN ?_)
  refine cSeq ?_   -- seq 4
  refine cSeq ?_
  refine cRegion ?_
  refine sFA F38_2 rfl ?_
  refine sLd (v := .slice q Gs.length cap) A36 rfl g1 rfl ?_
  obtain ⟨v11, m11, h11, rfl, e11⟩ := spec_ContainsG (hC.ext e1) (hG.ext e1) hc
  refine sCall2 rfl call59 rfl rfl h11 ?_
  refine sNil (kSeqN ?_)
  refine cCondF rfl ?_
  refine cSkip (kSeqN ?_)
  refine cSeq ?_
  refine cRegion ?_
  refine sAs (v := nv 0) rfl ?_
  refine sNil (kSeqN ?_)
  refine cRet ?_
  exact ⟨.inr rfl, _, rfl, rfl, e1.trans e11⟩

theorem okf127 : okF Tryz.prog H0 127 9 = true := by kernel_rfl
theorem spec_turned1 {m : Mem} {p x y : Nat} {r : Bool} (h : Mem.get m p = .cells r #[nv x]) (hx : x < 2 ^ 12) : ACalls Tryz.prog 127 #[nv y, .pointer (some ⟨p, 0, none⟩)] m (.bool (!x.testBit y)) m := by
  refine ACalls.callee ?_
  have hsh := Nat.shiftRight_le x y
  refine wpF (args := [_, _]) mixed okf127 (fn := Tryz.f127) rfl rfl rfl (by simp) ?_
  refine cSeq ?_
  refine cRegion ?_
  refine sAs (v := .bool _) rfl ?_
  refine sNil (kSeqN ?_)
  refine cSeq ?_
  refine cRegion ?_
  refine sLd (v := nv x) A3 rfl h rfl ?_
  refine sMv (v := nv _) rfl ?_
  refine sBin (a := x) (b := y) rfl rfl (aInt_shr (by omega)) ?_
  refine sBin (b := 1) rfl rfl (aInt_and (by omega)) ?_
  refine sBin (v := .bool (!x.testBit y)) (b := 0) rfl rfl (by
    rw [aInt_eql]
    congr 2
    rw [Bool.eq_iff_iff, decide_eq_true_eq]
    have h1 := bitB x y
    have h2 : x >>> y &&& 1 = 0 ∨ x >>> y &&& 1 = 1 := by rw [Nat.and_one_is_mod]; omega
    rcases h2 with h2 | h2 <;> rw [h2] at h1 ⊢ <;> rw [← h1] <;> simp) ?_
  refine sAs (v := .bool _) rfl ?_
  refine sNil (kSeqN ?_)
  refine cRet ?_
  exact ⟨.inr rfl, _, rfl, rfl, rfl⟩

theorem okf125 : okF Tryz.prog H0 125 22 = true := by kernel_rfl
theorem spec_turnedG {m : Mem} {N x : Nat} {ws : Value} {w : List Nat} (hw : OwnF N m ws (ofs w)) (h0 : 0 < w.length) (h3 : w.length ≤ 3) (hlt : ∀ y ∈ w, y < 10) (hx : x < 2 ^ 10) : ∃ v m', ACalls Tryz.prog 125 #[nv x, ws] m v m' ∧ (v = nv (turnM x w) ∧ Ext m m') := by
  obtain ⟨q, cap, rfl⟩ := hw.ints.lenN
  have e1 : Ext m (m.push (.cells true #[nv x])) := .push _ _
  have g1 : Mem.get (m.push (.cells true #[nv x])) m.size = .cells true #[nv x] := gP rfl
  obtain ⟨y, hy⟩ : ∃ y, w[w.length - 1]? = some y := ⟨_, List.getElem?_eq_getElem (by omega)⟩
  have hyl := hlt y (List.mem_of_getElem? hy)
  have hlast : w.getLastD 0 = y := by rw [List.getLastD_eq_getLast?, List.getLast?_eq_getElem?, hy]; rfl
  have h2y : 2 ^ y < 2 ^ 10 := Nat.pow_lt_pow_right (by omega) hyl
  refine wpF (args := [_, _]) mixed okf125 (fn := Tryz.f125) rfl rfl rfl (by simp) ?_
  refine cSeq ?_
  refine cRegion ?_
  refine sBox (v := nv x) rfl ?_
  change wpOps _ _ _ _ _ (m.push (.cells true #[nv x]))
  refine sAs (v := nv 0) rfl ?_
  refine sNil (kSeqN ?_)
  refine cSeq ?_
  refine cRegion ?_
  refine sMv (v := .slice _ _ _) rfl ?_
  refine sLen T29 rfl ?_
  refine sBin (v := nv (w.length - 1)) rfl rfl (aInt_sub (b := 1) (by omega)) ?_
  refine sAs (v := nv _) rfl ?_
  refine sNil (kSeqN ?_)
  refine cSeq ?_   -- seq 2
  refine cSeq ?_
  refine cRegion ?_
  refine sMv (v := .slice _ _ _) rfl ?_
  refine sMv (v := nv _) rfl ?_
  obtain ⟨v11, h11, o11, q11, c11, rfl⟩ := cut_own (hw.ext e1) (show w.length - 1 ≤ w.length by omega)
  refine sO (v := .slice q11 (w.take (w.length - 1)).length c11) (m' := m.push (.cells true #[nv x])) (opF_read rfl h11) ?_
  refine sMFc1 rfl ?_
  have h13 := spec_ContainsFunc (m := m.push (.cells true #[nv x])) (p := fun c => !x.testBit c.toNat) o11.ints (by rw [ofs_length, List.length_take]; omega) call127 (cp := #[.pointer (some ⟨m.size, 0, none⟩)]) fun z hz => by
    obtain ⟨u, hu, rfl⟩ := List.mem_map.1 hz
    exact spec_turned1 g1 (by omega)
  have hany : ((ofs (w.take (w.length - 1))).any fun c => !x.testBit c.toNat) = !(w.dropLast.all fun c => x.testBit c) := by
    rw [List.dropLast_eq_take, ofs, List.any_map, List.all_eq_not_any_not, Bool.not_not]
    rfl
  rw [hany] at h13
  refine sCall2 rfl call53 rfl rfl h13 ?_
  refine sNil (kSeqN ?_)
  refine cCond (p := (w.dropLast.all fun c => x.testBit c) = false) (by show Value.bool _ = Value.bool _; cases (w.dropLast.all fun c => x.testBit c) <;> rfl) (fun c0 => ?_) (fun c0 => ?_)
  ·
    refine cSeq ?_
    refine cRegion ?_
    refine sLd (v := nv x) A3 rfl g1 rfl ?_
    refine sAs (v := nv _) rfl ?_
    refine sNil (kSeqN ?_)
    refine cRet (kSeqR ?_)
    exact ⟨.inr rfl, _, rfl, by rw [turnM, c0]; rfl, e1⟩
  ·
    obtain ⟨b1, o1, p1, r1, cc, ee1, gg, x1⟩ := hw.ints.atN (by omega)
    cases ee1
    refine cSkip (kSeqN ?_)
    refine cSeq ?_
    refine cDraw rfl ?_
    refine sLd (v := nv x) A3 rfl g1 rfl ?_
    refine sMv (v := .slice _ _ _) rfl ?_
    refine sMv (v := nv _) rfl ?_
    refine sIx T29 S3 rfl rfl (by omega) ?_
    refine sLd (v := nv y) A3 rfl (e1.cells gg) (x1 _ y hy) ?_
    refine sBin rfl rfl (aInt_shl (a := 1) (by omega)) ?_
    rw [Nat.shiftLeft_eq, Nat.one_mul]
    refine sBin (a := x) (b := 2 ^ y) rfl rfl (aInt_xor ⟨by omega, by omega⟩) ?_
    refine sAs (v := nv _) rfl ?_
    refine sNil (kSeqN ?_)
    refine cRet ?_
    have c0' : (w.dropLast.all fun c => x.testBit c) = true := by simpa using c0
    exact ⟨.inr rfl, _, rfl, by rw [turnM, c0', if_pos rfl, hlast]; rfl, e1⟩

theorem okf31 : okF Tryz.prog H0 31 25 = true := by kernel_rfl
theorem spec_run {m : Mem} {N n x : Nat} {s : Value} {cs : Array Value} {Gs : List (Nat × List Nat)} (hC : GlobC m) (hG : OwnG N m s cs Gs) (hc : CircOk n Gs) (hx : x < 2 ^ n) : ∃ v m', ACalls Tryz.prog 31 #[.agg #[nv n, nv 0, s], nv x] m v m' ∧ (v = nv (runM Gs x) ∧ Ext m m') := by
  obtain ⟨q, cap, rfl⟩ := hG.1.len
  obtain ⟨h1, h10, hf, hall⟩ := hc
  refine wpF (args := [_, _]) mixed okf31 (fn := Tryz.f31) rfl rfl rfl (by simp) ?_
  refine cSeq ?_
  refine cRegion ?_
  refine sBox (v := .agg _) rfl ?_
  change wpOps _ _ _ _ _ (m.push (.cells true #[nv n, nv 0, .slice q Gs.length cap]))
  have e1 : Ext m (m.push (.cells true #[nv n, nv 0, .slice q Gs.length cap])) := .push _ _
  have g1 : Mem.get (m.push (.cells true #[nv n, nv 0, .slice q Gs.length cap])) m.size = .cells true #[nv n, nv 0, .slice q Gs.length cap] := gP rfl
  generalize m.push (.cells true #[nv n, nv 0, .slice q Gs.length cap]) = M at *
  refine sAs (v := nv 0) rfl ?_
  refine sNil (kSeqN ?_)
  refine cSeq ?_
  refine cSeq ?_
  refine cRegion ?_
  refine sFA F38_2 rfl ?_
  refine sLd (v := .slice q Gs.length cap) A36 rfl g1 rfl ?_
  refine sLen T36 rfl ?_
  refine sMv (v := nv 0) rfl ?_
  refine sNil (kSeqN ?_)
  refine cBlock ?_
  refine wpC_loop (fun k' ρ m' => ∃ i, k' = Gs.length - i ∧ i ≤ Gs.length ∧ Ext M m' ∧ Has ρ [(1, nv (runM (Gs.take i) x)), (8, .slice q Gs.length cap), (9, nv Gs.length), (10, nv i)]) ⟨0, rfl, by omega, .refl _, rfl, rfl, rfl, rfl, trivial⟩ ?_
  rintro k' ρ m' ⟨i, rfl, hi, X, hh⟩
  rw [hh.env]; clear hh
  replace e1 := e1.trans X
  refine cSeq ?_
  refine cRegion ?_
  refine sBin rfl rfl (aInt_lss) ?_
  refine sNil (kSeqN ?_)
  refine cSeq ?_   -- seq 4
  refine cCond rfl (fun c0 => ?_) (fun c0 => ?_)
  ·
    obtain ⟨g, hgi⟩ : ∃ g, Gs[i]? = some g := ⟨_, List.getElem?_eq_getElem c0⟩
    have hgo := hall g (List.mem_of_getElem? hgi)
    obtain ⟨b2, cp2, cc, ws, ee, gb, hcs, hex, hws⟩ := (hG.ext e1).gate hgi
    cases ee
    obtain ⟨qw, cw, rfl⟩ := hws.ints.lenN
    obtain ⟨r, b, r2, es, hh1, hh2, hh3⟩ := hC.ext e1
    obtain ⟨j, k, hh4⟩ := hh3 _ (kind_in hgo)
    have hrl : runM (Gs.take i) x < 2 ^ n := runM_lt hx fun g' hg' => hall g' (List.mem_of_mem_take hg')
    have hp10 : 2 ^ n ≤ 2 ^ 10 := Nat.pow_le_pow_right (by omega) h10
    refine cSkip (kSeqN ?_)
    refine cSeq ?_
    refine cBlock ?_
    refine cSeq ?_
    refine cRegion ?_
    refine sIx T36 S67 rfl rfl c0 ?_
    refine sLdA A67 S67 rfl gb (by omega) ?_
    rw [hex]
    refine sAlloc Z67 (by kernel_rfl) ?_
    refine sStNA S67 rfl rfl rfl rfl (by kernel_rfl) ?_
    have e2 : Ext m' (m'.push (.cells true #[nv g.1, .slice qw g.2.length cw, nv 0, nv 0])) := .push _ _
    have hm : Mem.get (m'.push (.cells true #[nv g.1, .slice qw g.2.length cw, nv 0, nv 0])) b = .map r2 es := by rw [e2.2 b (Mem.lt_of_live (by rw [hh2]; rfl)), hh2]
    refine sNil (kSeqN ?_)
    refine cRegion ?_
    refine sLd (v := .map (some b)) A107 rfl (e2.cells hh1) rfl ?_
    refine sFA F67_0 rfl ?_
    refine sLd (v := nv g.1) A3 rfl (gP rfl) rfl ?_
    refine sO (v := .agg #[nv k, .func (.func 125) #[] #[]]) (opF_read rfl (lookC hm hh4)) ?_
    refine sP (v := .func (.func 125) #[] #[]) rfl ?_
    refine sMv (v := nv _) rfl ?_
    refine sFA F67_1 rfl ?_
    refine sLd (v := .slice qw g.2.length cw) A29 rfl (gP rfl) rfl ?_
    obtain ⟨v22, m22, h22, rfl, e22⟩ := spec_turnedG (x := runM (Gs.take i) x) (hws.ext e2) (by have := hgo.kind; omega) (by have := hgo.kind; omega) (fun y hy => by have := hgo.lt y hy; omega) (by omega)
    refine sCall2 rfl call125 rfl rfl h22 ?_
    refine sAs (v := nv _) rfl ?_
    refine sNil (kBlkN (kSeqN ?_))
    refine cRegion ?_
    refine sBin rfl rfl (aInt_add (b := 1) (by omega)) ?_
    refine sMv (v := nv _) rfl ?_
    refine sNil (kSeqN ?_)
    refine ⟨_, ?_, i + 1, rfl, by omega, X.trans (e2.trans e22), by rw [runM_take hgi]; rfl, rfl, rfl, rfl, trivial⟩
    omega
  ·
    refine cExit (kSeqE (kSeqE (kBlkS (kSeqN ?_))))
    refine cSeq ?_
    refine cRegion ?_
    refine sMv (v := nv _) rfl ?_
    refine sAs (v := nv _) rfl ?_
    refine sNil (kSeqN ?_)
    refine cRet ?_
    obtain rfl : i = Gs.length := by omega
    rw [List.take_length]
    exact ⟨.inr rfl, _, rfl, rfl, e1⟩

end Go.AM

/-! ### Q4 -/
namespace Go.AM
open Go.Proofs
set_option maxRecDepth 100000
set_option linter.unusedVariables false
set_option linter.unusedSimpArgs false
theorem posM_take {l : List Nat} {i y : Nat} (h : l[i]? = some y) : posM (l.take (i + 1)) = posM (l.take i) ||| 2 ^ y := by
  rw [List.take_add_one, h]
  simp [posM, posFrom]

theorem resRs_cell2 {P : Program} {ρ : Env} {m : Mem} {a ty b a2 ty2 b2 : Nat} {r r2 : Bool} {c c2 : Array Value} {v v2 : Value} (ht : isAggT P ty = some false) (hx : ρ a = .pointer (some ⟨b, 0, none⟩)) (hb : Mem.get m b = .cells r c) (hc : c[0]? = some v)
    (ht2 : isAggT P ty2 = some false) (hx2 : ρ a2 = .pointer (some ⟨b2, 0, none⟩)) (hb2 : Mem.get m b2 = .cells r2 c2) (hc2 : c2[0]? = some v2) : resRs P ρ m [.cell a ty, .cell a2 ty2] = some [v, v2] := by
  have h1 := resRs_cell (a := a) (ty := ty) ht hx hb hc
  have h2 := resRs_cell (a := a2) (ty := ty2) ht2 hx2 hb2 hc2
  simp only [resRs] at h1 h2 ⊢
  cases e1 : resR P ρ m (.cell a ty) with
  | none => rw [e1] at h1; cases h1
  | some x =>
    cases e2 : resR P ρ m (.cell a2 ty2) with
    | none => rw [e2] at h2; cases h2
    | some y =>
      rw [e1] at h1; rw [e2] at h2
      cases h1; cases h2; rfl

theorem okf12 : okF Tryz.prog H0 12 24 = true := by kernel_rfl
theorem spec_Apply {m : Mem} {N n x : Nat} {s : Value} {cs : Array Value} {Gs : List (Nat × List Nat)} (hC : GlobC m) (hG : OwnG N m s cs Gs) (hc : CircOk n Gs) (hx : x < 2 ^ n) : ∃ v m', ACalls Tryz.prog 12 #[.agg #[nv n, nv 0, s], nv x] m v m' ∧ (v = .tuple #[nv (runM Gs x), nv 0] ∧ Ext m m') := by
  obtain ⟨q, cap, rfl⟩ := hG.1.len
  have h10 := hc.ten
  have hp10 : 2 ^ n ≤ 2 ^ 10 := Nat.pow_le_pow_right (by omega) h10
  refine wpF (args := [_, _]) mixed okf12 (fn := Tryz.f12) rfl rfl rfl (by simp) ?_
  refine cSeq ?_
  refine cRegion ?_
  refine sBox (v := .agg _) rfl ?_
  change wpOps _ _ _ _ _ (m.push (.cells true #[nv n, nv 0, .slice q Gs.length cap]))
  have e1 : Ext m (m.push (.cells true #[nv n, nv 0, .slice q Gs.length cap])) := .push _ _
  have g1 : Mem.get (m.push (.cells true #[nv n, nv 0, .slice q Gs.length cap])) m.size = .cells true #[nv n, nv 0, .slice q Gs.length cap] := gP rfl
  refine sAs (v := nv 0) rfl ?_
  refine sAs (v := nv 0) rfl ?_
  refine sNil (kSeqN ?_)
  refine cSeq ?_
  refine cSeq ?_
  refine cRegion ?_
  refine sLdAll A38 S38 rfl g1 rfl ?_
  obtain ⟨v8, m8, h8, rfl, e8⟩ := spec_Check8 (hC.ext e1) (hG.ext e1) hc
  refine sCall1 rfl call30 rfl h8 ?_
  replace g1 := e8.cells g1
  replace e1 := e1.trans e8
  refine sAs (v := nv _) rfl ?_
  refine sNil (kSeqN ?_)
  refine cSeq ?_
  refine cRegion ?_
  refine sMv (v := nv _) rfl ?_
  refine sBin (v := .bool false) (a := 0) (b := 0) rfl rfl (neqF rfl) ?_
  refine sNil (kSeqN ?_)
  refine cCondF rfl ?_
  refine cSkip (kSeqN ?_)
  refine cSeq ?_   -- seq 4
  refine cSeq ?_
  refine cRegion ?_
  refine sMv (v := nv _) rfl ?_
  refine sBin (v := .bool false) (a := x) (b := 0) rfl rfl (by rw [aInt_lss, decide_eq_false (by omega)]) ?_
  refine sMv (v := .bool _) rfl ?_
  refine sG rfl rfl ?_
  refine sMv (v := nv _) rfl ?_
  refine sG rfl rfl ?_
  refine sFA F38_0 rfl ?_
  refine sG rfl rfl ?_
  refine sLd (v := nv n) A3 rfl g1 rfl ?_
  refine sG rfl rfl ?_
  refine sBin rfl rfl (aInt_shl (a := 1) (by omega)) ?_
  rw [Nat.shiftLeft_eq, Nat.one_mul]
  refine sG rfl rfl ?_
  refine sBin (v := .bool false) (a := x) (b := 2 ^ n) rfl rfl (by rw [aInt_geq, decide_eq_false (by omega)]) ?_
  refine sP (v := .bool false) rfl ?_
  refine sNil (kSeqN ?_)
  refine cCondF rfl ?_
  refine cSkip (kSeqN ?_)
  refine cSeq ?_
  refine cRegion ?_
  refine sLdAll A38 S38 rfl g1 rfl ?_
  refine sMv (v := nv _) rfl ?_
  obtain ⟨v23, m23, h23, rfl, e23⟩ := spec_run (hC.ext e1) (hG.ext e1) hc hx
  refine sCall2 rfl call31 rfl rfl h23 ?_
  refine sAs (v := nv _) rfl ?_
  refine sAs (v := nv 0) rfl ?_
  refine sNil (kSeqN ?_)
  refine cRet ?_
  exact ⟨.inr rfl, _, rfl, rfl, e1.trans e23⟩

theorem okf61 : okF Tryz.prog H0 61 12 = true := by kernel_rfl
theorem spec_mask1 {m : Mem} {p n : Nat} {r : Bool} {a b : Value} {x : Int} (h : Mem.get m p = .cells r #[nv n, a, b]) : ACalls Tryz.prog 61 #[.int .i64 x, .pointer (some ⟨p, 0, none⟩)] m (.bool (decide (x < 0) || decide (Int.ofNat n ≤ x))) m := by
  refine ACalls.callee ?_
  refine wpF (args := [_, _]) mixed okf61 (fn := Tryz.f61) rfl rfl rfl (by simp) ?_
  refine cSeq ?_
  refine cRegion ?_
  refine sAs (v := .bool _) rfl ?_
  refine sNil (kSeqN ?_)
  refine cSeq ?_
  refine cRegion ?_
  refine sMv (v := .int _ _) rfl ?_
  refine sBinI (v := .bool (decide (x < 0))) (b := 0) rfl rfl aInt_lssI ?_
  refine sMv (v := .bool _) rfl ?_
  by_cases h1 : x < 0
  ·
    rw [decide_eq_true h1]
    refine sGno (q' := true) rfl rfl (by simp) ?_
    refine sGno (q' := true) rfl rfl (by simp) ?_
    refine sGno (q' := true) rfl rfl (by simp) ?_
    refine sGno (q' := true) rfl rfl (by simp) ?_
    refine sP (v := .bool _) rfl ?_
    refine sAs (v := .bool _) rfl ?_
    refine sNil (kSeqN ?_)
    refine cRet ?_
    exact ⟨.inr rfl, _, rfl, rfl, rfl⟩
  ·
    rw [decide_eq_false h1]
    refine sG rfl rfl ?_
    refine sMv (v := .int _ _) rfl ?_
    refine sG rfl rfl ?_
    refine sFA F38_0 rfl ?_
    refine sG rfl rfl ?_
    refine sLd (v := nv n) A3 rfl h rfl ?_
    refine sG rfl rfl ?_
    refine sBinI (v := .bool (decide (Int.ofNat n ≤ x))) rfl rfl aInt_geqI ?_
    refine sP (v := .bool _) rfl ?_
    refine sAs (v := .bool _) rfl ?_
    refine sNil (kSeqN ?_)
    refine cRet ?_
    exact ⟨.inr rfl, _, rfl, rfl, rfl⟩

theorem okf32 : okF Tryz.prog H0 32 35 = true := by kernel_rfl
theorem spec_mask {m : Mem} {N n : Nat} {s a : Value} {cs : Array Value} {Gs : List (Nat × List Nat)} {l : List Nat} (hC : GlobC m) (hG : OwnG N m s cs Gs) (hc : CircOk n Gs) (ha : IntsAt m a (ofs l)) (hlt : ∀ y ∈ l, y < n) (hnd : l.Nodup) : ∃ v m', ACalls Tryz.prog 32 #[.agg #[nv n, nv 0, s], a] m v m' ∧ (v = .tuple #[nv (posM l), nv 0] ∧ Ext m m') := by
  obtain ⟨q, cap, rfl⟩ := hG.1.len
  obtain ⟨qa, ca, rfl⟩ := ha.lenN
  have h10 := hc.ten
  have hll : l.length ≤ n := nodup_le hnd hlt
  refine wpF (args := [_, _]) mixed okf32 (fn := Tryz.f32) rfl rfl rfl (by simp) ?_
  refine cSeq ?_
  refine cRegion ?_
  refine sBox (v := .agg _) rfl ?_
  change wpOps _ _ _ _ _ (m.push (.cells true #[nv n, nv 0, .slice q Gs.length cap]))
  have e1 : Ext m (m.push (.cells true #[nv n, nv 0, .slice q Gs.length cap])) := .push _ _
  have g1 : Mem.get (m.push (.cells true #[nv n, nv 0, .slice q Gs.length cap])) m.size = .cells true #[nv n, nv 0, .slice q Gs.length cap] := gP rfl
  refine sAs (v := nv 0) rfl ?_
  refine sAs (v := nv 0) rfl ?_
  refine sNil (kSeqN ?_)
  refine cSeq ?_
  refine cSeq ?_
  refine cRegion ?_
  refine sLdAll A38 S38 rfl g1 rfl ?_
  obtain ⟨v8, m8, h8, rfl, e8⟩ := spec_Check8 (hC.ext e1) (hG.ext e1) hc
  refine sCall1 rfl call30 rfl h8 ?_
  replace g1 := e8.cells g1
  replace e1 := e1.trans e8
  refine sAs (v := nv _) rfl ?_
  refine sNil (kSeqN ?_)
  refine cSeq ?_
  refine cRegion ?_
  refine sMv (v := nv _) rfl ?_
  refine sBin (v := .bool false) (a := 0) (b := 0) rfl rfl (neqF rfl) ?_
  refine sNil (kSeqN ?_)
  refine cCondF rfl ?_
  refine cSkip (kSeqN ?_)
  refine cSeq ?_   -- seq 4
  refine cSeq ?_
  refine cRegion ?_
  refine sMv (v := .slice _ _ _) rfl ?_
  refine sMFc1 rfl ?_
  have h17 := spec_ContainsFunc (m := m8) (p := fun x => decide (x < 0) || decide (Int.ofNat n ≤ x)) (ha.ext e1) (by rw [ofs_length]; omega) call61 (cp := #[.pointer (some ⟨m.size, 0, none⟩)]) fun x _ => spec_mask1 g1
  have hany : ((ofs l).any fun x => decide (x < 0) || decide (Int.ofNat n ≤ x)) = false := by
    rw [Bool.eq_false_iff]
    intro h
    obtain ⟨u, hu, h2⟩ := List.any_eq_true.1 h
    obtain ⟨y, hy, rfl⟩ := List.mem_map.1 hu
    have := hlt y hy
    simp at h2; omega
  rw [hany] at h17
  refine sCall2 rfl call53 rfl rfl h17 ?_
  refine sNil (kSeqN ?_)
  refine cCondF rfl ?_
  refine cSkip (kSeqN ?_)
  refine cSeq ?_
  refine cRegion ?_
  refine sAs (v := nv 0) rfl ?_
  refine sNil (kSeqN ?_)
  refine cSeq ?_
  refine cSeq ?_
  refine cRegion ?_
  refine sMv (v := .slice _ _ _) rfl ?_
  refine sLen T29 rfl ?_
  refine sMv (v := nv 0) rfl ?_
  refine sNil (kSeqN ?_)
  refine cBlock ?_
  refine wpC_loop (fun k' ρ m' => ∃ i, k' = l.length - i ∧ i ≤ l.length ∧ m8 = m' ∧ Has ρ [(7, nv (posM (l.take i))), (18, .slice qa l.length ca), (19, nv l.length), (20, nv i)]) ⟨0, rfl, by omega, rfl, rfl, rfl, rfl, rfl, trivial⟩ ?_
  rintro k' ρ _ ⟨i, rfl, hi, rfl, hh⟩
  rw [hh.env]; clear hh
  refine cSeq ?_
  refine cRegion ?_
  refine sBin rfl rfl (aInt_lss) ?_
  refine sNil (kSeqN ?_)
  refine cSeq ?_   -- seq 10
  refine cCond rfl (fun c2 => ?_) (fun c2 => ?_)
  ·
    obtain ⟨b1, o1, p1, r1, cc, ee1, gg, x1⟩ := (ha.ext e1).atN (by omega)
    cases ee1
    have hy := hlt l[i] (List.getElem_mem c2)
    have hpl : posM (l.take i) < 2 ^ 10 := posM_lt fun y hy => by have := hlt y (List.mem_of_mem_take hy); omega
    have h2y : 2 ^ l[i] < 2 ^ 10 := Nat.pow_lt_pow_right (by omega) (by omega)
    have hsh := Nat.shiftRight_le (posM (l.take i)) l[i]
    have hni : ¬ l[i] ∈ l.take i := fun hm => by
      obtain ⟨j, hj, e⟩ := List.getElem_of_mem hm
      rw [List.length_take] at hj
      rw [List.getElem_take] at e
      have := (List.getElem_inj hnd).1 e
      omega
    have hbit : ¬ (posM (l.take i) >>> l[i] &&& 1 = 1) := fun h => by
      have := (bit_one _ _).1 h
      rw [posM_bit, decide_eq_true_eq] at this
      exact hni this
    refine cSkip (kSeqN ?_)
    refine cSeq ?_
    refine cBlock ?_
    refine cSeq ?_
    refine cRegion ?_
    refine sIx T29 S3 rfl rfl (by omega) ?_
    refine sLd (v := nv l[i]) A3 rfl gg (x1 i l[i] (by simp)) ?_
    refine sAs (v := nv _) rfl ?_
    refine sNil (kSeqN ?_)
    refine cSeq ?_   -- seq 13
    refine cSeq ?_
    refine cRegion ?_
    refine sMv (v := nv _) rfl ?_
    refine sMv (v := nv _) rfl ?_
    refine sBin (a := posM (l.take i)) (b := l[i]) rfl rfl (aInt_shr (by omega)) ?_
    refine sBin (b := 1) rfl rfl (aInt_and (by omega)) ?_
    refine sBin (v := .bool false) (b := 1) rfl rfl (by rw [aInt_eql, decide_eq_false hbit]) ?_
    refine sNil (kSeqN ?_)
    refine cCondF rfl ?_
    refine cSkip (kSeqN ?_)
    refine cRegion ?_
    refine sMv (v := nv _) rfl ?_
    refine sMv (v := nv _) rfl ?_
    refine sBin rfl rfl (aInt_shl (a := 1) (by omega)) ?_
    rw [Nat.shiftLeft_eq, Nat.one_mul]
    refine sBin (a := posM (l.take i)) (b := 2 ^ l[i]) rfl rfl (aInt_or ⟨by omega, by omega⟩) ?_
    refine sAs (v := nv _) rfl ?_
    refine sNil (kBlkN (kSeqN ?_))
    refine cRegion ?_
    refine sBin rfl rfl (aInt_add (b := 1) (by omega)) ?_
    refine sMv (v := nv _) rfl ?_
    refine sNil (kSeqN ?_)
    refine ⟨_, ?_, i + 1, rfl, by omega, rfl, by rw [posM_take (List.getElem?_eq_getElem c2)]; rfl, rfl, rfl, rfl, trivial⟩
    omega
  ·
    refine cExit (kSeqE (kSeqE (kBlkS (kSeqN ?_))))
    refine cSeq ?_
    refine cRegion ?_
    refine sMv (v := nv _) rfl ?_
    refine sAs (v := nv _) rfl ?_
    refine sAs (v := nv 0) rfl ?_
    refine sNil (kSeqN ?_)
    refine cRet ?_
    obtain rfl : i = l.length := by omega
    rw [List.take_length]
    exact ⟨.inr rfl, _, rfl, rfl, e1⟩

def H34 : Nat → List (Nat × Nat) := fun id => if id = 1 then [(1,8),(5,8),(8,0)] else []
theorem okf34 : okF Tryz.prog H34 34 17 = true := by kernel_rfl
theorem spec_Clean1 {m : Mem} {N n x p1 p2 mk : Nat} {r1 r2 : Bool} {s : Value} {cs : Array Value} {Gs : List (Nat × List Nat)} (hC : GlobC m) (hG : OwnG N m s cs Gs) (hc : CircOk n Gs) (hx : x < 2 ^ n) (g1 : Mem.get m p1 = .cells r1 #[nv mk]) (g2 : Mem.get m p2 = .cells r2 #[nv n, nv 0, s]) (hmk : mk < 2 ^ 10) (hcl : x &&& mk = 0 → runM Gs x &&& mk = 0) : ∃ v m', ACalls Tryz.prog 34 #[nv x, .pointer (some ⟨p1, 0, none⟩), .pointer (some ⟨p2, 0, none⟩)] m v m' ∧ (v = .bool false ∧ Ext m m') := by
  obtain ⟨q, cap, rfl⟩ := hG.1.len
  have h10 := hc.ten
  have hp10 : 2 ^ n ≤ 2 ^ 10 := Nat.pow_le_pow_right (by omega) h10
  have hrl := runM_lt hx hc.all
  refine wpF (args := [_, _, _]) mixed okf34 (fn := Tryz.f34) rfl rfl rfl (by simp) ?_
  refine cSeq ?_
  refine cRegion ?_
  refine sAs (v := .bool _) rfl ?_
  refine sNil (kSeqN ?_)
  refine cSeq ?_
  refine cDrawH (hs := [(1,8),(5,8),(8,0)]) rfl (by decide) ?_
  refine lStepO (sMv (v := nv _) rfl (sNil fun e0 hm0 => ?_))
  refine lStepLd (v := nv mk) A3 rfl g1 rfl fun e1 hm1 hv1 hr1 => ?_
  refine lStepO (sBin (a := x) (b := mk) rfl rfl (aInt_and ⟨by omega, by omega⟩) (sNil fun e2 hm2 => ?_))
  refine lStepO (sBin (v := .bool (decide (x &&& mk = 0))) (b := 0) rfl rfl aInt_eql (sNil fun e3 hm3 => ?_))
  refine lStepO (sMv (v := .bool _) rfl (sNil fun e4 hm4 => ?_))
  by_cases h1 : x &&& mk = 0
  ·
    rw [decide_eq_true h1]
    have h2 := hcl h1
    refine lG rfl rfl ?_
    refine lStepLdA A38 S38 rfl g2 rfl fun e5 hm5 hv5 hr5 => ?_
    refine lG rfl rfl ?_
    refine lStepO (sMv (v := nv _) rfl (sNil fun e6 hm6 => ?_))
    refine lG rfl rfl ?_
    obtain ⟨v12, m12, h12, rfl, ex12⟩ := spec_run hC hG hc hx
    refine lStepO (sCall2 rfl call31 rfl rfl h12 (sNil fun e7 hm7 => ?_))
    refine lG rfl rfl ?_
    refine lStepLd (v := nv mk) A3 rfl (ex12.cells g1) rfl fun e8 hm8 hv8 hr8 => ?_
    refine lG rfl rfl ?_
    refine lStepO (sBin (a := runM Gs x) (b := mk) rfl rfl (aInt_and ⟨by omega, by omega⟩) (sNil fun e9 hm9 => ?_))
    refine lG rfl rfl ?_
    refine lStepO (sBin (v := .bool false) (b := 0) rfl rfl (by rw [h2]; exact neqF rfl) (sNil fun e10 hm10 => ?_))
    refine lStepO (sP (v := .bool false) rfl (sNil fun e11 hm11 => ?_))
    refine lStepO (sAs (v := .bool _) rfl (sNil fun e12 hm12 => ?_))
    refine ⟨?_, (kSeqN ?_)⟩
    ·
      refine obl_atE (e := e1) (e' := e8) (by simp) (by rfl) (by simp) ((hr1 e8.m _ _ (by rw [hm8]; exact ex12.cells g1) (by rfl)).trans (congrArg some hv1.symm)) ?_
      refine obl_atE (e := e5) (e' := e8) (by simp) (by rfl) (by simp) ((hr5 e8.m _ (by rw [hm8]; exact ex12.cells g2)).trans (congrArg some hv5.symm)) ?_
      refine obl_atE (e := e8) (e' := e0) (by simp) (by rfl) (by simp) ((hr8 e0.m _ _ (by rw [hm0]; exact g1) (by rfl)).trans (congrArg some hv8.symm)) ?_
      trivial
    refine cRet ?_
    exact ⟨.inr rfl, _, rfl, rfl, ex12⟩
  ·
    rw [decide_eq_false h1]
    refine lGno (q' := false) rfl rfl (by simp) fun e5 hm5 hq5 => ?_
    refine lGno (q' := false) rfl rfl (by simp) fun e6 hm6 hq6 => ?_
    refine lGno (q' := false) rfl rfl (by simp) fun e7 hm7 hq7 => ?_
    refine lGno (q' := false) rfl rfl (by simp) fun e8 hm8 hq8 => ?_
    refine lGno (q' := false) rfl rfl (by simp) fun e9 hm9 hq9 => ?_
    refine lGno (q' := false) rfl rfl (by simp) fun e10 hm10 hq10 => ?_
    refine lStepO (sP (v := .bool false) rfl (sNil fun e11 hm11 => ?_))
    refine lStepO (sAs (v := .bool _) rfl (sNil fun e12 hm12 => ?_))
    refine ⟨?_, (kSeqN ?_)⟩
    ·
      refine obl_atE (e := e1) (e' := e8) (by simp) (by rfl) (by simp) ((hr1 e8.m _ _ (by rw [hm8]; exact g1) (by rfl)).trans (congrArg some hv1.symm)) ?_
      refine obl_no (e := e5) (by simp) (by rfl) rfl rfl hq5 (by simp) ?_
      refine obl_no (e := e8) (by simp) (by rfl) rfl rfl hq8 (by simp) ?_
      trivial
    refine cRet ?_
    exact ⟨.inr rfl, _, rfl, rfl, .refl _⟩

theorem okf62 : okF Tryz.prog H0 62 4 = true := by kernel_rfl
theorem spec_states {m : Mem} {n : Nat} : ∃ v m', ACalls Tryz.prog 62 #[nv n] m v m' ∧ (v = .func (.func 90) #[] #[.pointer (some ⟨m.size, 0, none⟩)] ∧ m.push (.cells true #[nv n]) = m') := by
  refine wpF (args := [_]) mixed okf62 (fn := Tryz.f62) rfl rfl rfl (by simp) ?_
  refine cSeq ?_
  refine cRegion ?_
  refine sBox (v := nv _) rfl ?_
  refine sAs rfl ?_
  refine sNil (kSeqN ?_)
  refine cSeq ?_
  refine cRegion ?_
  refine sMFc1 rfl ?_
  refine sAs rfl ?_
  refine sNil (kSeqN ?_)
  refine cRet ?_
  exact ⟨.inr rfl, _, rfl, rfl, rfl⟩

theorem okf90 : okF Tryz.prog H0 90 14 = true := by kernel_rfl
theorem spec_states1 {m : Mem} {lp p n : Nat} {J : Nat → Mem → Prop} (hn : n ≤ 10)
      (hview : ∀ i m', J i m' → ∃ r, Mem.get m' p = .cells r #[nv n])
      (hJ : ∀ i m', i < 2 ^ n → J i m' → ∃ m'', ARound Tryz.prog lp #[nv i] m' (.bool true) m'' ∧ J (i + 1) m'')
      (h0 : J 0 m) : ∃ v m', ACalls Tryz.prog 90 #[.func (.yield lp) #[] #[], .pointer (some ⟨p, 0, none⟩)] m v m' ∧ J (2 ^ n) m' := by
  obtain ⟨r, g1⟩ := hview 0 m h0
  have hp10 : 2 ^ n ≤ 2 ^ 10 := Nat.pow_le_pow_right (by omega) hn
  refine wpF (args := [_, _]) mixed okf90 (fn := Tryz.f90) rfl rfl rfl (by simp) ?_
  refine cSeq ?_
  refine cRegion ?_
  refine sLd (v := nv n) A3 rfl g1 rfl ?_
  refine sBin rfl rfl (aInt_shl (a := 1) (by omega)) ?_
  rw [Nat.shiftLeft_eq, Nat.one_mul]
  refine sMv (v := nv 0) rfl ?_
  refine sNil (kSeqN ?_)
  refine cBlock ?_
  refine wpC_loop (fun k' ρ m' => ∃ i, k' = 2 ^ n - i ∧ i ≤ 2 ^ n ∧ J i m' ∧ Has ρ [(0, .func (.yield lp) #[] #[]), (5, nv (2 ^ n)), (6, nv i)]) ⟨0, rfl, Nat.zero_le _, h0, rfl, rfl, rfl, trivial⟩ ?_
  clear g1
  rintro k' ρ m' ⟨i, rfl, hi, hJi, hh⟩
  rw [hh.env]; clear hh
  refine cSeq ?_
  refine cRegion ?_
  refine sBin rfl rfl (aInt_lss) ?_
  refine sNil (kSeqN ?_)
  refine cSeq ?_   -- seq 2
  refine cCond rfl (fun c0 => ?_) (fun c0 => ?_)
  ·
    refine cSkip (kSeqN ?_)
    refine cSeq ?_
    refine cBlock ?_
    refine cSeq ?_
    refine cRegion ?_
    refine sMv (v := nv _) rfl ?_
    refine sAs (v := nv _) rfl ?_
    refine sNil (kSeqN ?_)
    refine cSeq ?_
    refine cRegion ?_
    refine sMv (v := .func _ _ _) rfl ?_
    refine sMv (v := nv _) rfl ?_
    obtain ⟨m11, hR, hJ2⟩ := hJ i m' c0 hJi
    refine sYield1 rfl rfl hR ?_
    refine sP (v := .bool false) rfl ?_
    refine sNil (kSeqN ?_)
    refine cCondF rfl ?_
    refine cSkip (kBlkN (kSeqN ?_))
    refine cRegion ?_
    refine sBin rfl rfl (aInt_add (b := 1) (by omega)) ?_
    refine sMv (v := nv _) rfl ?_
    refine sNil (kSeqN ?_)
    refine ⟨_, ?_, i + 1, rfl, by omega, hJ2, rfl, rfl, rfl, trivial⟩
    omega
  ·
    refine cExit (kSeqE (kSeqE (kBlkS ?_)))
    obtain rfl : i = 2 ^ n := by omega
    exact ⟨.inl rfl, _, rfl, hJi⟩

theorem okf33 : okF Tryz.prog H0 33 15 = true := by kernel_rfl
theorem spec_found {m : Mem} {n : Nat} {c1 c2 : Value} (hn : n ≤ 10) (hso : ∀ x, x < 2 ^ n → ∀ m', Ext m m' → ∃ v m'', ACalls Tryz.prog 34 #[nv x, c1, c2] m' v m'' ∧ (v = .bool false ∧ Ext m' m'')) : ∃ v m', ACalls Tryz.prog 33 #[nv n, .func (.func 34) #[] #[c1, c2]] m v m' ∧ (v = .tuple #[nv 0, nv 6] ∧ Ext m m') := by
  refine wpF (args := [_, _]) mixed okf33 (fn := Tryz.f33) rfl rfl rfl (by simp) ?_
  refine cSeq ?_
  refine cRegion ?_
  refine sBox (v := .func (.func 34) #[] #[c1, c2]) rfl ?_
  change wpOps _ _ _ _ _ (m.push (.cells true #[.func (.func 34) #[] #[c1, c2]]))
  refine sAllocB (bl := m.size + 1) (by simp) Z3 (by kernel_rfl) ?_
  refine sAllocB (bl := m.size + 2) (by simp) Z32 (by kernel_rfl) ?_
  change wpOps _ _ _ _ _ (((m.push (.cells true #[.func (.func 34) #[] #[c1, c2]])).push (.cells true #[nv 0])).push (.cells true #[nv 0]))
  have e1 : Ext m (((m.push (.cells true #[.func (.func 34) #[] #[c1, c2]])).push (.cells true #[nv 0])).push (.cells true #[nv 0])) := ((Ext.push _ _).trans (.push _ _)).trans (.push _ _)
  have hz : (((m.push (.cells true #[.func (.func 34) #[] #[c1, c2]])).push (.cells true #[nv 0])).push (.cells true #[nv 0])).size = m.size + 3 := by simp
  have g3 : Mem.get (((m.push (.cells true #[.func (.func 34) #[] #[c1, c2]])).push (.cells true #[nv 0])).push (.cells true #[nv 0])) m.size = .cells true #[.func (.func 34) #[] #[c1, c2]] := by rw [gPn (by simp; omega), gPn (by simp), gP rfl]
  have g4 : Mem.get (((m.push (.cells true #[.func (.func 34) #[] #[c1, c2]])).push (.cells true #[nv 0])).push (.cells true #[nv 0])) (m.size + 1) = .cells true #[nv 0] := by rw [gPn (by simp), gP (by simp)]
  have g5 : Mem.get (((m.push (.cells true #[.func (.func 34) #[] #[c1, c2]])).push (.cells true #[nv 0])).push (.cells true #[nv 0])) (m.size + 2) = .cells true #[nv 0] := gP (by simp)
  generalize ((m.push (.cells true #[.func (.func 34) #[] #[c1, c2]])).push (.cells true #[nv 0])).push (.cells true #[nv 0]) = M at *
  refine sNil (kSeqN ?_)
  refine cScope ?_
  refine cSeq ?_
  refine cLabel (kSeqN ?_)
  refine cSeq ?_
  refine cSeq ?_
  refine cRegion ?_
  refine sMv (v := nv _) rfl ?_
  obtain ⟨v8, m8, h8, rfl, rfl⟩ := spec_states (m := M) (n := n)
  refine sCall1 rfl call62 rfl h8 ?_
  have e2 : Ext M (M.push (.cells true #[nv n])) := .push _ _
  have g8 : Mem.get (M.push (.cells true #[nv n])) M.size = .cells true #[nv n] := gP rfl
  refine sNil (kSeqN ?_)
  refine cBlock ?_
  refine cRangeJ (by kernel_rfl) mixed (by kernel_rfl) rfl call90 ?_
  intro R B hround
  have hJ : ∀ i m1, i < 2 ^ n → (Low (M.push (.cells true #[nv n])).size (M.push (.cells true #[nv n])) m1 ∧ Mem.get m1 (M.push (.cells true #[nv n])).size = .loop R) → ∃ m3, ARound Tryz.prog (M.push (.cells true #[nv n])).size #[nv i] m1 (.bool true) m3 ∧ (Low (M.push (.cells true #[nv n])).size (M.push (.cells true #[nv n])) m3 ∧ Mem.get m3 (M.push (.cells true #[nv n])).size = .loop R) := by
    rintro i m1 hi ⟨hlo, hlp⟩
    refine hround m1 _ _ hlp ?_
    have hlt := Mem.lt_of_live (show (Mem.get m1 (M.push (.cells true #[nv n])).size).live = true by rw [hlp]; rfl)
    generalize hlpe : (M.push (.cells true #[nv n])).size = lp at *
    have hlo2 : Low lp (M.push (.cells true #[nv n])) (m1.setIfInBounds lp (.loop B)) := hlo.trans (.set (Nat.le_refl _) _)
    have E1 : Ext (M.push (.cells true #[nv n])) (m1.setIfInBounds lp (.loop B)) := Low.to_ext (.refl _) hlo2 (by omega)
    refine cRegion ?_
    refine sAs (v := nv _) rfl ?_
    refine sNil ?_
    refine ⟨rfl, hlp, ?_⟩
    refine cBlock ?_
    refine cSeq ?_   -- seq 4
    refine cSeq ?_
    refine cRegion ?_
    refine sLd (v := .func (.func 34) #[] #[c1, c2]) A55 rfl ((e2.trans E1).cells g3) rfl ?_
    refine sMv (v := nv _) rfl ?_
    obtain ⟨v12, m12, h12, rfl, e12⟩ := hso i hi _ (e1.trans (e2.trans E1))
    refine sCall rfl call34 (by simpa [evR, updO] using h12) ?_
    refine sP (v := .bool true) rfl ?_
    refine sNil (kSeqN ?_)
    refine cCondT rfl ?_
    refine cExit (kSeqE (kBlkS ?_))
    refine ⟨rfl, ?_, (hlo2.trans_ext e12 (by simp; omega)).trans (.set (Nat.le_refl _) _), ?_⟩
    · rw [e12.2 lp (by simp; omega)]; exact gS rfl (by omega)
    · exact gS rfl (by have := e12.1; simp at this; omega)
  obtain ⟨v2, m2, h2, hlo, hlp⟩ := spec_states1 (m := (M.push (.cells true #[nv n])).push (.loop R)) (lp := (M.push (.cells true #[nv n])).size) (p := M.size) (n := n) (J := fun i m1 => Low (M.push (.cells true #[nv n])).size (M.push (.cells true #[nv n])) m1 ∧ Mem.get m1 (M.push (.cells true #[nv n])).size = .loop R) hn
    (fun i m' h => ⟨true, (Low.to_ext (.refl _) h.1 (Nat.le_refl _)).cells g8⟩) hJ ⟨.push _ (Nat.le_refl _) _, gP rfl⟩
  have E2 : Ext (M.push (.cells true #[nv n])) (m2.setIfInBounds (M.push (.cells true #[nv n])).size .dead) := Low.to_ext (.refl _) (hlo.trans (.set (Nat.le_refl _) _)) (Nat.le_refl _)
  replace g4 := (e2.trans E2).cells g4
  replace g5 := (e2.trans E2).cells g5
  refine ⟨v2, m2, h2, hlp, (kBlkN (kSeqN ?_))⟩
  refine cSeq ?_
  refine cRegion ?_
  refine sSt (v := nv 0) S3 rfl rfl g4 (by simp) rfl rfl ?_
  refine sSt (v := nv 6) S32 rfl rfl (by rw [gSn (by omega)]; exact g5) (by simp) rfl rfl ?_
  refine sNil (kSeqN ?_)
  refine cRet ?_
  have hzz : (M.push (.cells true #[nv n])).size = m.size + 4 := by simp [hz]
  have hz2 := E2.1
  refine ⟨.inr rfl, _, resRs_cell2 A3 rfl (by rw [gSn (by omega)]; exact gS rfl (by omega)) rfl A32 rfl (gS rfl (by simp only [Array.size_setIfInBounds] at hz2 ⊢; omega)) rfl, rfl, ?_⟩
  have e9 : Ext m (m2.setIfInBounds (M.push (.cells true #[nv n])).size .dead) := e1.trans (e2.trans E2)
  exact (e9.set (b := m.size + 1) (by omega) _).set (b := m.size + 2) (by omega) _

theorem okf13 : okF Tryz.prog H0 13 23 = true := by kernel_rfl
theorem spec_Clean {m : Mem} {N n : Nat} {s a : Value} {cs : Array Value} {Gs : List (Nat × List Nat)} {l : List Nat} (hC : GlobC m) (hG : OwnG N m s cs Gs) (hc : CircOk n Gs) (ha : IntsAt m a (ofs l)) (hlt : ∀ y ∈ l, y < n) (hnd : l.Nodup) (hcl : ∀ x, x < 2 ^ n → x &&& posM l = 0 → runM Gs x &&& posM l = 0) : ∃ v m', ACalls Tryz.prog 13 #[.agg #[nv n, nv 0, s], a] m v m' ∧ (v = .tuple #[nv 0, nv 6] ∧ Ext m m') := by
  obtain ⟨q, cap, rfl⟩ := hG.1.len
  obtain ⟨qa, ca, rfl⟩ := ha.lenN
  have h10 := hc.ten
  have hpl : posM l < 2 ^ 10 := posM_lt fun y hy => by have := hlt y hy; omega
  refine wpF (args := [_, _]) mixed okf13 (fn := Tryz.f13) rfl rfl rfl (by simp) ?_
  refine cSeq ?_
  refine cRegion ?_
  refine sBox (v := .agg _) rfl ?_
  change wpOps _ _ _ _ _ (m.push (.cells true #[nv n, nv 0, .slice q Gs.length cap]))
  have e1 : Ext m (m.push (.cells true #[nv n, nv 0, .slice q Gs.length cap])) := .push _ _
  have g1 : Mem.get (m.push (.cells true #[nv n, nv 0, .slice q Gs.length cap])) m.size = .cells true #[nv n, nv 0, .slice q Gs.length cap] := gP rfl
  refine sAs (v := nv 0) rfl ?_
  refine sAs (v := nv 0) rfl ?_
  refine sNil (kSeqN ?_)
  refine cSeq ?_
  refine cRegion ?_
  refine sLdAll A38 S38 rfl g1 rfl ?_
  refine sMv (v := .slice _ _ _) rfl ?_
  obtain ⟨v11, m11, h11, rfl, e11⟩ := spec_mask (hC.ext e1) (hG.ext e1) hc (ha.ext e1) hlt hnd
  refine sCall2 rfl call32 rfl rfl h11 ?_
  replace g1 := e11.cells g1
  replace e1 := e1.trans e11
  refine sMv (v := .tuple _) rfl ?_
  refine sP (v := nv _) rfl ?_   -- extract ['t8', '0']
  refine sP (v := nv _) rfl ?_   -- extract ['t8', '1']
  refine sAlloc Z3 (by kernel_rfl) ?_
  refine sStN (v := nv (posM l)) S3 rfl rfl rfl rfl rfl ?_
  have e2 : Ext m11 (m11.push (.cells true #[nv (posM l)])) := .push _ _
  have g2 : Mem.get (m11.push (.cells true #[nv (posM l)])) m11.size = .cells true #[nv (posM l)] := gP rfl
  replace g1 := e2.cells g1
  replace e1 := e1.trans e2
  refine sAs (v := nv _) rfl ?_
  refine sNil (kSeqN ?_)
  refine cSeq ?_   -- seq 2
  refine cSeq ?_
  refine cRegion ?_
  refine sMv (v := nv _) rfl ?_
  refine sBin (v := .bool false) (a := 0) (b := 0) rfl rfl (neqF rfl) ?_
  refine sNil (kSeqN ?_)
  refine cCondF rfl ?_
  refine cSkip (kSeqN ?_)
  refine cSeq ?_
  refine cRegion ?_
  refine sFA F38_0 rfl ?_
  refine sLd (v := nv n) A3 rfl g1 rfl ?_
  refine sMFc2 rfl rfl ?_
  obtain ⟨v20, m20, h20, rfl, e20⟩ := spec_found (m := m11.push (.cells true #[nv (posM l)])) (c1 := .pointer (some ⟨m11.size, 0, none⟩)) (c2 := .pointer (some ⟨m.size, 0, none⟩)) h10 fun x hx m' he => spec_Clean1 ((hC.ext e1).ext he) ((hG.ext e1).ext he) hc hx (he.cells g2) (he.cells g1) hpl (hcl x hx)
  refine sCall2 rfl call33 rfl rfl h20 ?_
  refine sP (v := nv 0) rfl ?_
  refine sP (v := nv 6) rfl ?_
  refine sAs (v := nv _) rfl ?_
  refine sAs (v := nv _) rfl ?_
  refine sNil (kSeqN ?_)
  refine cRet ?_
  exact ⟨.inr rfl, _, rfl, rfl, e1.trans e20⟩

end Go.AM

/-! ### Q5 -/
namespace Go.AM
set_option linter.unusedVariables false
set_option linter.unusedSimpArgs false
theorem gate_ok {N : List (List Nat)} (hN : Dag N) {n : Nat} (hn : n < N.length) : GateOk N.length (gateM N n) := by
  have hr := getDr hn
  have h2 := hN.two _ (List.mem_of_getElem? hr)
  have hl := hN.less n _ hr
  have hp := hN.rise _ (List.mem_of_getElem? hr)
  unfold gateM
  generalize N.getD n [] = r at *
  refine ⟨?_, fun w hw => ?_, ?_⟩
  · simp only [List.length_append, List.length_singleton]
    match r, h2 with
    | [], _ => exact .inl ⟨rfl, rfl⟩
    | [a], _ => exact .inr (.inl ⟨rfl, rfl⟩)
    | [a, b], _ => exact .inr (.inr ⟨rfl, rfl⟩)
  · rcases List.mem_append.1 hw with hw | hw
    · have := hl w hw; omega
    · rw [List.mem_singleton.1 hw]; exact hn
  · refine List.nodup_append.2 ⟨lt_nodup hp, by simp, fun a ha b hb e => ?_⟩
    rw [List.mem_singleton.1 hb] at e
    have := hl a ha
    omega
theorem circ_ok {N : List (List Nat)} (hN : Dag N) {ns : List Nat} (hn : ∀ y ∈ ns, y < N.length) (hl : ns.length ≤ 120) : CircOk N.length (circM N ns) :=
  ⟨hN.one, hN.ten, by rw [circM, List.length_map]; exact hl, fun g hg => by
    obtain ⟨y, hy, rfl⟩ := List.mem_map.1 hg
    exact gate_ok hN (hn y hy)⟩
theorem turn_gate {N : List (List Nat)} {n : Nat} (hn : n < N.length) (x : Nat) : turnM x (gateM N n).2 = if (N.getD n []).all (fun u => x.testBit u) then x ^^^ 2 ^ n else x := by
  unfold turnM gateM
  simp only [List.dropLast_concat, List.getLastD_concat]
/-- What the nodes compute from a state: those below n. -/
def valM (N : List (List Nat)) (x : Nat) : Nat → Nat
  | 0 => 0
  | n + 1 => valM N x n ||| (if (N.getD n []).all (fun k => (x ^^^ valM N x n).testBit k) then 2 ^ n else 0)
theorem valM_high (N : List (List Nat)) (x : Nat) : ∀ n i, n ≤ i → (valM N x n).testBit i = false
  | 0, i, _ => by simp [valM]
  | n + 1, i, h => by
    rw [valM, Nat.testBit_or, valM_high N x n i (by omega)]
    split
    · rw [Nat.testBit_two_pow, decide_eq_false (by omega)]; rfl
    · simp
theorem valM_low (N : List (List Nat)) (x : Nat) {i : Nat} : ∀ n, i < n → (valM N x n).testBit i = (valM N x (i + 1)).testBit i
  | 0, h => by omega
  | n + 1, h => by
    by_cases e : i = n
    · rw [e]
    · rw [← valM_low N x n (by omega)]
      rw [valM, Nat.testBit_or]
      have : (if (N.getD n []).all (fun k => (x ^^^ valM N x n).testBit k) then 2 ^ n else 0).testBit i = false := by
        split
        · rw [Nat.testBit_two_pow]; exact decide_eq_false (by omega)
        · simp
      rw [this, Bool.or_false]
theorem valM_bit {N : List (List Nat)} (hN : Dag N) (x : Nat) {n : Nat} (hn : n < N.length) : (valM N x N.length).testBit n = (N.getD n []).all fun k => (x ^^^ valM N x N.length).testBit k := by
  rw [valM_low N x _ hn, valM, Nat.testBit_or, valM_high N x n n (Nat.le_refl _), Bool.false_or]
  have hr := getDr hn
  have hl := hN.less n _ hr
  have e : (N.getD n []).all (fun k => (x ^^^ valM N x N.length).testBit k) = (N.getD n []).all fun k => (x ^^^ valM N x n).testBit k := by
    rw [Bool.eq_iff_iff, List.all_eq_true, List.all_eq_true]
    have hk : ∀ k ∈ N.getD n [], (x ^^^ valM N x N.length).testBit k = (x ^^^ valM N x n).testBit k := fun k hk => by
      have := hl k hk
      rw [Nat.testBit_xor, Nat.testBit_xor, valM_low N x _ (show k < N.length by omega), valM_low N x n this]
    exact ⟨fun h k hm => by rw [← hk k hm]; exact h k hm, fun h k hm => by rw [hk k hm]; exact h k hm⟩
  rw [e]
  split
  · rename_i h; rw [h, Nat.testBit_two_pow, decide_eq_true rfl]
  · rename_i h; rw [Nat.zero_testBit]; exact (Bool.eq_false_iff.2 h).symm
/-- What the circuit of a game makes of a state. -/
theorem run_game {N : List (List Nat)} (hN : Dag N) {l : List Nat} (hp : playE (needsM N) 0 (ofs l) = 0) (x : Nat) : runM (circM N l) x = x ^^^ (endX 0 l &&& valM N x N.length) := by
  have hlt : ∀ y ∈ l, y < N.length := fun y hy => by have := playE_lt hp y hy; rwa [needsM_length] at this
  have hcg : ∀ (i y : Nat), l[i]? = some y → (circM N l)[i]? = some (gateM N y) := fun i y h => by rw [circM, List.getElem?_map, h]; rfl
  have key : ∀ i, i ≤ l.length → runM ((circM N l).take i) x = x ^^^ (endX 0 (l.take i) &&& valM N x N.length) := by
    intro i
    induction i with
    | zero => intro _; show x = x ^^^ (0 &&& _); rw [Nat.zero_and, Nat.xor_zero]
    | succ i ih =>
      intro hi
      obtain ⟨y, hy⟩ : ∃ y, l[i]? = some y := ⟨_, List.getElem?_eq_getElem (by omega)⟩
      have hyn := hlt y (List.mem_of_getElem? hy)
      rw [runM_take (hcg i y hy), ih (by omega), turn_gate hyn, take_succ' hy, endX_snoc]
      have hm := (mayM_iff hyn _).1 (playE_may hp i y hy)
      have e : (N.getD y []).all (fun u => (x ^^^ (endX 0 (l.take i) &&& valM N x N.length)).testBit u) = (valM N x N.length).testBit y := by
        rw [valM_bit hN x hyn, Bool.eq_iff_iff, List.all_eq_true, List.all_eq_true]
        have hk : ∀ k ∈ N.getD y [], (x ^^^ (endX 0 (l.take i) &&& valM N x N.length)).testBit k = (x ^^^ valM N x N.length).testBit k := fun k hk => by
          rw [Nat.testBit_xor, Nat.testBit_and, hm k hk, Bool.true_and, Nat.testBit_xor]
        exact ⟨fun h k hmm => by rw [← hk k hmm]; exact h k hmm, fun h k hmm => by rw [hk k hmm]; exact h k hmm⟩
      rw [e]
      generalize valM N x N.length = V
      generalize endX 0 (l.take i) = p
      refine Nat.eq_of_testBit_eq fun j => ?_
      by_cases hj : y = j
      · subst hj
        cases hV : V.testBit y with
        | true => simp [Nat.testBit_xor, Nat.testBit_and, Nat.testBit_two_pow, hV]
        | false => simp [Nat.testBit_xor, Nat.testBit_and, Nat.testBit_two_pow, hV]
      · cases hV : V.testBit y with
        | true => simp [Nat.testBit_xor, Nat.testBit_and, Nat.testBit_two_pow, hj]
        | false => simp [Nat.testBit_xor, Nat.testBit_and, Nat.testBit_two_pow, hj]
  have := key l.length (Nat.le_refl _)
  rw [List.take_length] at this
  rw [← this, List.take_of_length_le]
  rw [circM, List.length_map]; exact Nat.le_refl _
theorem valM_zero {N : List (List Nat)} (hN : Dag N) : ∀ n, n < N.length → (valM N 0 N.length).testBit n = true := by
  intro n
  induction n using Nat.strongRecOn with
  | _ n ih =>
    intro hn
    rw [valM_bit hN 0 hn, List.all_eq_true]
    intro k hk
    have := hN.less n _ (getDr hn) k hk
    rw [Nat.zero_xor]
    exact ih k this (by omega)
theorem run_zero {N : List (List Nat)} (hN : Dag N) {l : List Nat} (hp : playE (needsM N) 0 (ofs l) = 0) : runM (circM N l) 0 = endX 0 l := by
  have hlt : ∀ y ∈ l, y < N.length := fun y hy => by have := playE_lt hp y hy; rwa [needsM_length] at this
  have hx := endX_lt hlt
  rw [run_game hN hp, Nat.zero_xor]
  refine Nat.eq_of_testBit_eq fun j => ?_
  rw [Nat.testBit_and]
  by_cases hj : j < N.length
  · rw [valM_zero hN j hj, Bool.and_true]
  · rw [Nat.testBit_lt_two_pow (Nat.lt_of_lt_of_le hx (Nat.pow_le_pow_right (by omega) (by omega)))]; rfl
/-- Clean of all that are no goals. -/
theorem run_clean {N : List (List Nat)} (hN : Dag N) {l g o : List Nat} (hp : playE (needsM N) 0 (ofs l) = 0) (he : endX 0 l = posM g) (ho : ∀ y ∈ o, y ∉ g) (x : Nat) (hx : x &&& posM o = 0) : runM (circM N l) x &&& posM o = 0 := by
  rw [run_game hN hp, he]
  refine Nat.eq_of_testBit_eq fun j => ?_
  have h1 := congrArg (·.testBit j) hx
  simp only [Nat.testBit_and, Nat.zero_testBit] at h1
  rw [Nat.testBit_and, Nat.testBit_xor, Nat.testBit_and, posM_bit, posM_bit, Nat.zero_testBit]
  rw [posM_bit] at h1
  by_cases hj : j ∈ o
  · rw [decide_eq_true hj, Bool.and_true] at h1
    rw [decide_eq_false (ho j hj), h1]; rfl
  · rw [decide_eq_false hj, Bool.and_false]
def inU (g : List Nat) (i : Nat) : List Nat := (List.range i).filter fun j => decide (j ∈ g)
def offU (g : List Nat) (i : Nat) : List Nat := (List.range i).filter fun j => !decide (j ∈ g)
theorem inU_succ (g : List Nat) (i : Nat) : inU g (i + 1) = inU g i ++ (if i ∈ g then [i] else []) := by
  rw [inU, List.range_succ, List.filter_append, inU]
  congr 1
  by_cases h : i ∈ g <;> simp [h]
theorem offU_succ (g : List Nat) (i : Nat) : offU g (i + 1) = offU g i ++ (if i ∈ g then [] else [i]) := by
  rw [offU, List.range_succ, List.filter_append, offU]
  congr 1
  by_cases h : i ∈ g <;> simp [h]
theorem inU_pos (g : List Nat) (i : Nat) : posM (inU g (i + 1)) = if i ∈ g then posM (inU g i) ||| 2 ^ i else posM (inU g i) := by
  rw [inU_succ]
  split
  · simp [posM, posFrom]
  · rw [List.append_nil]
theorem inU_lt (g : List Nat) (i : Nat) : posM (inU g i) < 2 ^ i := posM_lt fun y hy => List.mem_range.1 (List.mem_filter.1 hy).1
theorem inU_all {n : Nat} {g : List Nat} (h : ∀ y ∈ g, y < n) : posM (inU g n) = posM g := by
  refine Nat.eq_of_testBit_eq fun j => ?_
  rw [posM_bit, posM_bit]
  refine decide_eq_decide.2 ⟨fun h => of_decide_eq_true (List.mem_filter.1 h).2, fun hj => List.mem_filter.2 ⟨List.mem_range.2 (h j hj), decide_eq_true hj⟩⟩
theorem offU_len (g : List Nat) (i : Nat) : (offU g i).length ≤ i := by
  have := List.length_filter_le (fun j => !decide (j ∈ g)) (List.range i)
  rwa [List.length_range] at this
end Go.AM

/-! ### Q6 -/
namespace Go.AM
open Go.Proofs
set_option maxRecDepth 100000
set_option linter.unusedVariables false
set_option linter.unusedSimpArgs false

theorem low_of_x {M b : Nat} {m m' : Mem} (h : LowX m.size b m m') (hM : M ≤ m.size) (hb : M ≤ b) : Low M m m' := ⟨h.1, fun c hc => h.2 c (by omega) (by omega)⟩
theorem getD_el {l : List Nat} {i : Nat} (h : i < l.length) : l.getD i 0 = l[i] := by rw [List.getD_eq_getElem?_getD, List.getElem?_eq_getElem h]; rfl
theorem goals_len {n : Nat} {g : List Nat} (h : Goals n g) : g.length ≤ n := by
  have h1 := popc_posM h.rise
  have h2 := popc_le_of_lt (posM_lt h.lt)
  omega
theorem with_zero {G : List (List Nat)} {g : List Nat} (hD : Dag G) (hg : Goals G.length g) : withE (ofs2 G) (ofs g) = 0 := by
  have h0 := hg.pos
  rw [withE, if_pos hD.check, ofs2_length, goalsE, if_neg (by rw [ofs_length]; omega), if_neg, if_neg]
  · intro h
    obtain ⟨j, hj1, hj2⟩ := List.any_eq_true.1 h
    have hj := List.mem_range.1 hj1
    rw [ofs_length] at hj
    have h1 := of_decide_eq_true hj2
    have e : ∀ i, i < g.length → (ofs g).getD i 0 = Int.ofNat (g.getD i 0) := fun i hi => by simp [ofs, List.getD_eq_getElem?_getD, hi]
    rw [e _ (by omega), e _ (by omega)] at h1
    have h2 := List.pairwise_iff_getElem.1 hg.rise j (j + 1) (by omega) (by omega) (by omega)
    rw [getD_el (by omega), getD_el (by omega)] at h1
    have h3 := Int.ofNat_le.1 h1
    omega
  · intro h
    obtain ⟨u, hu, h2⟩ := List.any_eq_true.1 h
    obtain ⟨y, hy, rfl⟩ := List.mem_map.1 hu
    have h3 := of_decide_eq_true h2
    have := hg.lt y hy
    simp at h3; omega

def H3 : Nat → List (Nat × Nat) := fun id => if id = 4 then [(2,0)] else []
theorem okf3 : okF Tryz.prog H3 3 156 = true := by kernel_rfl
theorem spec_CircuitsLaw {m : Mem} {a b : Value} {l1 l2 : List Int} {pl : Bool} (hGl : GlobP m) (hC : GlobC m) (ha : BytesAt m a l1) (hb : BytesAt m b l2) : ∃ v m', ACalls Tryz.prog 3 #[a, b, .bool pl] m v m' ∧ (v = .bool true ∧ True) := by
  have hGl_0 := hGl
  have hC_0 := hC
  have hb_0 := hb
  obtain ⟨qa, ca, rfl⟩ := ha.len
  obtain ⟨qb, cb, rfl⟩ := hb.len
  have E : Ext m m := .refl _
  refine wpF (args := [_, _, _]) mixed okf3 (fn := Tryz.f3) rfl rfl rfl (by simp) ?_
  refine cSeq ?_
  refine cRegion ?_
  refine sAs (v := .bool _) rfl ?_
  refine sNil (kSeqN ?_)
  refine cSeq ?_
  refine cRegion ?_
  refine sMv (v := .slice _ _ _) rfl ?_
  obtain ⟨v17, m17, h_, b1, rfl, hb1, hS1, e_⟩ := spec_Of ha
  refine sCall1 rfl call4 rfl h_ ?_
  clear h_
  have x_ : Ext m m17 := e_
  replace E := E.trans x_
  replace hGl := hGl.ext x_
  replace hC := hC.ext x_
  replace hb := hb.ext x_
  clear x_
  clear e_
  refine sAs (v := .pointer _) rfl ?_
  refine sNil (kSeqN ?_)
  refine cSeq ?_
  refine cRegion ?_
  refine sMv (v := .pointer _) rfl ?_
  obtain ⟨v19, m19, h19, wD, csD, G, rfl, oD, hD, hG8, hS19, hX19⟩ := spec_Grown (most := 6) hS1 (by omega) hb1 (by omega) (by omega)
  obtain ⟨qD, cD, rfl⟩ := oD.1.len
  refine sCall2 rfl call5 rfl rfl h19 ?_
  have hlt1 := hS1.lt
  have e_ : Ext m m19 := E.lowx' hX19 E.1 hb1
  replace E := e_
  clear e_
  have hlD : (ofs2 G).length = G.length := ofs2_length G
  have hpl : (needsM G).length = G.length := needsM_length G
  have rD := oD.rows
  replace hGl := hGl_0.ext E
  replace hC := hC_0.ext E
  replace hb := hb_0.ext E
  refine sAlloc Z27 (by kernel_rfl) ?_
  refine sStNA S27 rfl rfl rfl rfl (by kernel_rfl) ?_
  have x_ : Ext m19 (m19.push (.cells true #[.slice qD (ofs2 G).length cD])) := .push _ _
  have oD2 := oD.ext x_
  have hS2 := hS19.ext hb1 x_
  replace E := E.trans x_
  have gD : Mem.get (m19.push (.cells true #[.slice qD (ofs2 G).length cD])) m19.size = .cells true #[.slice qD (ofs2 G).length cD] := gP rfl
  clear x_
  refine sNil (kSeqN ?_)
  refine cSeq ?_
  refine cRegion ?_
  refine sMv (v := .pointer _) rfl ?_
  refine sLdAll A27 S27 rfl gD rfl ?_
  have hz19 := hX19.1
  have hSt : Steady (m19.push (.cells true #[.slice qD (ofs2 G).length cD])) b1 (.slice qD (ofs2 G).length cD) (ofs2 G) := fun m' hx => (oD2.lowx hx (by omega)).rows
  obtain ⟨v22, m22, h22, g, o22, hg, hgm, hS22, hX22⟩ := spec_aims hS2 (by omega) hb1 hSt hD
  obtain ⟨qg, cg, rfl⟩ := o22.ints.lenN
  refine sCall2 rfl call6 rfl rfl h22 ?_
  have e_ : Ext m m22 := E.lowx' hX22 E.1 hb1
  replace E := e_
  clear e_
  have gD22 : Mem.get m22 m19.size = .cells true #[.slice qD (ofs2 G).length cD] := (hX22.2 _ (by simp) (by omega)).trans gD
  replace gD := gD22
  clear gD22
  have rD := (oD2.lowx hX22 (by omega)).rows
  have ia := o22.ints
  have hwith : withE (ofs2 G) (ofs g) = 0 := with_zero hD hg
  have hgl : (ofs g).length < 1000000 := by rw [ofs_length]; have := goals_len hg; have := hD.ten; omega
  have hlow := hD.lowP
  have h10 := hD.ten
  have h1 := hD.one
  have hpo := posM_lt hg.lt
  rw [← hpl] at hpo
  have hP10 : (needsM G).length ≤ 10 := by omega
  replace hGl := hGl_0.ext E
  replace hC := hC_0.ext E
  replace hb := hb_0.ext E
  have E_D := E
  have gD_D := gD
  have rD_D := rD
  have ia_D := ia
  have hGl_D := hGl
  have hC_D := hC
  have hb_D := hb
  have X_D : Ext m22 m22 := .refl _
  refine sAs (v := .slice _ _ _) rfl ?_
  refine sNil (kSeqN ?_)
  refine cSeq ?_
  refine cDrawH (hs := [(2,0)]) rfl (by decide) ?_
  refine lStepO (sMv (v := .slice _ _ _) rfl (sNil fun e0 hm0 => ?_))
  have gD0 := gD
  have zD := X_D.1
  obtain ⟨v32, m32, h_, b2, rfl, hb2, hS2b, e_⟩ := spec_Of hb
  refine lStepO (sCall1 rfl call4 rfl h_ (sNil fun e1 hm1 => ?_))
  clear h_
  have x_ : Ext m22 m32 := e_
  replace E := E.trans x_
  replace gD := x_.cells gD
  replace rD := rD.ext x_
  replace ia := ia.ext x_
  replace hGl := hGl.ext x_
  replace hC := hC.ext x_
  replace hb := hb.ext x_
  replace X_D := X_D.trans x_
  clear x_
  clear e_
  refine lStepLdA A27 S27 rfl gD rfl fun e2 hm2 hv2 hr2 => ?_
  have hSt2 : Steady m32 b2 (.slice qD (ofs2 G).length cD) (ofs2 G) := fun m' hx => rD_D.ext (X_D.lowx' hx X_D.1 (Nat.le_trans (by have := zD; omega) hb2))
  obtain ⟨v34, m34, h34, S, o34, hl40, hlS, hpS, _, hX34⟩ := spec_Played (long := 40) hS2b (by omega) hb2 hSt2 hD (by omega)
  obtain ⟨q34, c34, rfl⟩ := o34.ints.lenN
  refine lStepO (sCall3 rfl call7 rfl rfl rfl h34 (sNil fun e3 hm3 => ?_))
  have l34 := low_of_x (M := m22.size) hX34 X_D.1 (Nat.le_trans (by have := zD; omega) hb2)
  have e_D : Ext m22 m34 := Low.to_ext X_D (l34) (Nat.le_refl _)
  replace X_D := e_D
  clear e_D
  replace E := E_D.trans X_D
  replace gD := X_D.cells gD_D
  replace rD := rD_D.ext X_D
  replace ia := ia_D.ext X_D
  replace hGl := hGl_D.ext X_D
  replace hC := hC_D.ext X_D
  replace hb := hb_D.ext X_D
  have iS := o34.ints
  have hzS := gPlay_zero hD hpS (by omega)
  have hpoS : endX 0 S < 2 ^ G.length := endX_lt hlS
  refine lStepO (sAs (v := .slice _ _ _) rfl (sNil fun e4 hm4 => ?_))
  refine ⟨?_, (kSeqN ?_)⟩
  ·
    refine obl_atE (e := e2) (e' := e0) (by simp) (by rfl) (by simp) ((hr2 e0.m _ (by rw [hm0]; exact gD0)).trans (congrArg some hv2.symm)) ?_
    trivial
  refine cSeq ?_
  refine cRegion ?_
  refine sLdAll A27 S27 rfl gD rfl ?_
  refine sMv (v := .slice _ _ _) rfl ?_
  obtain ⟨v38, m38, h_, w38, rfl, o38, e_⟩ := spec_Plain rD ia hgl
  rw [hwith, ifOk_0 rfl] at o38
  rw [hwith] at h_
  have hPl := plain_ok hD hg
  generalize plainM (ofs2 G) (ofs g) = L1 at o38 hPl
  have iL1 := o38.ints
  obtain ⟨q38, c38, rfl⟩ := iL1.lenN
  refine sCall2 rfl call8 rfl rfl h_ ?_
  clear h_
  have x_ : Ext m34 m38 := e_
  replace E := E.trans x_
  replace gD := x_.cells gD
  replace rD := rD.ext x_
  replace ia := ia.ext x_
  replace hGl := hGl.ext x_
  replace hC := hC.ext x_
  replace hb := hb.ext x_
  replace X_D := X_D.trans x_
  replace iS := iS.ext x_
  clear x_
  clear e_
  refine sMv (v := .tuple _) rfl ?_
  refine sP (v := .slice _ _ _) rfl ?_   -- extract ['t35', '0']
  refine sP (v := nv _) rfl ?_   -- extract ['t35', '1']
  refine sAs (v := .slice _ _ _) rfl ?_
  refine sAs (v := nv _) rfl ?_
  refine sNil (kSeqN ?_)
  have hnew : ∀ {m' : Mem}, Ext m38 m' → Ext m38 m' := fun h => h
  refine cCut (fun ρ m' => ∃ L v, IntsAt m' v (ofs L) ∧ playE (needsM G) 0 (ofs L) = 0 ∧ endX 0 L = posM g ∧ L.length ≤ 120 ∧ Ext m38 m' ∧ Has ρ [(8, .pointer (some ⟨m19.size, 0, none⟩)), (9, .slice qg g.length cg), (10, .slice q34 S.length c34), (11, v), (12, nv 0)]) ?_ ?_
  ·
    refine cSeq ?_
    refine cRegion ?_
    refine sMv (v := .bool pl) rfl ?_
    refine sP (v := .bool (!pl)) rfl ?_
    refine sNil (kSeqN ?_)
    refine cCond (p := pl = false) (by show Value.bool _ = Value.bool _; cases pl <;> rfl) (fun c0 => ?_) (fun c0 => ?_)
    ·
      refine cRegion ?_
      refine sLdAll A27 S27 rfl gD rfl ?_
      refine sMv (v := .slice _ _ _) rfl ?_
      obtain ⟨v46, m46, h_, w46, rfl, o46, e_⟩ := spec_Shortest (k := 10) rD ia hgl
      have hs10 : isShort (needsM G) 10 (posM g) = true := isShort_all hlow hP10 hpo hP10
      have hshE : shortestE (ofs2 G) (ofs g) 10 = 0 := by
        rw [shortestE, if_pos hwith, natsG_ofs2, nats_ofs, if_neg (by omega), show (10 : Int).toNat = 10 from rfl, hs10]; rfl
      have hshL : shortestG (ofs2 G) (ofs g) 10 = shortM (needsM G) 10 (posM g) := by rw [shortestG, natsG_ofs2, nats_ofs]; rfl
      have X46 := e_
      rw [hshE, ifOk_0 rfl, hshL] at o46
      rw [hshE] at h_
      have hSh := short_ok hlow hpo hs10
      have hL2 := short_120 hlow (by omega) hpo hs10
      obtain ⟨q46, c46, rfl⟩ := o46.ints.lenN
      refine sCall3 rfl call9 rfl rfl rfl h_ ?_
      clear h_
      have x_ : Ext m38 m46 := e_
      replace E := E.trans x_
      replace gD := x_.cells gD
      replace rD := rD.ext x_
      replace ia := ia.ext x_
      replace hGl := hGl.ext x_
      replace hC := hC.ext x_
      replace hb := hb.ext x_
      replace X_D := X_D.trans x_
      replace iS := iS.ext x_
      replace iL1 := iL1.ext x_
      clear x_
      clear e_
      refine sMv (v := .tuple _) rfl ?_
      refine sP (v := .slice _ _ _) rfl ?_   -- extract ['t43', '0']
      refine sP (v := nv _) rfl ?_   -- extract ['t43', '1']
      refine sAs (v := .slice _ _ _) rfl ?_
      refine sAs (v := nv _) rfl ?_
      refine sNil (kSeqN ?_)
      exact ⟨shortM (needsM G) 10 (posM g), _, o46.ints, hSh.play, hSh.ends, by omega, X46, rfl, rfl, rfl, rfl, rfl, trivial⟩
    ·
      refine cSkip (kSeqN ?_)
      exact ⟨L1, _, iL1, hPl.play, hPl.ends, by have := hPl.long; omega, .refl _, rfl, rfl, rfl, rfl, rfl, trivial⟩
  clear iL1 hPl o38 hnew
  rintro ρ m' ⟨L, v, iL, hpL, heL, hlL, X, hh⟩
  obtain ⟨qL, cL, rfl⟩ := iL.lenN
  rw [hh.env]; clear hh
  have hzL := gPlay_zero hD hpL hlL
  have hltL : ∀ y ∈ L, y < G.length := fun y hy => by have := playE_lt hpL y hy; rwa [hpl] at this
  replace E := E.trans X
  replace gD := X.cells gD
  replace rD := rD.ext X
  replace ia := ia.ext X
  replace hGl := hGl.ext X
  replace hC := hC.ext X
  replace hb := hb.ext X
  replace X_D := X_D.trans X
  replace iS := iS.ext X
  refine cSeq ?_
  refine cRegion ?_
  refine sLdAll A27 S27 rfl gD rfl ?_
  refine sMv (v := .slice _ _ _) rfl ?_
  obtain ⟨v52, m52, h_, w52, cs52, rfl, o52, e_⟩ := spec_Circuit rD iL
  rw [hzL, ifOk_0 rfl, circG, natsG_ofs2, nats_ofs] at o52
  rw [hzL, ifOk_0 rfl] at h_
  obtain ⟨q52, c52, rfl⟩ := o52.1.len
  have hl52 : (circM G L).length = L.length := by simp [circM]
  rw [hl52] at h_
  refine sCall2 rfl call10 rfl rfl h_ ?_
  clear h_
  have x_ : Ext m' m52 := e_
  replace E := E.trans x_
  replace gD := x_.cells gD
  replace rD := rD.ext x_
  replace ia := ia.ext x_
  replace hGl := hGl.ext x_
  replace hC := hC.ext x_
  replace hb := hb.ext x_
  replace X_D := X_D.trans x_
  replace iS := iS.ext x_
  replace iL := iL.ext x_
  clear x_
  clear e_
  refine sMv (v := .tuple _) rfl ?_
  refine sP (v := .agg _) rfl ?_   -- extract ['t49', '0']
  refine sP (v := nv _) rfl ?_   -- extract ['t49', '1']
  refine sAlloc Z38 (by kernel_rfl) ?_
  refine sStNA S38 rfl rfl rfl rfl (by kernel_rfl) ?_
  have x_ : Ext m52 (m52.push (.cells true #[nv (ofs2 G).length, nv 0, .slice q52 L.length c52])) := .push _ _
  replace E := E.trans x_
  replace gD := x_.cells gD
  replace rD := rD.ext x_
  replace ia := ia.ext x_
  replace hGl := hGl.ext x_
  replace hC := hC.ext x_
  replace hb := hb.ext x_
  replace X_D := X_D.trans x_
  replace iS := iS.ext x_
  replace iL := iL.ext x_
  replace o52 := o52.ext x_
  clear x_
  have g52 : Mem.get (m52.push (.cells true #[nv (ofs2 G).length, nv 0, .slice q52 L.length c52])) m52.size = .cells true #[nv (ofs2 G).length, nv 0, .slice q52 L.length c52] := gP rfl
  refine sAs (v := nv _) rfl ?_
  refine sNil (kSeqN ?_)
  refine cSeq ?_
  refine cRegion ?_
  refine sLdAll A27 S27 rfl gD rfl ?_
  refine sMv (v := .slice _ _ _) rfl ?_
  obtain ⟨v58, m58, h_, w58, cs58, rfl, o58, e_⟩ := spec_Circuit rD iS
  rw [hzS, ifOk_0 rfl, circG, natsG_ofs2, nats_ofs] at o58
  rw [hzS, ifOk_0 rfl] at h_
  obtain ⟨q58, c58, rfl⟩ := o58.1.len
  have hl58 : (circM G S).length = S.length := by simp [circM]
  rw [hl58] at h_
  refine sCall2 rfl call10 rfl rfl h_ ?_
  clear h_
  have x_ : Ext (m52.push (.cells true #[nv (ofs2 G).length, nv 0, .slice q52 L.length c52])) m58 := e_
  replace E := E.trans x_
  replace gD := x_.cells gD
  replace rD := rD.ext x_
  replace ia := ia.ext x_
  replace hGl := hGl.ext x_
  replace hC := hC.ext x_
  replace hb := hb.ext x_
  replace X_D := X_D.trans x_
  replace iS := iS.ext x_
  replace iL := iL.ext x_
  replace o52 := o52.ext x_
  replace g52 := x_.cells g52
  clear x_
  clear e_
  refine sMv (v := .tuple _) rfl ?_
  refine sP (v := .agg _) rfl ?_   -- extract ['t55', '0']
  refine sP (v := nv _) rfl ?_   -- extract ['t55', '1']
  refine sAlloc Z38 (by kernel_rfl) ?_
  refine sStNA S38 rfl rfl rfl rfl (by kernel_rfl) ?_
  have x_ : Ext m58 (m58.push (.cells true #[nv (ofs2 G).length, nv 0, .slice q58 S.length c58])) := .push _ _
  replace E := E.trans x_
  replace gD := x_.cells gD
  replace rD := rD.ext x_
  replace ia := ia.ext x_
  replace hGl := hGl.ext x_
  replace hC := hC.ext x_
  replace hb := hb.ext x_
  replace X_D := X_D.trans x_
  replace iS := iS.ext x_
  replace iL := iL.ext x_
  replace o52 := o52.ext x_
  replace g52 := x_.cells g52
  replace o58 := o58.ext x_
  clear x_
  have g58 : Mem.get (m58.push (.cells true #[nv (ofs2 G).length, nv 0, .slice q58 S.length c58])) m58.size = .cells true #[nv (ofs2 G).length, nv 0, .slice q58 S.length c58] := gP rfl
  refine sAs (v := nv _) rfl ?_
  refine sNil (kSeqN ?_)
  refine cSeq ?_   -- seq 10
  refine cSeq ?_
  refine cRegion ?_
  refine sMv (v := nv _) rfl ?_
  refine sBin (v := .bool false) (a := 0) (b := 0) rfl rfl (neqF rfl) ?_
  refine sMv (v := .bool _) rfl ?_
  refine sG rfl rfl ?_
  refine sMv (v := nv _) rfl ?_
  refine sG rfl rfl ?_
  refine sBin (v := .bool false) (a := 0) (b := 0) rfl rfl (neqF rfl) ?_
  refine sP (v := .bool false) rfl ?_
  refine sMv (v := .bool _) rfl ?_
  refine sG rfl rfl ?_
  refine sMv (v := nv _) rfl ?_
  refine sG rfl rfl ?_
  refine sBin (v := .bool false) (a := 0) (b := 0) rfl rfl (neqF rfl) ?_
  refine sP (v := .bool false) rfl ?_
  refine sMv (v := .bool _) rfl ?_
  refine sG rfl rfl ?_
  refine sFA F38_0 rfl ?_
  refine sG rfl rfl ?_
  refine sLd (v := nv (ofs2 G).length) A3 rfl g52 rfl ?_
  refine sG rfl rfl ?_
  refine sFA F27_0 rfl ?_
  refine sG rfl rfl ?_
  refine sLd (v := .slice qD (ofs2 G).length cD) A25 rfl gD rfl ?_
  refine sG rfl rfl ?_
  refine sLen T25 rfl ?_
  refine sG rfl rfl ?_
  refine sBin (v := .bool false) (a := (ofs2 G).length) (b := (ofs2 G).length) rfl rfl (neqF rfl) ?_
  refine sP (v := .bool false) rfl ?_
  refine sNil (kSeqN ?_)
  refine cCondF rfl ?_
  refine cSkip (kSeqN ?_)
  refine cSeq ?_
  refine cRegion ?_
  refine sAs (v := nv 0) rfl ?_
  refine sNil (kSeqN ?_)
  refine cSeq ?_
  refine cRegion ?_
  refine sAs (v := .slice _ _ _) rfl ?_
  refine sNil (kSeqN ?_)
  refine cSeq ?_
  refine cSeq ?_
  refine cRegion ?_
  refine sFA F27_0 rfl ?_
  refine sLd (v := .slice qD (ofs2 G).length cD) A25 rfl gD rfl ?_
  refine sLen T25 rfl ?_
  refine sMv (v := nv 0) rfl ?_
  refine sNil (kSeqN ?_)
  refine cBlock ?_
  have hcoL := circ_ok hD hltL hlL
  have hcoS := circ_ok hD hlS (by omega : S.length ≤ 120)
  have gI0 := inU_lt g
  generalize hMM : (m58.push (.cells true #[nv (ofs2 G).length, nv 0, .slice q58 S.length c58])) = M at *
  refine wpC_loop (fun k ρ m'' => ∃ i v, k = (ofs2 G).length - i ∧ i ≤ (ofs2 G).length ∧ Low M.size M m'' ∧ OwnF M.size m'' v (ofs (offU g i)) ∧ Has ρ [(8, .pointer (some ⟨m19.size, 0, none⟩)), (9, .slice qg g.length cg), (10, .slice q34 S.length c34), (13, .pointer (some ⟨m52.size, 0, none⟩)), (15, .pointer (some ⟨m58.size, 0, none⟩)), (17, nv (posM (inU g i))), (18, v), (81, nv (ofs2 G).length), (82, nv i)]) ⟨0, _, rfl, by omega, .refl _ _, .nil _ _, rfl, rfl, rfl, rfl, rfl, rfl, rfl, rfl, rfl, trivial⟩ ?_
  rintro k ρ m'' ⟨i, v, rfl, hi, hLo, hO, hh⟩
  obtain ⟨qv, cv, rfl⟩ := hO.ints.lenN
  rw [hh.env]; clear hh
  have XL : Ext M m'' := Low.to_ext (.refl _) hLo (Nat.le_refl _)
  have hsz := hLo.1
  have hnl := offU_len g i
  replace E := E.trans XL
  replace gD := XL.cells gD
  replace rD := rD.ext XL
  replace ia := ia.ext XL
  replace hGl := hGl.ext XL
  replace hC := hC.ext XL
  replace hb := hb.ext XL
  replace X_D := X_D.trans XL
  replace iS := iS.ext XL
  replace iL := iL.ext XL
  replace o52 := o52.ext XL
  replace g52 := XL.cells g52
  replace o58 := o58.ext XL
  replace g58 := XL.cells g58
  refine cSeq ?_
  refine cRegion ?_
  refine sBin rfl rfl (aInt_lss) ?_
  refine sNil (kSeqN ?_)
  refine cSeq ?_   -- seq 17
  refine cCond rfl (fun c2 => ?_) (fun c2 => ?_)
  ·
    refine cSkip (kSeqN ?_)
    refine cSeq ?_
    refine cBlock ?_
    refine cSeq ?_
    refine cRegion ?_
    refine sMv (v := nv _) rfl ?_
    refine sAs (v := nv _) rfl ?_
    refine sNil (kSeqN ?_)
    refine cSeq ?_
    refine cRegion ?_
    refine sMv (v := .slice _ _ _) rfl ?_
    refine sMv (v := nv _) rfl ?_
    have h87 := spec_Contains ia (by rw [ofs_length] at hgl; omega) (x := i)
    refine sCall2 rfl call11 rfl rfl h87 ?_
    refine sNil (kSeqN ?_)
    refine cCond (p := i ∈ g) rfl (fun c3 => ?_) (fun c3 => ?_)
    ·
      refine cRegion ?_
      refine sMv (v := nv _) rfl ?_
      refine sMv (v := nv _) rfl ?_
      have h2i : 2 ^ i < 2 ^ 10 := Nat.pow_lt_pow_right (by omega) (by omega)
      have hpi := gI0 i
      refine sBin rfl rfl (aInt_shl (a := 1) (by omega)) ?_
      rw [Nat.shiftLeft_eq, Nat.one_mul]
      refine sBin (a := posM (inU g i)) (b := 2 ^ i) rfl rfl (aInt_or ⟨by omega, by omega⟩) ?_
      refine sAs (v := nv _) rfl ?_
      refine sNil (kBlkN (kSeqN ?_))
      refine cRegion ?_
      refine sBin rfl rfl (aInt_add (b := 1) (by omega)) ?_
      refine sMv (v := nv _) rfl ?_
      refine sNil (kSeqN ?_)
      refine ⟨_, ?_, i + 1, _, rfl, by omega, hLo, by rw [offU_succ, if_pos c3, List.append_nil]; exact hO, rfl, rfl, rfl, rfl, rfl, by rw [inU_pos, if_pos c3]; rfl, rfl, rfl, rfl, trivial⟩
      omega
    ·
      refine cRegion ?_
      refine sMv (v := .slice _ _ _) rfl ?_
      refine sMv (v := nv _) rfl ?_
      refine sBuildS T29 S3 Z3 (by decide) (by decide) (by decide) (by kernel_rfl) fill1 rfl ?_
      refine sApp App29 rfl rfl (N := M.size) (hO.ext (.push _ _)) one_ints (by simp; omega) (by simp; omega) fun v3 m3 hO3 hL3 => ?_
      have hI3 := hO3.ints
      obtain ⟨q3, cp3, rfl⟩ := hI3.len
      refine sAs (v := .slice _ _ _) rfl ?_
      refine sNil (kBlkN (kSeqN ?_))
      refine cRegion ?_
      refine sBin rfl rfl (aInt_add (b := 1) (by omega)) ?_
      refine sMv (v := nv _) rfl ?_
      refine sNil (kSeqN ?_)
      refine ⟨_, ?_, i + 1, _, rfl, by omega, hLo.trans ((Low.push _ hsz _).trans hL3), by rw [offU_succ, if_neg c3, ofs_append]; exact hO3, rfl, rfl, rfl, rfl, rfl, by rw [inU_pos, if_neg c3]; rfl, rfl, rfl, rfl, trivial⟩
      omega
  ·
    obtain rfl : i = G.length := by omega
    have hin := inU_all hg.lt
    rw [hin]
    have iO := hO.ints
    have hoG : ∀ y ∈ offU g G.length, y < G.length := fun y hy => List.mem_range.1 (List.mem_filter.1 hy).1
    have hoN : (offU g G.length).Nodup := lt_nodup (List.Pairwise.filter _ List.pairwise_lt_range)
    have hoF : ∀ y ∈ offU g G.length, y ∉ g := fun y hy => by simpa using (List.mem_filter.1 hy).2
    generalize offU g G.length = O at *
    refine cExit (kSeqE (kSeqE (kBlkS (kSeqN ?_))))
    refine cSeq ?_
    refine cRegion ?_
    refine sLdAll A38 S38 rfl g52 rfl ?_
    obtain ⟨v99, m99, h_, rfl, e_⟩ := spec_Apply (x := 0) hC o52 hcoL (Nat.two_pow_pos _)
    rw [run_zero hD hpL, heL, ← hlD, hl52] at h_
    refine sCall2 rfl call12 rfl rfl h_ ?_
    clear h_
    have x_ : Ext m'' m99 := e_
    replace E := E.trans x_
    replace gD := x_.cells gD
    replace rD := rD.ext x_
    replace ia := ia.ext x_
    replace hGl := hGl.ext x_
    replace hC := hC.ext x_
    replace hb := hb.ext x_
    replace X_D := X_D.trans x_
    replace iS := iS.ext x_
    replace iL := iL.ext x_
    replace o52 := o52.ext x_
    replace g52 := x_.cells g52
    replace o58 := o58.ext x_
    replace g58 := x_.cells g58
    replace iO := iO.ext x_
    clear x_
    clear e_
    refine sMv (v := .tuple _) rfl ?_
    refine sP (v := nv _) rfl ?_   -- extract ['t97', '0']
    refine sP (v := nv _) rfl ?_   -- extract ['t97', '1']
    refine sAs (v := nv _) rfl ?_
    refine sAs (v := nv _) rfl ?_
    refine sNil (kSeqN ?_)
    refine cSeq ?_
    refine cRegion ?_
    refine sLdAll A38 S38 rfl g52 rfl ?_
    refine sMv (v := .slice _ _ _) rfl ?_
    obtain ⟨v105, m105, h_, rfl, e_⟩ := spec_Clean hC o52 hcoL iO hoG hoN (fun x _ h0 => run_clean hD hpL heL hoF x h0)
    rw [← hlD, hl52] at h_
    refine sCall2 rfl call13 rfl rfl h_ ?_
    clear h_
    have x_ : Ext m99 m105 := e_
    replace E := E.trans x_
    replace gD := x_.cells gD
    replace rD := rD.ext x_
    replace ia := ia.ext x_
    replace hGl := hGl.ext x_
    replace hC := hC.ext x_
    replace hb := hb.ext x_
    replace X_D := X_D.trans x_
    replace iS := iS.ext x_
    replace iL := iL.ext x_
    replace o52 := o52.ext x_
    replace g52 := x_.cells g52
    replace o58 := o58.ext x_
    replace g58 := x_.cells g58
    replace iO := iO.ext x_
    clear x_
    clear e_
    refine sMv (v := .tuple _) rfl ?_
    refine sP (v := nv _) rfl ?_   -- extract ['t102', '0']
    refine sP (v := nv _) rfl ?_   -- extract ['t102', '1']
    refine sAs (v := nv _) rfl ?_
    refine sNil (kSeqN ?_)
    refine cSeq ?_
    refine cRegion ?_
    refine sLdAll A38 S38 rfl g58 rfl ?_
    obtain ⟨v110, m110, h_, rfl, e_⟩ := spec_Apply (x := 0) hC o58 hcoS (Nat.two_pow_pos _)
    rw [run_zero hD hpS, ← hlD, hl58] at h_
    refine sCall2 rfl call12 rfl rfl h_ ?_
    clear h_
    have x_ : Ext m105 m110 := e_
    replace E := E.trans x_
    replace gD := x_.cells gD
    replace rD := rD.ext x_
    replace ia := ia.ext x_
    replace hGl := hGl.ext x_
    replace hC := hC.ext x_
    replace hb := hb.ext x_
    replace X_D := X_D.trans x_
    replace iS := iS.ext x_
    replace iL := iL.ext x_
    replace o52 := o52.ext x_
    replace g52 := x_.cells g52
    replace o58 := o58.ext x_
    replace g58 := x_.cells g58
    replace iO := iO.ext x_
    clear x_
    clear e_
    refine sMv (v := .tuple _) rfl ?_
    refine sP (v := nv _) rfl ?_   -- extract ['t108', '0']
    refine sP (v := nv _) rfl ?_   -- extract ['t108', '1']
    refine sAs (v := nv _) rfl ?_
    refine sAs (v := nv _) rfl ?_
    refine sNil (kSeqN ?_)
    refine cSeq ?_
    refine cRegion ?_
    refine sLdAll A27 S27 rfl gD rfl ?_
    refine sMv (v := .slice _ _ _) rfl ?_
    obtain ⟨v116, m116, h_, w116, rfl, o116, e_⟩ := spec_Play rD iS
    rw [hzS, ifOk_0 rfl] at o116
    rw [hzS] at h_
    have i116 := o116.ints
    obtain ⟨q116, c116, rfl⟩ := i116.lenN
    refine sCall2 rfl call14 rfl rfl h_ ?_
    clear h_
    have x_ : Ext m110 m116 := e_
    replace E := E.trans x_
    replace gD := x_.cells gD
    replace rD := rD.ext x_
    replace ia := ia.ext x_
    replace hGl := hGl.ext x_
    replace hC := hC.ext x_
    replace hb := hb.ext x_
    replace X_D := X_D.trans x_
    replace iS := iS.ext x_
    replace iL := iL.ext x_
    replace o52 := o52.ext x_
    replace g52 := x_.cells g52
    replace o58 := o58.ext x_
    replace g58 := x_.cells g58
    replace iO := iO.ext x_
    clear x_
    clear e_
    refine sMv (v := .tuple _) rfl ?_
    refine sP (v := .slice _ _ _) rfl ?_   -- extract ['t113', '0']
    refine sP (v := nv _) rfl ?_   -- extract ['t113', '1']
    refine sAs (v := .slice _ _ _) rfl ?_
    refine sAs (v := nv _) rfl ?_
    refine sNil (kSeqN ?_)
    refine cSeq ?_
    refine cRegion ?_
    refine sMv (v := nv _) rfl ?_
    refine sBin (v := .bool true) (a := 0) (b := 0) rfl rfl (eqlT rfl) ?_
    refine sMv (v := .bool _) rfl ?_
    refine sG rfl rfl ?_
    refine sMv (v := nv _) rfl ?_
    refine sG rfl rfl ?_
    refine sMv (v := nv _) rfl ?_
    refine sG rfl rfl ?_
    refine sBin (v := .bool true) (a := (posM g)) (b := (posM g)) rfl rfl (eqlT rfl) ?_
    refine sP (v := .bool true) rfl ?_
    refine sMv (v := .bool _) rfl ?_
    refine sG rfl rfl ?_
    refine sMv (v := nv _) rfl ?_
    refine sG rfl rfl ?_
    refine sBin (v := .bool true) (a := 6) (b := 6) rfl rfl (eqlT rfl) ?_
    refine sP (v := .bool true) rfl ?_
    refine sMv (v := .bool _) rfl ?_
    refine sG rfl rfl ?_
    refine sMv (v := nv _) rfl ?_
    refine sG rfl rfl ?_
    refine sBin (v := .bool true) (a := 0) (b := 0) rfl rfl (eqlT rfl) ?_
    refine sP (v := .bool true) rfl ?_
    refine sMv (v := .bool _) rfl ?_
    refine sG rfl rfl ?_
    refine sMv (v := nv _) rfl ?_
    refine sG rfl rfl ?_
    refine sBin (v := .bool true) (a := 0) (b := 0) rfl rfl (eqlT rfl) ?_
    refine sP (v := .bool true) rfl ?_
    refine sMv (v := .bool _) rfl ?_
    refine sG rfl rfl ?_
    refine sMv (v := .slice _ _ _) rfl ?_
    refine sG rfl rfl ?_
    have hpl2 := playedL_length S
    refine sLen T29 rfl ?_
    refine sG rfl rfl ?_
    refine sBin (v := .bool true) (a := (playedL (ofs S)).length) (b := 0) rfl rfl (by rw [aInt_gtr, decide_eq_true (by omega)]) ?_
    refine sP (v := .bool true) rfl ?_
    refine sMv (v := .bool _) rfl ?_
    refine sG rfl rfl ?_
    refine sMv (v := nv _) rfl ?_
    refine sG rfl rfl ?_
    refine sMv (v := .slice _ _ _) rfl ?_
    refine sG rfl rfl ?_
    refine sMv (v := .slice _ _ _) rfl ?_
    refine sG rfl rfl ?_
    refine sLen T29 rfl ?_
    refine sG rfl rfl ?_
    refine sBin (v := nv S.length) rfl rfl (by rw [hpl2]; exact aInt_sub (a := S.length + 1) (b := 1) (by omega)) ?_
    refine sG rfl rfl ?_
    obtain ⟨bp, op_, pp, rp, cp, ep, gp, xp⟩ := i116.atN (show 0 < (playedL (ofs S)).length by omega)
    cases ep
    refine sIx T29 S3 rfl rfl (by omega) ?_
    refine sG rfl rfl ?_
    refine sLd (v := nv (endX 0 S)) A3 rfl gp (xp S.length _ (by rw [playedL_get (Nat.le_refl _), List.take_length])) ?_
    refine sG rfl rfl ?_
    refine sBin (v := .bool true) (a := (endX 0 S)) (b := (endX 0 S)) rfl rfl (eqlT rfl) ?_
    refine sP (v := .bool true) rfl ?_
    refine sMv (v := .bool _) rfl ?_
    refine sG rfl rfl ?_
    obtain ⟨v154, m154, h154, rfl, e154⟩ := spec_awake hGl
    refine sCall0 rfl call15 h154 ?_
    refine sP (v := .bool true) rfl ?_
    refine sAs (v := .bool _) rfl ?_
    refine sNil (kSeqN ?_)
    refine cRet ?_
    exact ⟨.inr rfl, _, rfl, rfl, trivial⟩

end Go.AM
