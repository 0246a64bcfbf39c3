/- Contracts of the reference (part 1). -/
import Derived.Test.YtgiidbomifmcaaaDoorBitsC
import Derived.Test.YtgiidbomifmcaaaDoorPlainB
import Derived.Test.YtgiidbomifmcaaaDoorFacts
set_option linter.unusedVariables false
set_option linter.unusedSimpArgs false
/-! ### E25 -/
namespace Go.AM
open Go.Proofs
set_option maxRecDepth 100000
set_option linter.unusedVariables false
set_option linter.unusedSimpArgs false
def atV : Option Nat → Value
  | none => .int .i64 (-1)
  | some a => nv a
theorem findM_end (l : List Nat) (c i : Nat) (h : l.length ≤ i) : findM l c i = none := by
  unfold findM
  rw [show l.length - i = 0 by omega]; rfl
theorem findM_step {l : List Nat} {c i : Nat} (h : i < l.length) : findM l c i = if (l.getD i 0).testBit c then some i else findM l c (i + 1) := by
  unfold findM
  rw [show l.length - i = (l.length - (i + 1)) + 1 by omega, List.range'_succ, List.find?_cons]
  cases (l.getD i 0).testBit c <;> rfl
def clearAt (s : List Nat) (u c k : Nat) : List Nat := (clearM s u c).take k ++ s.drop k
theorem clearAt_length {s : List Nat} {u c k : Nat} (h : k ≤ s.length) : (clearAt s u c k).length = s.length := by simp [clearAt, clearM_length]; omega
theorem clearAt_here {s : List Nat} {u c k : Nat} (h : k < s.length) : (clearAt s u c k)[k]? = some (s.getD k 0) := by
  unfold clearAt
  rw [List.getElem?_append_right (by simp [clearM_length]; omega), List.length_take, clearM_length, Nat.min_eq_left (by omega), Nat.sub_self, List.getElem?_drop, Nat.add_zero, List.getElem?_eq_getElem h, List.getD_eq_getElem?_getD, List.getElem?_eq_getElem h]; rfl
theorem clearAt_used {s : List Nat} {u c k : Nat} (h : k ≤ s.length) (hu : u < s.length) : (clearAt s u c k)[u]? = some (s.getD u 0) := by
  unfold clearAt
  have hcu := clearM_getD s u c u
  rw [if_neg (by simp)] at hcu
  by_cases hk : u < k
  · rw [List.getElem?_append_left (by rw [List.length_take, clearM_length]; omega), List.getElem?_take_of_lt hk, List.getElem?_eq_getElem (by rw [clearM_length]; exact hu), ← hcu, List.getD_eq_getElem?_getD, List.getElem?_eq_getElem (by rw [clearM_length]; exact hu)]; rfl
  · rw [List.getElem?_append_right (by rw [List.length_take, clearM_length]; omega), List.length_take, clearM_length, Nat.min_eq_left h, List.getElem?_drop, show k + (u - k) = u by omega, List.getElem?_eq_getElem hu, List.getD_eq_getElem?_getD, List.getElem?_eq_getElem hu]; rfl
theorem clearAt_next {s : List Nat} {u c k : Nat} (h : k < s.length) : clearAt s u c (k + 1) = (clearAt s u c k).set k ((clearM s u c).getD k 0) := by
  unfold clearAt
  rw [List.take_succ_eq_append_getElem (by rw [clearM_length]; exact h), List.set_append_right _ _ (by rw [List.length_take, clearM_length]; omega), List.append_assoc]
  congr 1
  rw [List.length_take, show k - min k (clearM s u c).length = 0 by rw [clearM_length]; omega, List.drop_eq_getElem_cons h, List.set_cons_zero, List.getD_eq_getElem?_getD, List.getElem?_eq_getElem (by rw [clearM_length]; exact h)]
  rfl
theorem clearAt_keep {s : List Nat} {u c k : Nat} (h : k < s.length) (he : (clearM s u c).getD k 0 = s.getD k 0) : clearAt s u c (k + 1) = clearAt s u c k := by
  rw [clearAt_next h, he]
  apply List.ext_getElem?
  intro j
  rw [List.getElem?_set]
  by_cases e : k = j
  · subst e
    rw [if_pos rfl, if_pos (by rw [clearAt_length (by omega)]; exact h), clearAt_here h]
  · rw [if_neg e]
theorem lssV {o : Option Nat} : aBin Tryd.prog .lss 3 (atV o) (nv 0) = some (.bool (decide (o = none))) := by
  cases o with
  | none => rfl
  | some a =>
    show aBin Tryd.prog .lss 3 (.int .i64 (Int.ofNat a)) (.int .i64 (Int.ofNat 0)) = _
    simp only [aBin]
    rw [if_neg (by simp), if_pos trivial, aInt_lss]; simp
theorem clearAt_zero (s : List Nat) (u c : Nat) : clearAt s u c 0 = s := by simp [clearAt]
theorem clearAt_last (s : List Nat) (u c : Nat) : clearAt s u c s.length = clearM s u c := by
  unfold clearAt
  rw [List.drop_length, List.append_nil, List.take_of_length_le (by rw [clearM_length]; omega)]
theorem getD_lt {l : List Nat} {n : Nat} (h : ∀ x ∈ l, x < 2 ^ n) (i : Nat) : l.getD i 0 < 2 ^ n := by
  by_cases hi : i < l.length
  · exact h _ (getD_mem hi)
  · rw [getD_out (by omega)]; exact Nat.two_pow_pos n
theorem swapM_lt {l : List Nat} {n u a : Nat} (hu : u < l.length) (ha : a < l.length) (h : ∀ x ∈ l, x < 2 ^ n) : ∀ x ∈ swapM l u a, x < 2 ^ n := fun x hx => ((swapM_span hu ha x).1 (.mem hx)).lt h
theorem clearM_lt {l : List Nat} {n u c : Nat} (h : ∀ x ∈ l, x < 2 ^ n) : ∀ x ∈ clearM l u c, x < 2 ^ n := fun x hx => ((clearM_span l u c x).1 (.mem hx)).lt h
theorem call104 : callable Tryd.prog 104 = true := by kernel_rfl

theorem okf104 : okF Tryd.prog H0 104 87 = true := by kernel_rfl
theorem spec_eliminated {m : Mem} {a : Value} {l : List Nat} {n : Nat} (ha : IntsAt m a (ofs l)) (hl : l.length ≤ 1000) (hx : ∀ x ∈ l, x < 2 ^ 62) (hn : n ≤ 62) : ∃ v m', ACalls Tryd.prog 104 #[a, nv n] m v m' ∧
      (∃ w, v = .tuple #[w, nv (elimM (l, 0) n).2] ∧ OwnF m.size m' w (ofs (elimM (l, 0) n).1) ∧ Ext m m') := by
  obtain ⟨q, cap, rfl⟩ := ha.lenN
  refine wpF (args := [_, _]) mixed okf104 (fn := Tryd.f104) rfl rfl rfl (by simp) ?_
  refine cSeq ?_
  refine cRegion ?_
  refine sAs (v := .slice _ _ _) rfl ?_
  refine sAs (v := nv 0) rfl ?_
  refine sNil (kSeqN ?_)
  refine cSeq ?_
  refine cRegion ?_
  refine sBuildS (c := #[]) T22 S3 Z3 (by decide) (by decide) (by decide) (by kernel_rfl) rfl rfl ?_
  refine sMv (v := .slice _ _ _) rfl ?_
  refine sApp App22 rfl rfl (N := m.size) (p := []) (.inr ⟨m.size, 0, #[], rfl, Nat.le_refl _, gP rfl, by simp, by simp, by simp⟩) (ha.ext (.push _ _)) (by simp) (by simp; omega) fun v3 m3 hO3 hL3 => ?_
  rw [List.nil_append] at hO3
  obtain ⟨q3, cp3, rfl⟩ := hO3.ints.lenN
  have hLm3 : Low m.size m m3 := (Low.push m.size (Nat.le_refl _) _).trans hL3
  refine sAs (v := .slice _ _ _) rfl ?_
  refine sNil (kSeqN ?_)
  refine cSeq ?_
  refine cRegion ?_
  refine sAs (v := nv 0) rfl ?_
  refine sNil (kSeqN ?_)
  refine cSeq ?_
  refine cSeq ?_
  refine cRegion ?_
  refine sMv (v := nv _) rfl ?_
  refine sBinI (v := .int .i64 (Int.ofNat n - 1)) rfl rfl (aInt_subI (b := 1) (by simp; omega)) ?_
  refine sAs (v := .int _ _) rfl ?_
  refine sNil (kSeqN ?_)
  refine cBlock ?_
  refine wpC_loop (fun k ρ m' => ∃ (j used : Nat) (T : List Nat), k = j ∧ j ≤ n ∧ used ≤ T.length ∧ T.length = l.length ∧ (∀ x ∈ T, x < 2 ^ 62) ∧ elimM (T, used) j = elimM (l, 0) n ∧ Low m.size m m' ∧ OwnF m.size m' (.slice q3 l.length cp3) (ofs T) ∧ Has ρ [(6, .slice q3 l.length cp3), (7, nv used), (8, .int .i64 (Int.ofNat j - 1))]) ⟨n, 0, l, rfl, Nat.le_refl _, Nat.zero_le _, rfl, hx, rfl, hLm3, hO3, rfl, rfl, rfl, trivial⟩ ?_
  rintro j ρ m' ⟨_, used, T, rfl, hj, hu, hT, hTx, hel, hLo, hO, hh⟩
  rw [hh.env]; clear hh
  refine cSeq ?_   -- seq 5
  refine cSeq ?_
  refine cRegion ?_
  refine sMv (v := .int _ _) rfl ?_
  refine sBinI (b := 0) rfl rfl aInt_geqI ?_
  refine sNil (kSeqN ?_)
  refine cCond rfl (fun c0 => ?_) (fun c0 => ?_)
  ·
    obtain ⟨c, rfl⟩ : ∃ i, j = i + 1 := ⟨j - 1, by simp at c0; omega⟩
    rw [show Int.ofNat (c + 1) - 1 = Int.ofNat c by simp]
    rw [elimM] at hel
    refine cSkip (kSeqN ?_)
    refine cSeq ?_
    refine cBlock ?_
    refine cSeq ?_
    refine cRegion ?_
    refine sAs (v := .int .i64 (-1)) rfl ?_
    refine sNil (kSeqN ?_)
    refine cSeq ?_
    refine cSeq ?_
    refine cRegion ?_
    refine sMv (v := .slice _ _ _) rfl ?_
    refine sLen T22 rfl ?_
    refine sBinI (a := Int.ofNat l.length) (v := .int .i64 (Int.ofNat l.length - 1)) rfl rfl (aInt_subI (b := 1) (by simp; omega)) ?_
    refine sAs (v := .int _ _) rfl ?_
    refine sNil (kSeqN ?_)
    refine cBlock ?_
    refine wpC_loop (fun k ρ m2 => ∃ i : Nat, k = i ∧ used ≤ i ∧ i ≤ T.length ∧ m2 = m' ∧ Has ρ [(6, .slice q3 l.length cp3), (7, nv used), (8, nv c), (9, atV (findM T c i)), (10, .int .i64 (Int.ofNat i - 1))]) ⟨T.length, rfl, hu, Nat.le_refl _, rfl, rfl, rfl, rfl, by rw [findM_end _ _ _ (Nat.le_refl _)]; rfl, by rw [hT]; rfl, trivial⟩ ?_
    rintro i ρ m2 ⟨_, rfl, hui, hiT, hm2, hh⟩
    obtain rfl := hm2.symm
    rw [hh.env]; clear hh
    refine cSeq ?_   -- seq 11
    refine cSeq ?_
    refine cRegion ?_
    refine sMv (v := .int _ _) rfl ?_
    refine sMv (v := nv _) rfl ?_
    refine sBinI (b := Int.ofNat used) rfl rfl aInt_geqI ?_
    refine sNil (kSeqN ?_)
    refine cCond (p := Int.ofNat used ≤ Int.ofNat i - 1) rfl (fun c1 => ?_) (fun c1 => ?_)
    ·
      have hui' : used < i := by have : (used : Int) ≤ (i : Int) - 1 := c1; omega
      obtain ⟨i, rfl⟩ : ∃ k, i = k + 1 := ⟨i - 1, by omega⟩
      rw [show Int.ofNat (i + 1) - 1 = Int.ofNat i by simp]
      obtain ⟨b1, cp1, c1', e1, hb1, g1, hsz1, x1, hset⟩ := hO.atN (by omega)
      rw [hT] at e1
      cases e1
      have hTi := hTx _ (List.getElem_mem (show i < T.length by omega))
      have hg : T.getD i 0 = T[i]'(by omega) := by rw [List.getD_eq_getElem?_getD, List.getElem?_eq_getElem (by omega)]; rfl
      have hsh := Nat.shiftRight_le (T[i]'(by omega)) c
      have hstep := findM_step (l := T) (c := c) (i := i) (by omega)
      rw [hg] at hstep
      refine cSkip (kSeqN ?_)
      refine cSeq ?_
      refine cBlock ?_
      refine cSeq ?_
      refine cRegion ?_
      refine sMv (v := .slice _ _ _) rfl ?_
      refine sMv (v := nv i) rfl ?_
      refine sIx T22 S3 rfl rfl (by omega) ?_
      refine sLd (v := nv (T[i]'(by omega))) A3 rfl g1 (x1 i _ (List.getElem?_eq_getElem (by omega))) ?_
      refine sMv (v := nv _) rfl ?_
      refine sBin rfl rfl (aInt_shr (by omega)) ?_
      refine sBin rfl rfl (aInt_and (b := 1) (by omega)) ?_
      refine sBin rfl rfl (aInt_eql (b := 1)) ?_
      rw [decide_eq_decide.2 (iff_of_eq (and_one _ c))]
      refine sNil (kSeqN ?_)
      refine cCond rfl (fun c2 => ?_) (fun c2 => ?_)
      ·
        refine cRegion ?_
        refine sMv (v := nv i) rfl ?_
        refine sAs (v := nv i) rfl ?_
        refine sNil (kBlkN (kSeqN ?_))
        refine cRegion ?_
        refine sMv (v := nv i) rfl ?_
        refine sBinI (v := .int .i64 (Int.ofNat i - 1)) rfl rfl (aInt_subI (b := 1) (by simp; omega)) ?_
        refine sAs (v := .int _ _) rfl ?_
        refine sNil (kSeqN ?_)
        refine ⟨i, by omega, i, rfl, by omega, by omega, rfl, rfl, rfl, rfl, by rw [hstep, if_pos c2]; rfl, rfl, trivial⟩
      ·
        refine cSkip (kBlkN (kSeqN ?_))
        refine cRegion ?_
        refine sMv (v := nv i) rfl ?_
        refine sBinI (v := .int .i64 (Int.ofNat i - 1)) rfl rfl (aInt_subI (b := 1) (by simp; omega)) ?_
        refine sAs (v := .int _ _) rfl ?_
        refine sNil (kSeqN ?_)
        refine ⟨i, by omega, i, rfl, by omega, by omega, rfl, rfl, rfl, rfl, by rw [hstep, if_neg c2]; rfl, rfl, trivial⟩
    ·
      obtain rfl : i = used := by have : ¬ (used : Int) ≤ (i : Int) - 1 := c1; omega
      refine cExit (kSeqE (kSeqE (kBlkS (kSeqN ?_))))
      refine cSeq ?_   -- seq 15
      refine cSeq ?_
      refine cRegion ?_
      refine sMv (v := atV (findM T c i)) rfl ?_
      refine sBinA (a := atV (findM T c i)) (b := nv 0) rfl rfl lssV ?_
      refine sNil (kSeqN ?_)
      refine cCond (p := findM T c i = none) rfl (fun c3 => ?_) (fun c3 => ?_)
      ·
        refine cExit (kSeqE (kBlkS (kSeqN ?_)))
        refine cRegion ?_
        refine sMv (v := nv c) rfl ?_
        refine sBinI (v := .int .i64 (Int.ofNat c - 1)) rfl rfl (aInt_subI (b := 1) (by simp; omega)) ?_
        refine sAs (v := .int _ _) rfl ?_
        refine sNil (kSeqN ?_)
        have he : elimStep (T, i) c = (T, i) := by unfold elimStep; rw [c3]
        rw [he] at hel
        exact ⟨c, by omega, c, i, T, rfl, by omega, hu, hT, hTx, hel, hLo, hO, rfl, rfl, rfl, trivial⟩
      ·
        obtain ⟨a, hf⟩ : ∃ a, findM T c i = some a := by
          cases hf : findM T c i with
          | none => exact absurd hf c3
          | some a => exact ⟨a, rfl⟩
        rw [hf]
        obtain ⟨ha1, ha2, ha3⟩ := findM_some hf
        have he : elimStep (T, i) c = (clearM (swapM T i a) i c, i + 1) := by unfold elimStep; rw [hf]
        rw [he] at hel
        obtain ⟨b1, cp1, c1', e1, hb1, g1, hsz1, x1, hset⟩ := hO.atN (by omega)
        rw [hT] at e1
        cases e1
        have hSl := swapM_length T i a
        have hSx := swapM_lt (u := i) (by omega) ha2 hTx
        refine cSkip (kSeqN ?_)
        refine cSeq ?_
        refine cDraw rfl ?_
        refine sMv (v := .slice _ _ _) rfl ?_
        refine sMv (v := nv _) rfl ?_
        refine sMv (v := .slice _ _ _) rfl ?_
        refine sMv (v := nv a) rfl ?_
        refine sMv (v := .slice _ _ _) rfl ?_
        refine sMv (v := nv a) rfl ?_
        refine sIx T22 S3 rfl rfl (by omega) ?_
        refine sLd (v := nv (T.getD a 0)) A3 rfl g1 (x1 a _ (by rw [List.getD_eq_getElem?_getD, List.getElem?_eq_getElem ha2]; rfl)) ?_
        refine sMv (v := .slice _ _ _) rfl ?_
        refine sMv (v := nv _) rfl ?_
        refine sIx T22 S3 rfl rfl (by omega) ?_
        refine sLd (v := nv (T.getD i 0)) A3 rfl g1 (x1 i _ (by rw [List.getD_eq_getElem?_getD, List.getElem?_eq_getElem (by omega)]; rfl)) ?_
        refine sIx T22 S3 rfl rfl (by omega) ?_
        refine sSt (v := nv (T.getD a 0)) S3 rfl rfl g1 (by omega) rfl rfl ?_
        have hO1 := hset i (T.getD a 0) (by omega)
        obtain ⟨b2, cp2, c2', e2, hb2, g2, hsz2, x2, hset2⟩ := hO1.atN (by rw [List.length_set]; omega)
        rw [List.length_set] at e2 hsz2
        rw [hT] at e2
        cases e2
        refine sIx T22 S3 rfl rfl (by omega) ?_
        refine sSt (v := nv (T.getD i 0)) S3 rfl rfl g2 (by omega) rfl rfl ?_
        have hO2 := hset2 a (T.getD i 0) (by rw [List.length_set]; exact ha2)
        rw [List.length_set, hT, show (T.set i (T.getD a 0)).set a (T.getD i 0) = swapM T i a from rfl] at hO2
        have hLo2 := (hLo.set' hb1 (.cells true (c1'.setIfInBounds (0 + i * 1) (nv (T.getD a 0))))).set' hb1 (.cells true (c2'.setIfInBounds (0 + a * 1) (nv (T.getD i 0))))
        refine sNil (kSeqN ?_)
        refine cSeq ?_
        refine cSeq ?_
        refine cRegion ?_
        refine sMv (v := .slice _ _ _) rfl ?_
        refine sLen T22 rfl ?_
        refine sMv (v := nv 0) rfl ?_
        refine sNil (kSeqN ?_)
        refine cBlock ?_
        refine wpC_loop (fun q ρ m2 => ∃ k, q = l.length - k ∧ k ≤ l.length ∧ Low m.size m m2 ∧ OwnF m.size m2 (.slice (some ⟨b1, 0, some 1⟩) l.length cp3) (ofs (clearAt (swapM T i a) i c k)) ∧ Has ρ [(6, .slice (some ⟨b1, 0, some 1⟩) l.length cp3), (7, nv i), (8, nv c), (55, nv l.length), (56, nv k)]) ⟨0, rfl, Nat.zero_le _, hLo2, by rw [clearAt_zero]; exact hO2, rfl, rfl, rfl, rfl, rfl, trivial⟩ ?_
        rintro q ρ m2 ⟨k, rfl, hk, hLo3, hO3', hh⟩
        rw [hh.env]; clear hh
        refine cSeq ?_
        refine cRegion ?_
        refine sBin rfl rfl (aInt_lss) ?_
        refine sNil (kSeqN ?_)
        refine cSeq ?_   -- seq 21
        refine cCond rfl (fun c4 => ?_) (fun c4 => ?_)
        ·
          have hcl := clearAt_length (s := swapM T i a) (u := i) (c := c) (k := k) (by omega)
          obtain ⟨b3, cp3', c3', e3, hb3, g3, hsz3, x3, hset3⟩ := hO3'.atN (by omega)
          rw [hcl, hSl, hT] at e3
          cases e3
          have hkl : k < (swapM T i a).length := by omega
          have hS1 := getD_lt hSx k
          have hS2 := getD_lt hSx i
          have hsh := Nat.shiftRight_le ((swapM T i a).getD k 0) c
          have hcm := clearM_getD (swapM T i a) i c k
          refine cSkip (kSeqN ?_)
          refine cSeq ?_
          refine cBlock ?_
          refine cSeq ?_
          refine cRegion ?_
          refine sMv (v := nv k) rfl ?_
          refine sAs (v := nv k) rfl ?_
          refine sNil (kSeqN ?_)
          refine cSeq ?_
          refine cRegion ?_
          refine sMv (v := nv _) rfl ?_
          refine sMv (v := nv _) rfl ?_
          refine sBin rfl rfl (aInt_neq) ?_
          refine sMv (v := .bool _) rfl ?_
          by_cases h1 : k ≠ i
          ·
            rw [decide_eq_true h1]
            refine sG rfl rfl ?_
            refine sMv (v := .slice _ _ _) rfl ?_
            refine sG rfl rfl ?_
            refine sMv (v := nv _) rfl ?_
            refine sG rfl rfl ?_
            refine sIx T22 S3 rfl rfl (by omega) ?_
            refine sG rfl rfl ?_
            refine sLd (v := nv ((swapM T i a).getD k 0)) A3 rfl g3 (x3 k _ (clearAt_here hkl)) ?_
            refine sG rfl rfl ?_
            refine sMv (v := nv _) rfl ?_
            refine sG rfl rfl ?_
            refine sBin rfl rfl (aInt_shr (by omega)) ?_
            refine sG rfl rfl ?_
            refine sBin rfl rfl (aInt_and (b := 1) (by omega)) ?_
            refine sG rfl rfl ?_
            refine sBin rfl rfl (aInt_eql (b := 1)) ?_
            rw [decide_eq_decide.2 (iff_of_eq (and_one _ c))]
            refine sP (v := .bool _) rfl ?_
            refine sNil (kSeqN ?_)
            refine cCond rfl (fun c5 => ?_) (fun c5 => ?_)
            ·
              refine cDraw rfl ?_
              refine sMv (v := .slice _ _ _) rfl ?_
              refine sMv (v := nv _) rfl ?_
              refine sIx T22 S3 rfl rfl (by omega) ?_
              refine sLd (v := nv ((swapM T i a).getD k 0)) A3 rfl g3 (x3 k _ (clearAt_here hkl)) ?_
              refine sMv (v := .slice _ _ _) rfl ?_
              refine sMv (v := nv _) rfl ?_
              refine sIx T22 S3 rfl rfl (by omega) ?_
              refine sLd (v := nv ((swapM T i a).getD i 0)) A3 rfl g3 (x3 i _ (clearAt_used (by omega) (by omega))) ?_
              refine sBin rfl rfl (aInt_xor (by omega)) ?_
              refine sIx T22 S3 rfl rfl (by omega) ?_
              refine sSt (v := nv _) S3 rfl rfl g3 (by omega) rfl rfl ?_
              have hO4 := hset3 k ((swapM T i a).getD k 0 ^^^ (swapM T i a).getD i 0) (by omega)
              rw [if_pos ⟨h1, c5⟩] at hcm
              rw [← hcm, ← clearAt_next hkl, hcl, hSl, hT] at hO4
              refine sNil (kBlkN (kSeqN ?_))
              refine cRegion ?_
              refine sBin rfl rfl (aInt_add (b := 1) (by omega)) ?_
              refine sMv (v := nv _) rfl ?_
              refine sNil (kSeqN ?_)
              refine ⟨_, ?_, k + 1, rfl, by omega, hLo3.set' hb3 _, by rw [← hcm]; exact hO4, rfl, rfl, rfl, rfl, rfl, trivial⟩
              omega
            ·
              refine cSkip (kBlkN (kSeqN ?_))
              refine cRegion ?_
              refine sBin rfl rfl (aInt_add (b := 1) (by omega)) ?_
              refine sMv (v := nv _) rfl ?_
              refine sNil (kSeqN ?_)
              rw [if_neg (fun h => c5 h.2)] at hcm
              refine ⟨_, ?_, k + 1, rfl, by omega, hLo3, by rw [clearAt_keep hkl hcm]; exact hO3', rfl, rfl, rfl, rfl, rfl, trivial⟩
              omega
          ·
            rw [decide_eq_false h1]
            refine sGno (q' := false) rfl rfl (by simp) ?_
            refine sGno (q' := false) rfl rfl (by simp) ?_
            refine sGno (q' := false) rfl rfl (by simp) ?_
            refine sGno (q' := false) rfl rfl (by simp) ?_
            refine sGno (q' := false) rfl rfl (by simp) ?_
            refine sGno (q' := false) rfl rfl (by simp) ?_
            refine sGno (q' := false) rfl rfl (by simp) ?_
            refine sGno (q' := false) rfl rfl (by simp) ?_
            refine sP (v := .bool _) rfl ?_
            refine sNil (kSeqN ?_)
            refine cCondF rfl ?_
            refine cSkip (kBlkN (kSeqN ?_))
            refine cRegion ?_
            refine sBin rfl rfl (aInt_add (b := 1) (by omega)) ?_
            refine sMv (v := nv _) rfl ?_
            refine sNil (kSeqN ?_)
            rw [if_neg (fun h => h1 h.1)] at hcm
            refine ⟨_, ?_, k + 1, rfl, by omega, hLo3, by rw [clearAt_keep hkl hcm]; exact hO3', rfl, rfl, rfl, rfl, rfl, trivial⟩
            omega
        ·
          obtain rfl : k = (swapM T i a).length := by omega
          rw [clearAt_last] at hO3'
          refine cExit (kSeqE (kSeqE (kBlkS (kSeqN ?_))))
          refine cRegion ?_
          refine sMv (v := nv _) rfl ?_
          refine sBin rfl rfl (aInt_add (b := 1) (by omega)) ?_
          refine sAs (v := nv _) rfl ?_
          refine sNil (kBlkN (kSeqN ?_))
          refine cRegion ?_
          refine sMv (v := nv c) rfl ?_
          refine sBinI (v := .int .i64 (Int.ofNat c - 1)) rfl rfl (aInt_subI (b := 1) (by simp; omega)) ?_
          refine sAs (v := .int _ _) rfl ?_
          refine sNil (kSeqN ?_)
          exact ⟨c, by omega, c, i + 1, clearM (swapM T i a) i c, rfl, by omega, by rw [clearM_length]; omega, by rw [clearM_length]; omega, clearM_lt hSx, hel, hLo3, hO3', rfl, rfl, rfl, trivial⟩
  ·
    obtain rfl : j = 0 := by simp at c0; omega
    rw [elimM] at hel
    refine cExit (kSeqE (kSeqE (kBlkS (kSeqN ?_))))
    refine cSeq ?_
    refine cRegion ?_
    refine sMv (v := .slice _ _ _) rfl ?_
    refine sMv (v := nv _) rfl ?_
    refine sAs (v := .slice _ _ _) rfl ?_
    refine sAs (v := nv _) rfl ?_
    refine sNil (kSeqN ?_)
    refine cRet ?_
    refine ⟨.inr rfl, _, rfl, _, by rw [← hel]; rfl, by rw [← hel]; exact hO, hLo⟩

end Go.AM

/-! ### E26 -/
namespace Go.AM
open Go.Proofs
set_option maxRecDepth 100000
set_option linter.unusedVariables false
set_option linter.unusedSimpArgs false
theorem own_take {N : Nat} {m : Mem} {v : Value} {l : List Nat} {k : Nat} (h : OwnF N m v (ofs l)) (hk : k ≤ l.length) : ∃ v', aSlice Tryd.prog m 22 v none (some (nv k)) none = some v' ∧ OwnF N m v' (ofs (l.take k)) := by
  rcases h with ⟨h1, rfl⟩ | ⟨b, cap, c, rfl, h2, h3, h4, h5, h6⟩
  · have h0 : l = [] := by
      cases l with
      | nil => rfl
      | cons a r => simp [ofs] at h1
    subst h0
    obtain rfl : k = 0 := by simpa using hk
    exact ⟨.slice none 0 0, by kernel_rfl, .nil _ _⟩
  · rw [ofs_length] at h4
    refine ⟨_, aSlice_hi T22 S3 (by omega), .inr ⟨b, cap, c, by rw [ofs_length, List.length_take, Nat.min_eq_left hk], h2, h3, by rw [ofs_length, List.length_take]; omega, h5, fun i x hi => h6 i x ?_⟩⟩
    simp only [ofs, List.getElem?_map] at hi ⊢
    by_cases hik : i < k
    · rw [List.getElem?_take_of_lt hik] at hi; exact hi
    · rw [List.getElem?_eq_none (by rw [List.length_take]; omega)] at hi; cases hi
theorem sTake {ρ : Env} {m : Mem} {K : Env → Mem → Prop} {ops : Array Oper} {l : List Oper} {d : Option Nat} {ty : TypeId} {pos : String} {af : Array Edge} {x i : Operand} {N k : Nat} {v : Value} {r : List Nat}
    (hx : evR ρ x = v) (hi : evR ρ i = nv k) (h : OwnF N m v (ofs r)) (hk : k ≤ r.length) (hK : ∀ v', OwnF N m v' (ofs (r.take k)) → wpOps Tryd.prog ops K l (updO ρ d v') m) : wpOps Tryd.prog ops K (⟨d, .slice 22 x none (some i) none, ty, pos, af, none⟩ :: l) ρ m := by
  obtain ⟨v', h1, h2⟩ := own_take h hk
  refine sO (opF_read rfl ?_) (hK v' h2)
  simp only [aRead, hx, Option.map_some, hi, Option.map_none]
  exact h1
theorem call80 : callable Tryd.prog 80 = true := by kernel_rfl
theorem call94 : callable Tryd.prog 94 = true := by kernel_rfl
theorem call95 : callable Tryd.prog 95 = true := by kernel_rfl
theorem lead_nv {x : Nat} (h : x ≠ 0) : Value.int .i64 ((blen x : Int) - 1) = nv (blen x - 1) := by
  have := blen_pos_iff.2 h
  congr 1; simp; omega
theorem elim_used_le (l : List Nat) (n : Nat) : (elimM (l, 0) n).2 ≤ (elimM (l, 0) n).1.length := by
  obtain ⟨ps, h⟩ := elim_all l n
  exact h.le

theorem okf80 : okF Tryd.prog H0 80 16 = true := by kernel_rfl
theorem spec_refReduced {m : Mem} {a : Value} {l : List Nat} {n : Nat} (ha : IntsAt m a (ofs l)) (hl : l.length ≤ 1000) (hx : ∀ x ∈ l, x < 2 ^ 62) (hn : n ≤ 62) : ∃ v m', ACalls Tryd.prog 80 #[a, nv n] m v m' ∧ (OwnF m.size m' v (ofs (refRedM l n)) ∧ Ext m m') := by
  obtain ⟨v10, m10, h10, w10, rfl, o10, e10⟩ := spec_eliminated ha hl hx hn
  obtain ⟨q, cap, rfl⟩ := ha.lenN
  obtain ⟨qw, cw, rfl⟩ := o10.ints.lenN
  refine wpF (args := [_, _]) mixed okf80 (fn := Tryd.f80) rfl rfl rfl (by simp) ?_
  refine cSeq ?_
  refine cRegion ?_
  refine sAs (v := .slice _ _ _) rfl ?_
  refine sNil (kSeqN ?_)
  refine cSeq ?_
  refine cRegion ?_
  refine sMv (v := .slice _ _ _) rfl ?_
  refine sMv (v := nv _) rfl ?_
  refine sCall2 rfl call104 rfl rfl h10 ?_
  refine sMv (v := .tuple _) rfl ?_
  refine sP (v := .slice _ _ _) rfl ?_   -- extract ['t7', '0']
  refine sP (v := nv _) rfl ?_   -- extract ['t7', '1']
  refine sAs (v := .slice _ _ _) rfl ?_
  refine sAs (v := nv _) rfl ?_
  refine sNil (kSeqN ?_)
  refine cSeq ?_
  refine cRegion ?_
  refine sMv (v := .slice _ _ _) rfl ?_
  refine sMv (v := nv _) rfl ?_
  refine sTake rfl rfl o10 (elim_used_le l n) fun v15 o15 => ?_
  obtain ⟨q15, c15, rfl⟩ := o15.ints.lenN
  refine sAs (v := .slice _ _ _) rfl ?_
  refine sNil (kSeqN ?_)
  refine cRet ?_
  exact ⟨.inr rfl, _, rfl, o15, e10⟩

theorem okf95 : okF Tryd.prog H0 95 65 = true := by kernel_rfl
theorem spec_Orthogonal {m : Mem} {a : Value} {l : List Nat} {n : Nat} (ha : IntsAt m a (ofs l)) (hl : l.length ≤ 1000) (hn : n ≤ 60) (hx : ∀ x ∈ l, x < 2 ^ n) : ∃ v m', ACalls Tryd.prog 95 #[a, nv n] m v m' ∧ (OwnF m.size m' v (ofs (orthM l n)) ∧ Ext m m') := by
  have h62 : ∀ {x : Nat}, x < 2 ^ n → x < 2 ^ 60 := fun h => Nat.lt_of_lt_of_le h (Nat.pow_le_pow_right (by omega) hn)
  obtain ⟨v16, m16, h16, o16, e16⟩ := spec_refReduced (n := n) ha hl (fun x h => by have := h62 (hx x h); omega) (by omega)
  obtain ⟨q, cap, rfl⟩ := ha.lenN
  have hI := o16.ints
  have hRx := refRedM_lt hx
  have hRr := (refRedM_rref hx).1
  have hRl := refRedM_len l n
  unfold orthM
  generalize refRedM l n = R at *
  obtain ⟨qr, cr, rfl⟩ := hI.lenN
  refine wpF (args := [_, _]) mixed okf95 (fn := Tryd.f95) rfl rfl rfl (by simp) ?_
  refine cSeq ?_
  refine cRegion ?_
  refine sAs (v := .slice _ _ _) rfl ?_
  refine sNil (kSeqN ?_)
  refine cSeq ?_
  refine cRegion ?_
  refine sMv (v := .slice _ _ _) rfl ?_
  refine sMv (v := nv _) rfl ?_
  refine sCall2 rfl call80 rfl rfl h16 ?_
  refine sAs (v := .slice _ _ _) rfl ?_
  refine sNil (kSeqN ?_)
  refine cSeq ?_
  refine cRegion ?_
  refine sAs (v := nv 0) rfl ?_
  refine sNil (kSeqN ?_)
  refine cSeq ?_
  refine cSeq ?_
  refine cRegion ?_
  refine sMv (v := .slice _ _ _) rfl ?_
  refine sLen T22 rfl ?_
  refine sMv (v := nv 0) rfl ?_
  refine sNil (kSeqN ?_)
  refine cBlock ?_
  refine wpC_loop (fun k ρ m' => ∃ i, k = R.length - i ∧ i ≤ R.length ∧ m' = m16 ∧ Has ρ [(1, nv n), (5, .slice qr R.length cr), (6, nv (leadsM (R.take i))), (17, .slice qr R.length cr), (18, nv R.length), (19, nv i)]) ⟨0, rfl, Nat.zero_le _, rfl, rfl, rfl, rfl, rfl, rfl, rfl, trivial⟩ ?_
  rintro k ρ m' ⟨i, rfl, hi, hm', hh⟩
  obtain rfl := hm'.symm
  rw [hh.env]; clear hh
  refine cSeq ?_
  refine cRegion ?_
  refine sBin rfl rfl (aInt_lss) ?_
  refine sNil (kSeqN ?_)
  refine cSeq ?_   -- seq 6
  refine cCond rfl (fun c0 => ?_) (fun c0 => ?_)
  ·
    obtain ⟨b1, o1, p1, r1, c1, e1, g1, x1⟩ := hI.atN (by omega)
    cases e1
    have hri := hRx _ (List.getElem_mem c0)
    have hne := hRr.ne _ (List.getElem_mem c0)
    have htk : R.take (i + 1) = R.take i ++ [R[i]] := List.take_succ_eq_append_getElem c0
    have hb := blen_le_of_lt hri
    have hbp := blen_pos_iff.2 hne
    have hll := leadsM_lt (n := n) (by omega) (R.take i) fun r hr => hRx r (List.mem_of_mem_take hr)
    have h2b : 2 ^ (blen R[i] - 1) < 2 ^ 60 := Nat.pow_lt_pow_right (by omega) (by omega)
    have hl60 := h62 hll
    refine cSkip (kSeqN ?_)
    refine cSeq ?_
    refine cBlock ?_
    refine cSeq ?_
    refine cRegion ?_
    refine sIx T22 S3 rfl rfl (by omega) ?_
    refine sLd (v := nv R[i]) A3 rfl g1 (x1 i _ (List.getElem?_eq_getElem c0)) ?_
    refine sAs (v := nv _) rfl ?_
    refine sNil (kSeqN ?_)
    refine cRegion ?_
    refine sMv (v := nv _) rfl ?_
    refine sMv (v := nv _) rfl ?_
    refine sCall1 (v := nv (blen R[i] - 1)) rfl call94 rfl (by rw [← lead_nv hne]; exact spec_Lead (by have := h62 hri; omega)) ?_
    refine sBin rfl rfl (aInt_shl (a := 1) (by omega)) ?_
    refine sBin rfl rfl (aInt_or (by rw [Nat.shiftLeft_eq]; omega)) ?_
    refine sAs (v := nv _) rfl ?_
    refine sNil (kBlkN (kSeqN ?_))
    refine cRegion ?_
    refine sBin rfl rfl (aInt_add (b := 1) (by omega)) ?_
    refine sMv (v := nv _) rfl ?_
    refine sNil (kSeqN ?_)
    refine ⟨_, ?_, i + 1, rfl, by omega, rfl, rfl, rfl, by rw [htk, leadsM_snoc, ← Nat.one_mul (2 ^ (blen R[i] - 1)), ← Nat.shiftLeft_eq]; rfl, rfl, rfl, rfl, trivial⟩
    omega
  ·
    obtain rfl : i = R.length := by omega
    rw [List.take_length]
    have hll : n ≠ 0 → leadsM R < 2 ^ n := fun h0 => leadsM_lt (n := n) (by omega) R hRx
    refine cExit (kSeqE (kSeqE (kBlkS (kSeqN ?_))))
    refine cSeq ?_
    refine cRegion ?_
    refine sAs (v := .slice _ _ _) rfl ?_
    refine sNil (kSeqN ?_)
    refine cSeq ?_
    refine cSeq ?_
    refine cRegion ?_
    refine sAs (v := nv 0) rfl ?_
    refine sNil (kSeqN ?_)
    refine cBlock ?_
    refine wpC_loop (fun k ρ m' => ∃ c v, k = n - c ∧ c ≤ n ∧ Low m16.size m16 m' ∧ OwnF m16.size m' v (ofs ((orthCols R c).map (orthX R))) ∧ Has ρ [(1, nv n), (5, .slice qr R.length cr), (6, nv (leadsM R)), (9, v), (10, nv c)]) ⟨0, _, rfl, Nat.zero_le _, .refl _ _, .nil _ _, rfl, rfl, rfl, rfl, rfl, trivial⟩ ?_
    rintro k ρ m' ⟨c, v, rfl, hc, hLo, hO, hh⟩
    obtain ⟨qv, cv, rfl⟩ := hO.ints.lenN
    rw [hh.env]; clear hh
    have hI' := hLo.ints hI (Nat.le_refl _)
    refine cSeq ?_   -- seq 12
    refine cSeq ?_
    refine cRegion ?_
    refine sMv (v := nv _) rfl ?_
    refine sMv (v := nv _) rfl ?_
    refine sBin rfl rfl (aInt_lss) ?_
    refine sNil (kSeqN ?_)
    refine cCond rfl (fun c1 => ?_) (fun c1 => ?_)
    ·
      have hl60 := h62 (hll (by omega))
      have hsh := Nat.shiftRight_le (leadsM R) c
      have h2c : 2 ^ c < 2 ^ 60 := Nat.pow_lt_pow_right (by omega) (by omega)
      have hcl := orthCols_len R c
      refine cSkip (kSeqN ?_)
      refine cSeq ?_
      refine cBlock ?_
      refine cSeq ?_   -- seq 15
      refine cSeq ?_
      refine cRegion ?_
      refine sMv (v := nv _) rfl ?_
      refine sMv (v := nv _) rfl ?_
      refine sBin rfl rfl (aInt_shr (by omega)) ?_
      refine sBin rfl rfl (aInt_and (b := 1) (by omega)) ?_
      refine sBin rfl rfl (aInt_eql (b := 1)) ?_
      rw [decide_eq_decide.2 (iff_of_eq (and_one _ c))]
      refine sNil (kSeqN ?_)
      refine cCond rfl (fun c2 => ?_) (fun c2 => ?_)
      ·
        refine cExit (kSeqE (kBlkS (kSeqN ?_)))
        refine cRegion ?_
        refine sMv (v := nv _) rfl ?_
        refine sBin rfl rfl (aInt_add (b := 1) (by omega)) ?_
        refine sAs (v := nv _) rfl ?_
        refine sNil (kSeqN ?_)
        refine ⟨_, ?_, c + 1, _, rfl, by omega, hLo, ?_, rfl, rfl, rfl, rfl, rfl, trivial⟩
        · omega
        · rw [orthCols_succ, if_pos c2, List.append_nil]; exact hO
      ·
        refine cSkip (kSeqN ?_)
        refine cSeq ?_
        refine cRegion ?_
        refine sMv (v := nv _) rfl ?_
        refine sBin rfl rfl (aInt_shl (a := 1) (by omega)) ?_
        rw [Nat.shiftLeft_eq, Nat.one_mul]
        refine sAs (v := nv _) rfl ?_
        refine sNil (kSeqN ?_)
        refine cSeq ?_
        refine cSeq ?_
        refine cRegion ?_
        refine sMv (v := .slice _ _ _) rfl ?_
        refine sLen T22 rfl ?_
        refine sMv (v := nv 0) rfl ?_
        refine sNil (kSeqN ?_)
        refine cBlock ?_
        refine wpC_loop (fun k ρ m2 => ∃ i, k = R.length - i ∧ i ≤ R.length ∧ m2 = m' ∧ Has ρ [(1, nv n), (5, .slice qr R.length cr), (6, nv (leadsM R)), (9, .slice qv (List.map (orthX R) (orthCols R c)).length cv), (10, nv c), (11, nv (orthX (R.take i) c)), (41, .slice qr R.length cr), (42, nv R.length), (43, nv i)]) ⟨0, rfl, Nat.zero_le _, rfl, rfl, rfl, rfl, rfl, rfl, rfl, rfl, rfl, rfl, trivial⟩ ?_
        rintro k2 ρ m2 ⟨i, rfl, hi, hm2, hh⟩
        obtain rfl := hm2.symm
        rw [hh.env]; clear hh
        refine cSeq ?_
        refine cRegion ?_
        refine sBin rfl rfl (aInt_lss) ?_
        refine sNil (kSeqN ?_)
        refine cSeq ?_   -- seq 21
        refine cCond rfl (fun c3 => ?_) (fun c3 => ?_)
        ·
          obtain ⟨b1, o1, p1, r1, c1', e1, g1, x1⟩ := hI'.atN (by omega)
          cases e1
          have hri := hRx _ (List.getElem_mem c3)
          have hne := hRr.ne _ (List.getElem_mem c3)
          have htk : R.take (i + 1) = R.take i ++ [R[i]] := List.take_succ_eq_append_getElem c3
          have hb := blen_le_of_lt hri
          have hbp := blen_pos_iff.2 hne
          have hox := h62 (orthX_lt (n := n) c1 (R.take i) fun r hr => hRx r (List.mem_of_mem_take hr))
          have h2b : 2 ^ (blen R[i] - 1) < 2 ^ 60 := Nat.pow_lt_pow_right (by omega) (by omega)
          have hsh2 := Nat.shiftRight_le R[i] c
          have hr60 := h62 hri
          refine cSkip (kSeqN ?_)
          refine cSeq ?_
          refine cBlock ?_
          refine cSeq ?_
          refine cRegion ?_
          refine sIx T22 S3 rfl rfl (by omega) ?_
          refine sLd (v := nv R[i]) A3 rfl g1 (x1 i _ (List.getElem?_eq_getElem c3)) ?_
          refine sAs (v := nv _) rfl ?_
          refine sNil (kSeqN ?_)
          refine cSeq ?_
          refine cRegion ?_
          refine sMv (v := nv _) rfl ?_
          refine sMv (v := nv _) rfl ?_
          refine sBin rfl rfl (aInt_shr (by omega)) ?_
          refine sBin rfl rfl (aInt_and (b := 1) (by omega)) ?_
          refine sBin rfl rfl (aInt_eql (b := 1)) ?_
          rw [decide_eq_decide.2 (iff_of_eq (and_one _ c))]
          refine sNil (kSeqN ?_)
          refine cCond rfl (fun c4 => ?_) (fun c4 => ?_)
          ·
            refine cRegion ?_
            refine sMv (v := nv _) rfl ?_
            refine sMv (v := nv _) rfl ?_
            refine sCall1 (v := nv (blen R[i] - 1)) rfl call94 rfl (by rw [← lead_nv hne]; exact spec_Lead (by omega)) ?_
            refine sBin rfl rfl (aInt_shl (a := 1) (by omega)) ?_
            refine sBin rfl rfl (aInt_or (by rw [Nat.shiftLeft_eq]; omega)) ?_
            refine sAs (v := nv _) rfl ?_
            refine sNil (kBlkN (kSeqN ?_))
            refine cRegion ?_
            refine sBin rfl rfl (aInt_add (b := 1) (by omega)) ?_
            refine sMv (v := nv _) rfl ?_
            refine sNil (kSeqN ?_)
            refine ⟨_, ?_, i + 1, rfl, by omega, rfl, rfl, rfl, rfl, rfl, rfl, by rw [htk, orthX_snoc, if_pos c4, ← Nat.one_mul (2 ^ (blen R[i] - 1)), ← Nat.shiftLeft_eq]; rfl, rfl, rfl, rfl, trivial⟩
            omega
          ·
            refine cSkip (kBlkN (kSeqN ?_))
            refine cRegion ?_
            refine sBin rfl rfl (aInt_add (b := 1) (by omega)) ?_
            refine sMv (v := nv _) rfl ?_
            refine sNil (kSeqN ?_)
            refine ⟨_, ?_, i + 1, rfl, by omega, rfl, rfl, rfl, rfl, rfl, rfl, by rw [htk, orthX_snoc, if_neg c4]; rfl, rfl, rfl, rfl, trivial⟩
            omega
        ·
          obtain rfl : i = R.length := by omega
          rw [List.take_length]
          refine cExit (kSeqE (kSeqE (kBlkS (kSeqN ?_))))
          refine cRegion ?_
          refine sMv (v := .slice _ _ _) rfl ?_
          refine sMv (v := nv _) rfl ?_
          refine sBuildS T22 S3 Z3 (by decide) (by decide) (by decide) (by kernel_rfl) fill1 rfl ?_
          refine sApp App22 rfl rfl (hO.ext (.push _ _)) one_ints (by have := hLo.1; simp; omega) (by simp; omega) fun v3 m3 hO3 hL3 => ?_
          have hO4 : OwnF m16.size m3 v3 (ofs ((orthCols R (c + 1)).map (orthX R))) := by
            rw [orthCols_succ, if_neg c2, List.map_append, ofs_append]; exact hO3
          obtain ⟨q3, cp3, rfl⟩ := hO4.ints.lenN
          refine sAs (v := .slice _ _ _) rfl ?_
          refine sNil (kBlkN (kSeqN ?_))
          refine cRegion ?_
          refine sMv (v := nv _) rfl ?_
          refine sBin rfl rfl (aInt_add (b := 1) (by omega)) ?_
          refine sAs (v := nv _) rfl ?_
          refine sNil (kSeqN ?_)
          refine ⟨_, ?_, c + 1, _, rfl, by omega, (hLo.push' hLo.1 _).trans hL3, hO4, rfl, rfl, rfl, rfl, rfl, trivial⟩
          omega
    ·
      obtain rfl : c = n := by omega
      refine cExit (kSeqE (kSeqE (kBlkS (kSeqN ?_))))
      refine cSeq ?_
      refine cRegion ?_
      refine sMv (v := .slice _ _ _) rfl ?_
      refine sMv (v := nv _) rfl ?_
      obtain ⟨v64, m64, h64, o64, e64⟩ := spec_refReduced (n := c) hO.ints (by have := orthCols_len R c; simp; omega) (fun x hx => by
        have := h62 (orthRows_lt hRx hx); omega) (by omega)
      obtain ⟨q64, c64, rfl⟩ := o64.ints.lenN
      refine sCall2 rfl call80 rfl rfl h64 ?_
      refine sAs (v := .slice _ _ _) rfl ?_
      refine sNil (kSeqN ?_)
      refine cRet ?_
      exact ⟨.inr rfl, _, rfl, o64.mono (Nat.le_trans e16.1 hLo.1), (e16.trans (hLo.to_ext (.refl _) (Nat.le_refl _))).trans e64⟩

end Go.AM

/-! ### E27 -/
namespace Go.AM
open Go.Proofs
set_option maxRecDepth 100000
set_option linter.unusedVariables false
set_option linter.unusedSimpArgs false
theorem and_zero (x k : Nat) : (x >>> k &&& 1 = 0) = (x.testBit k = false) := by
  have h := and_one x k
  have h1 : x >>> k &&& 1 ≤ 1 := Nat.and_le_right
  apply propext
  constructor
  · intro e
    cases hb : x.testBit k with
    | false => rfl
    | true => have := h.symm ▸ hb; omega
  · intro e
    have : ¬ (x >>> k &&& 1 = 1) := by rw [h, e]; simp
    omega
theorem call71 : callable Tryd.prog 71 = true := by kernel_rfl
theorem call91 : callable Tryd.prog 91 = true := by kernel_rfl
theorem orthM_lt {l : List Nat} {n : Nat} (hl : ∀ x ∈ l, x < 2 ^ n) : ∀ x ∈ orthM l n, x < 2 ^ n := refRedM_lt fun x hx => orthRows_lt (refRedM_lt hl) hx
theorem orthM_rref {l : List Nat} {n : Nat} (hl : ∀ x ∈ l, x < 2 ^ n) : Rref (orthM l n) := (refRedM_rref fun x hx => orthRows_lt (refRedM_lt hl) hx).1
theorem orthM_len (l : List Nat) (n : Nat) : (orthM l n).length ≤ n := by
  have h1 := refRedM_len (orthRows (refRedM l n) n) n
  have h2 := orthCols_len (refRedM l n) n
  unfold orthM
  have h3 : (orthRows (refRedM l n) n).length = (orthCols (refRedM l n) n).length := by simp [orthRows]
  omega

theorem okf71 : okF Tryd.prog H0 71 87 = true := by kernel_rfl
theorem spec_Solution {m : Mem} {a : Value} {l : List Nat} {n b : Nat} (ha : IntsAt m a (ofs l)) (hl : l.length ≤ 60) (hn : n ≤ 60) (hx : ∀ x ∈ l, x < 2 ^ n) (hb : b < 2 ^ 62) : ∃ v m', ACalls Tryd.prog 71 #[a, nv n, nv b] m v m' ∧
      (v = .tuple #[nv ((solM l n b).getD 0), .bool (solM l n b).isSome] ∧ Ext m m') := by
  have h62 : ∀ {x : Nat}, x < 2 ^ n → x < 2 ^ 60 := fun h => Nat.lt_of_lt_of_le h (Nat.pow_le_pow_right (by omega) hn)
  have h2n : 2 ^ n ≤ 2 ^ 60 := Nat.pow_le_pow_right (by omega) hn
  have h1n := Nat.two_pow_pos n
  obtain ⟨q, cap, rfl⟩ := ha.lenN
  unfold solM
  refine wpF (args := [_, _, _]) mixed okf71 (fn := Tryd.f71) rfl rfl rfl (by simp) ?_
  refine cSeq ?_
  refine cRegion ?_
  refine sAs (v := nv 0) rfl ?_
  refine sAs (v := .bool _) rfl ?_
  refine sNil (kSeqN ?_)
  refine cSeq ?_
  refine cRegion ?_
  refine sAs (v := .slice _ _ _) rfl ?_
  refine sNil (kSeqN ?_)
  refine cSeq ?_
  refine cSeq ?_
  refine cRegion ?_
  refine sMv (v := .slice _ _ _) rfl ?_
  refine sLen T22 rfl ?_
  refine sMv (v := nv 0) rfl ?_
  refine sNil (kSeqN ?_)
  refine cBlock ?_
  refine wpC_loop (fun k ρ m' => ∃ i v, k = l.length - i ∧ i ≤ l.length ∧ Low m.size m m' ∧ OwnF m.size m' v (ofs (bothP l n b i)) ∧ Has ρ [(0, .slice q l.length cap), (1, nv n), (2, nv b), (8, v), (18, .slice q l.length cap), (19, nv l.length), (20, nv i)]) ⟨0, _, rfl, Nat.zero_le _, .refl _ _, .nil _ _, rfl, rfl, rfl, rfl, rfl, rfl, rfl, trivial⟩ ?_
  rintro k ρ m' ⟨i, v, rfl, hi, hLo, hO, hh⟩
  obtain ⟨qv, cv, rfl⟩ := hO.ints.lenN
  rw [bothP_length] at *
  rw [hh.env]; clear hh
  refine cSeq ?_
  refine cRegion ?_
  refine sBin rfl rfl (aInt_lss) ?_
  refine sNil (kSeqN ?_)
  refine cSeq ?_   -- seq 5
  refine cCond rfl (fun c0 => ?_) (fun c0 => ?_)
  ·
    obtain ⟨b1, o1, p1, r1, c1, e1, g1, x1⟩ := (hLo.ints ha (Nat.le_refl _)).atN (by omega)
    cases e1
    have hxi := h62 (hx _ (List.getElem_mem c0))
    have hsh := Nat.shiftRight_le b i
    have ha1 : b >>> i &&& 1 ≤ 1 := Nat.and_le_right
    have hmul := Nat.mul_le_mul_right (2 ^ n) ha1
    have hgd : l.getD i 0 = l[i] := by rw [List.getD_eq_getElem?_getD, List.getElem?_eq_getElem c0]; rfl
    refine cSkip (kSeqN ?_)
    refine cSeq ?_
    refine cBlock ?_
    refine cSeq ?_
    refine cRegion ?_
    refine sMv (v := nv _) rfl ?_
    refine sIx T22 S3 rfl rfl (by omega) ?_
    refine sLd (v := nv l[i]) A3 rfl g1 (x1 i _ (List.getElem?_eq_getElem c0)) ?_
    refine sAs (v := nv _) rfl ?_
    refine sAs (v := nv _) rfl ?_
    refine sNil (kSeqN ?_)
    refine cRegion ?_
    refine sMv (v := .slice _ _ _) rfl ?_
    refine sMv (v := nv _) rfl ?_
    refine sMv (v := nv _) rfl ?_
    refine sMv (v := nv _) rfl ?_
    refine sBin rfl rfl (aInt_shr (by omega)) ?_
    refine sBin rfl rfl (aInt_and (b := 1) (by omega)) ?_
    refine sMv (v := nv _) rfl ?_
    refine sBin rfl rfl (aInt_shl (by omega)) ?_
    refine sBin rfl rfl (aInt_or (by rw [Nat.shiftLeft_eq]; omega)) ?_
    refine sBuildS T22 S3 Z3 (by decide) (by decide) (by decide) (by kernel_rfl) fill1 rfl ?_
    refine sApp App22 rfl rfl (hO.ext (.push _ _)) one_ints (by have := hLo.1; simp; omega) (by rw [ofs_length, bothP_length]; simp; omega) fun v3 m3 hO3 hL3 => ?_
    have hO4 : OwnF m.size m3 v3 (ofs (bothP l n b (i + 1))) := by
      rw [bothP, ofs_append, hgd]; exact hO3
    obtain ⟨q3, cp3, rfl⟩ := hO4.ints.lenN
    rw [bothP_length]
    refine sAs (v := .slice _ _ _) rfl ?_
    refine sNil (kBlkN (kSeqN ?_))
    refine cRegion ?_
    refine sBin rfl rfl (aInt_add (b := 1) (by omega)) ?_
    refine sMv (v := nv _) rfl ?_
    refine sNil (kSeqN ?_)
    refine ⟨_, ?_, i + 1, _, rfl, by omega, (hLo.push' hLo.1 _).trans hL3, by rw [bothP_length] at hO4; exact hO4, rfl, rfl, rfl, rfl, rfl, rfl, rfl, trivial⟩
    omega
  ·
    obtain rfl : i = l.length := by omega
    have hE0 : Ext m m' := hLo.to_ext (.refl _) (Nat.le_refl _)
    rw [show bothP l n b l.length = bothRows l n b from rfl] at *
    have hBx := bothP_lt (b := b) hx l.length
    have hBl := bothP_length l n b l.length
    rw [show bothP l n b l.length = bothRows l n b from rfl] at hBx hBl
    obtain ⟨v40, m40, h40, w40, rfl, o40, e40⟩ := spec_eliminated (n := n) hO.ints (by omega) (fun x hx => Nat.lt_of_lt_of_le (hBx x hx) (Nat.pow_le_pow_right (by omega) (by omega))) (by omega)
    obtain ⟨ps, hInv⟩ := elim_all (bothRows l n b) n
    obtain ⟨hsp, hEl⟩ := elimM_span n (bothRows l n b, 0)
    have hEx : ∀ x ∈ (elimM (bothRows l n b, 0) n).1, x < 2 ^ (n + 1) := fun x hx => ((hsp x).1 (.mem hx)).lt hBx
    have h2n1 : 2 ^ (n + 1) ≤ 2 ^ 61 := Nat.pow_le_pow_right (by omega) (by omega)
    simp only at hEl
    generalize (elimM (bothRows l n b, 0) n).1 = E at *
    generalize (elimM (bothRows l n b, 0) n).2 = used at *
    have hI40 := o40.ints
    obtain ⟨qw, cw, rfl⟩ := hI40.lenN
    refine cExit (kSeqE (kSeqE (kBlkS (kSeqN ?_))))
    refine cSeq ?_
    refine cRegion ?_
    refine sMv (v := .slice _ _ _) rfl ?_
    refine sMv (v := nv _) rfl ?_
    refine sCall2 rfl call104 rfl rfl h40 ?_
    refine sMv (v := .tuple _) rfl ?_
    refine sP (v := .slice _ _ _) rfl ?_   -- extract ['t37', '0']
    refine sP (v := nv _) rfl ?_   -- extract ['t37', '1']
    refine sAs (v := .slice _ _ _) rfl ?_
    refine sAs (v := nv _) rfl ?_
    refine sNil (kSeqN ?_)
    refine cSeq ?_
    refine cRegion ?_
    refine sAs (v := nv 0) rfl ?_
    refine sNil (kSeqN ?_)
    refine cSeq ?_
    refine cSeq ?_
    refine cRegion ?_
    refine sMv (v := .slice _ _ _) rfl ?_
    refine sLen T22 rfl ?_
    refine sMv (v := nv 0) rfl ?_
    refine sNil (kSeqN ?_)
    refine cBlock ?_
    refine wpC_loop (fun k ρ m2 => ∃ i x, k = E.length - i ∧ i ≤ E.length ∧ m2 = m40 ∧ solP E used n i = some x ∧ Has ρ [(0, .slice q l.length cap), (1, nv n), (12, nv used), (13, nv x), (43, .slice qw E.length cw), (44, nv E.length), (45, nv i)]) ⟨0, 0, rfl, Nat.zero_le _, rfl, rfl, rfl, rfl, rfl, rfl, rfl, rfl, rfl, trivial⟩ ?_
    rintro k ρ m2 ⟨i, x, rfl, hi, hm2, hsol, hh⟩
    obtain rfl := hm2.symm
    rw [hh.env]; clear hh
    have hxn := h62 (solP_lt hInv i x hsol)
    refine cSeq ?_
    refine cRegion ?_
    refine sBin rfl rfl (aInt_lss) ?_
    refine sNil (kSeqN ?_)
    refine cSeq ?_   -- seq 13
    refine cCond rfl (fun c1 => ?_) (fun c1 => ?_)
    ·
      obtain ⟨b1, o1, p1, r1, c1', e1, g1, x1⟩ := hI40.atN (by omega)
      cases e1
      have hri := hEx _ (List.getElem_mem c1)
      have hsh := Nat.shiftRight_le E[i] n
      have hgd : E.getD i 0 = E[i] := by rw [List.getD_eq_getElem?_getD, List.getElem?_eq_getElem c1]; rfl
      have hstep : solP E used n (i + 1) = if E[i].testBit n then (if used ≤ i then none else some (x ||| 2 ^ (blen (E[i] &&& (2 ^ n - 1)) - 1))) else some x := by
        rw [solP, hsol, hgd]
      refine cSkip (kSeqN ?_)
      refine cSeq ?_
      refine cBlock ?_
      refine cSeq ?_
      refine cRegion ?_
      refine sMv (v := nv _) rfl ?_
      refine sIx T22 S3 rfl rfl (by omega) ?_
      refine sLd (v := nv E[i]) A3 rfl g1 (x1 i _ (List.getElem?_eq_getElem c1)) ?_
      refine sAs (v := nv _) rfl ?_
      refine sAs (v := nv _) rfl ?_
      refine sNil (kSeqN ?_)
      refine cSeq ?_   -- seq 16
      refine cSeq ?_
      refine cRegion ?_
      refine sMv (v := nv _) rfl ?_
      refine sMv (v := nv _) rfl ?_
      refine sBin rfl rfl (aInt_shr (by omega)) ?_
      refine sBin rfl rfl (aInt_and (b := 1) (by omega)) ?_
      refine sBin rfl rfl (aInt_eql (b := 0)) ?_
      rw [decide_eq_decide.2 (iff_of_eq (and_zero _ n))]
      refine sNil (kSeqN ?_)
      refine cCond rfl (fun c2 => ?_) (fun c2 => ?_)
      ·
        refine cExit (kSeqE (kBlkS (kSeqN ?_)))
        refine cRegion ?_
        refine sBin rfl rfl (aInt_add (b := 1) (by omega)) ?_
        refine sMv (v := nv _) rfl ?_
        refine sNil (kSeqN ?_)
        refine ⟨_, ?_, i + 1, x, rfl, by omega, rfl, by rw [hstep, if_neg (by rw [c2]; simp)], rfl, rfl, rfl, rfl, rfl, rfl, rfl, trivial⟩
        omega
      ·
        have c2' : E[i].testBit n = true := by simpa using c2
        refine cSkip (kSeqN ?_)
        refine cSeq ?_   -- seq 18
        refine cSeq ?_
        refine cRegion ?_
        refine sMv (v := nv _) rfl ?_
        refine sMv (v := nv _) rfl ?_
        refine sBin rfl rfl (aInt_geq) ?_
        refine sNil (kSeqN ?_)
        refine cCond rfl (fun c3 => ?_) (fun c3 => ?_)
        ·
          have hnone : ∀ j, i < j → solP E used n j = none := by
            intro j hj
            induction j with
            | zero => omega
            | succ j ih =>
              by_cases hji : j = i
              · subst hji; rw [hstep, if_pos c2', if_pos c3]
              · rw [solP, ih (by omega)]
          refine cSeq ?_
          refine cRegion ?_
          refine sAs (v := nv 0) rfl ?_
          refine sAs (v := .bool _) rfl ?_
          refine sNil (kSeqN ?_)
          refine cRet (kSeqR (kBlkR (kSeqR (kSeqR (kBlkR (kSeqR ?_))))))
          refine ⟨.inr rfl, _, rfl, ?_, hE0.trans e40⟩
          rw [hnone E.length c1]; rfl
        ·
          have hne := used_ne hInv (i := i) (by omega)
          rw [hgd] at hne
          have hbp := blen_pos_iff.2 hne
          have hm1 : E[i] &&& (2 ^ n - 1) < 2 ^ n := Nat.lt_of_le_of_lt Nat.and_le_right (by omega)
          have hbl := blen_le_of_lt hm1
          have h2b : 2 ^ (blen (E[i] &&& (2 ^ n - 1)) - 1) < 2 ^ 60 := Nat.pow_lt_pow_right (by omega) (by omega)
          have hm60 := h62 hm1
          refine cSkip (kSeqN ?_)
          refine cRegion ?_
          refine sMv (v := nv _) rfl ?_
          refine sMv (v := nv _) rfl ?_
          refine sMv (v := nv _) rfl ?_
          refine sBin rfl rfl (aInt_shl (a := 1) (by omega)) ?_
          rw [Nat.shiftLeft_eq, Nat.one_mul]
          refine sBin rfl rfl (aInt_sub (b := 1) (by omega)) ?_
          refine sBin rfl rfl (aInt_and (by omega)) ?_
          refine sCall1 (v := nv (blen (E[i] &&& (2 ^ n - 1)) - 1)) rfl call94 rfl (by rw [← lead_nv hne]; exact spec_Lead (by omega)) ?_
          refine sBin rfl rfl (aInt_shl (a := 1) (by omega)) ?_
          rw [Nat.shiftLeft_eq, Nat.one_mul]
          refine sBin rfl rfl (aInt_or (by omega)) ?_
          refine sAs (v := nv _) rfl ?_
          refine sNil (kBlkN (kSeqN ?_))
          refine cRegion ?_
          refine sBin rfl rfl (aInt_add (b := 1) (by omega)) ?_
          refine sMv (v := nv _) rfl ?_
          refine sNil (kSeqN ?_)
          refine ⟨_, ?_, i + 1, _, rfl, by omega, rfl, by rw [hstep, if_pos c2', if_neg c3], rfl, rfl, rfl, rfl, rfl, rfl, rfl, trivial⟩
          omega
    ·
      obtain rfl : i = E.length := by omega
      rw [hsol]
      have hxn' := solP_lt hInv E.length x hsol
      obtain ⟨v70, m70, h70, o70, e70⟩ := spec_Orthogonal (n := n) ((ha.ext hE0).ext e40) (by omega) hn hx
      have hOx := orthM_lt hx
      have hOr := orthM_rref hx
      have hOl := orthM_len l n
      generalize orthM l n = Z at *
      have hI70 := o70.ints
      obtain ⟨q70, c70, rfl⟩ := hI70.lenN
      refine cExit (kSeqE (kSeqE (kBlkS (kSeqN ?_))))
      refine cSeq ?_
      refine cSeq ?_
      refine cRegion ?_
      refine sMv (v := .slice _ _ _) rfl ?_
      refine sMv (v := nv _) rfl ?_
      refine sCall2 rfl call95 rfl rfl h70 ?_
      refine sLen T22 rfl ?_
      refine sMv (v := nv 0) rfl ?_
      refine sNil (kSeqN ?_)
      refine cBlock ?_
      refine wpC_loop (fun k ρ m2 => ∃ i, k = Z.length - i ∧ i ≤ Z.length ∧ m2 = m70 ∧ Has ρ [(13, nv (finX (Z.take i) x)), (70, .slice q70 Z.length c70), (71, nv Z.length), (72, nv i)]) ⟨0, rfl, Nat.zero_le _, rfl, rfl, rfl, rfl, rfl, trivial⟩ ?_
      rintro k ρ m2 ⟨i, rfl, hi, hm2, hh⟩
      obtain rfl := hm2.symm
      rw [hh.env]; clear hh
      refine cSeq ?_
      refine cRegion ?_
      refine sBin rfl rfl (aInt_lss) ?_
      refine sNil (kSeqN ?_)
      refine cSeq ?_   -- seq 24
      refine cCond rfl (fun c4 => ?_) (fun c4 => ?_)
      ·
        obtain ⟨b1, o1, p1, r1, c1', e1, g1, x1⟩ := hI70.atN (by omega)
        cases e1
        have hri := h62 (hOx _ (List.getElem_mem c4))
        have hne := hOr.ne _ (List.getElem_mem c4)
        have hbp := blen_pos_iff.2 hne
        have htk : Z.take (i + 1) = Z.take i ++ [Z[i]] := List.take_succ_eq_append_getElem c4
        have hfx := h62 (finX_lt (Z.take i) x hxn' fun r hr => hOx r (List.mem_of_mem_take hr))
        have hsh := Nat.shiftRight_le (finX (Z.take i) x) (blen Z[i] - 1)
        refine cSkip (kSeqN ?_)
        refine cSeq ?_
        refine cBlock ?_
        refine cSeq ?_
        refine cRegion ?_
        refine sIx T22 S3 rfl rfl (by omega) ?_
        refine sLd (v := nv Z[i]) A3 rfl g1 (x1 i _ (List.getElem?_eq_getElem c4)) ?_
        refine sAs (v := nv _) rfl ?_
        refine sNil (kSeqN ?_)
        refine cSeq ?_
        refine cRegion ?_
        refine sMv (v := nv _) rfl ?_
        refine sMv (v := nv _) rfl ?_
        refine sCall1 (v := nv (blen Z[i] - 1)) rfl call94 rfl (by rw [← lead_nv hne]; exact spec_Lead (by omega)) ?_
        refine sBin rfl rfl (aInt_shr (by omega)) ?_
        refine sBin rfl rfl (aInt_and (b := 1) (by omega)) ?_
        refine sBin rfl rfl (aInt_eql (b := 1)) ?_
        rw [decide_eq_decide.2 (iff_of_eq (and_one _ _))]
        refine sNil (kSeqN ?_)
        refine cCond rfl (fun c5 => ?_) (fun c5 => ?_)
        ·
          refine cRegion ?_
          refine sMv (v := nv _) rfl ?_
          refine sMv (v := nv _) rfl ?_
          refine sBin rfl rfl (aInt_xor (by omega)) ?_
          refine sAs (v := nv _) rfl ?_
          refine sNil (kBlkN (kSeqN ?_))
          refine cRegion ?_
          refine sBin rfl rfl (aInt_add (b := 1) (by omega)) ?_
          refine sMv (v := nv _) rfl ?_
          refine sNil (kSeqN ?_)
          refine ⟨_, ?_, i + 1, rfl, by omega, rfl, by rw [htk, finX_snoc, if_pos c5]; rfl, rfl, rfl, rfl, trivial⟩
          omega
        ·
          refine cSkip (kBlkN (kSeqN ?_))
          refine cRegion ?_
          refine sBin rfl rfl (aInt_add (b := 1) (by omega)) ?_
          refine sMv (v := nv _) rfl ?_
          refine sNil (kSeqN ?_)
          refine ⟨_, ?_, i + 1, rfl, by omega, rfl, by rw [htk, finX_snoc, if_neg c5]; rfl, rfl, rfl, rfl, trivial⟩
          omega
      ·
        obtain rfl : i = Z.length := by omega
        rw [List.take_length]
        refine cExit (kSeqE (kSeqE (kBlkS (kSeqN ?_))))
        refine cSeq ?_
        refine cRegion ?_
        refine sMv (v := nv _) rfl ?_
        refine sAs (v := nv _) rfl ?_
        refine sAs (v := .bool _) rfl ?_
        refine sNil (kSeqN ?_)
        refine cRet ?_
        exact ⟨.inr rfl, _, rfl, rfl, (hE0.trans e40).trans e70⟩

end Go.AM

/-! ### E28 -/
namespace Go.AM
open Go.Proofs
set_option maxRecDepth 100000
set_option linter.unusedVariables false
set_option linter.unusedSimpArgs false
def turnR (l : List Nat) (n k i : Nat) : List Nat := (List.range n).map fun q => if q < k then colP l q l.length else if q = k then colP l k i else 0
theorem turnR_length (l : List Nat) (n k i : Nat) : (turnR l n k i).length = n := by simp [turnR]
theorem turnR_get {l : List Nat} {n k i q : Nat} (h : q < n) : (turnR l n k i)[q]? = some (if q < k then colP l q l.length else if q = k then colP l k i else 0) := by simp [turnR, h]
theorem turnR_set {l : List Nat} {n k i : Nat} (hk : k < n) : (turnR l n k i).set k (colP l k (i + 1)) = turnR l n k (i + 1) := by
  apply List.ext_getElem?
  intro j
  rw [List.getElem?_set, turnR_length]
  by_cases e : k = j
  · subst e; rw [if_pos rfl, if_pos hk, turnR_get hk, if_neg (by omega), if_pos rfl]
  · rw [if_neg e]
    by_cases hj : j < n
    · rw [turnR_get hj, turnR_get hj]
      by_cases h : j < k
      · rw [if_pos h, if_pos h]
      · rw [if_neg h, if_neg h, if_neg (fun h => e h.symm), if_neg (fun h => e h.symm)]
    · rw [List.getElem?_eq_none (by rw [turnR_length]; omega), List.getElem?_eq_none (by rw [turnR_length]; omega)]
theorem turnR_next {l : List Nat} {n k : Nat} : turnR l n k l.length = turnR l n (k + 1) 0 := by
  simp only [turnR]
  apply List.map_congr_left
  intro q hq
  by_cases h : q < k
  · rw [if_pos h, if_pos (by omega)]
  · by_cases e : q = k
    · subst e; rw [if_neg h, if_pos rfl, if_pos (by omega)]
    · rw [if_neg h, if_neg e, if_neg (by omega)]
      split
      · subst_vars; rfl
      · rfl
theorem turnR_zero {l : List Nat} {n : Nat} : turnR l n 0 0 = List.replicate n 0 := by
  apply List.ext_getElem?
  intro j
  by_cases hj : j < n
  · rw [turnR_get hj]; simp only [List.getElem?_replicate, hj, if_true]
    rw [if_neg (by omega)]
    split
    · subst_vars; rfl
    · rfl
  · rw [List.getElem?_eq_none (by rw [turnR_length]; omega)]; simp [hj]
theorem turnR_last {l : List Nat} {n : Nat} : turnR l n n 0 = turnedM l n := by
  simp only [turnR, turnedM]
  apply List.map_congr_left
  intro q hq
  rw [if_pos (List.mem_range.1 hq)]
/-- What a matrix makes of a row. -/
def imgP (l : List Nat) (x : Nat) : Nat → Nat
  | 0 => 0
  | i + 1 => imgP l x i ||| (parity (l.getD i 0 &&& x) <<< i)
theorem imgP_lt (l : List Nat) (x : Nat) : ∀ i, imgP l x i < 2 ^ i
  | 0 => by simp [imgP]
  | i + 1 => by
    rw [imgP]
    refine Nat.or_lt_two_pow (Nat.lt_of_lt_of_le (imgP_lt l x i) (Nat.pow_le_pow_right (by omega) (by omega))) ?_
    have := parity_lt (l.getD i 0 &&& x)
    rw [Nat.shiftLeft_eq]
    have := Nat.mul_le_mul_right (2 ^ i) (show parity (l.getD i 0 &&& x) ≤ 1 by omega)
    have := Nat.pow_lt_pow_right (a := 2) (by omega) (show i < i + 1 by omega)
    omega
theorem call72 : callable Tryd.prog 72 = true := by kernel_rfl
theorem call90 : callable Tryd.prog 90 = true := by kernel_rfl
theorem call93 : callable Tryd.prog 93 = true := by kernel_rfl
theorem call105 : callable Tryd.prog 105 = true := by kernel_rfl

theorem okf91 : okF Tryd.prog H0 91 38 = true := by kernel_rfl
theorem spec_Turned {m : Mem} {a : Value} {l : List Nat} {n : Nat} (ha : IntsAt m a (ofs l)) (hl : l.length ≤ 60) (hx : ∀ x ∈ l, x < 2 ^ 62) (hn : n ≤ 1000000) : ∃ v m', ACalls Tryd.prog 91 #[a, nv n] m v m' ∧ (OwnF m.size m' v (ofs (turnedM l n)) ∧ Ext m m') := by
  obtain ⟨q, cap, rfl⟩ := ha.lenN
  refine wpF (args := [_, _]) mixed okf91 (fn := Tryd.f91) rfl rfl rfl (by simp) ?_
  refine cSeq ?_
  refine cRegion ?_
  refine sAs (v := .slice _ _ _) rfl ?_
  refine sNil (kSeqN ?_)
  refine cSeq ?_
  refine cRegion ?_
  refine sMv (v := nv _) rfl ?_
  refine sMkN T22 S3 Z3 bytes3 rfl rfl hn ?_
  refine sAs (v := .slice _ _ _) rfl ?_
  refine sNil (kSeqN ?_)
  refine cSeq ?_
  refine cSeq ?_
  refine cRegion ?_
  refine sMv (v := .slice _ _ _) rfl ?_
  refine sLen T22 rfl ?_
  refine sMv (v := nv 0) rfl ?_
  refine sNil (kSeqN ?_)
  refine cBlock ?_
  refine wpC_loop (fun z ρ m' => ∃ k, z = n - k ∧ k ≤ n ∧ Ext m m' ∧ m.size + 1 ≤ m'.size ∧ Mem.get m' m.size = .cells true (cellsN (turnR l n k 0)) ∧ Has ρ [(0, .slice q l.length cap), (5, .slice (some ⟨m.size, 0, some 1⟩) n n), (12, nv n), (13, nv k)]) ⟨0, rfl, by omega, .push _ _, by simp, by rw [turnR_zero]; exact gP rfl, rfl, rfl, rfl, rfl, trivial⟩ ?_
  rintro z ρ m' ⟨k, rfl, hk, he, hz, g1, hh⟩
  rw [hh.env]; clear hh
  refine cSeq ?_
  refine cRegion ?_
  refine sBin rfl rfl (aInt_lss) ?_
  refine sNil (kSeqN ?_)
  refine cSeq ?_   -- seq 5
  refine cCond rfl (fun c0 => ?_) (fun c0 => ?_)
  ·
    refine cSkip (kSeqN ?_)
    refine cSeq ?_
    refine cBlock ?_
    refine cSeq ?_
    refine cRegion ?_
    refine sMv (v := nv k) rfl ?_
    refine sAs (v := nv k) rfl ?_
    refine sNil (kSeqN ?_)
    refine cSeq ?_
    refine cRegion ?_
    refine sMv (v := .slice _ _ _) rfl ?_
    refine sLen T22 rfl ?_
    refine sMv (v := nv 0) rfl ?_
    refine sNil (kSeqN ?_)
    refine cBlock ?_
    refine wpC_loop (fun z ρ m2 => ∃ i, z = l.length - i ∧ i ≤ l.length ∧ Ext m m2 ∧ m.size + 1 ≤ m2.size ∧ Mem.get m2 m.size = .cells true (cellsN (turnR l n k i)) ∧ Has ρ [(0, .slice q l.length cap), (5, .slice (some ⟨m.size, 0, some 1⟩) n n), (6, nv k), (12, nv n), (13, nv k), (16, .slice q l.length cap), (17, nv l.length), (18, nv i)]) ⟨0, rfl, by omega, he, hz, g1, rfl, rfl, rfl, rfl, rfl, rfl, rfl, rfl, trivial⟩ ?_
    rintro z2 ρ m2 ⟨i, rfl, hi, he2, hz2, f1, hh⟩
    rw [hh.env]; clear hh
    refine cSeq ?_
    refine cRegion ?_
    refine sBin rfl rfl (aInt_lss) ?_
    refine sNil (kSeqN ?_)
    refine cSeq ?_   -- seq 10
    refine cCond rfl (fun c1 => ?_) (fun c1 => ?_)
    ·
      obtain ⟨b1, o1, p1, r1, c1', e1, gl, x1⟩ := (ha.ext he2).atN (by omega)
      cases e1
      have hxi := hx l[i] (List.getElem_mem c1)
      have hg : l.getD i 0 = l[i] := by rw [List.getD_eq_getElem?_getD, List.getElem?_eq_getElem c1]; rfl
      have hsh := Nat.shiftRight_le l[i] k
      have hcp := colP_lt l k i
      have h2i : 2 ^ i < 2 ^ 60 := Nat.pow_lt_pow_right (by omega) (by omega)
      have ha1 : l[i] >>> k &&& 1 ≤ 1 := Nat.and_le_right
      have hmul : (l[i] >>> k &&& 1) * 2 ^ i < 2 ^ 60 := Nat.lt_of_le_of_lt (Nat.mul_le_mul_right _ ha1) (by omega)
      have hgj : (cellsN (turnR l n k i))[0 + k * 1]? = some (nv (colP l k i)) := by
        rw [Nat.zero_add, Nat.mul_one]; refine cellsN_get ?_; rw [turnR_get c0, if_neg (by omega), if_pos rfl]
      refine cSkip (kSeqN ?_)
      refine cSeq ?_
      refine cBlock ?_
      refine cSeq ?_
      refine cRegion ?_
      refine sMv (v := nv _) rfl ?_
      refine sIx T22 S3 rfl rfl (by omega) ?_
      refine sLd (v := nv l[i]) A3 rfl gl (x1 i _ (List.getElem?_eq_getElem c1)) ?_
      refine sAs (v := nv _) rfl ?_
      refine sAs (v := nv _) rfl ?_
      refine sNil (kSeqN ?_)
      refine cDraw rfl ?_
      refine sMv (v := .slice _ _ _) rfl ?_
      refine sMv (v := nv _) rfl ?_
      refine sIx T22 S3 rfl rfl (by omega) ?_
      refine sLd (v := nv (colP l k i)) A3 rfl (by simp (disch := first | omega | (simp only [Array.size_push, Array.size_setIfInBounds]; done) | (simp only [Array.size_push, Array.size_setIfInBounds]; omega)) only [gP, gPn, gS, gSn, f1]; try rfl) hgj ?_
      refine sMv (v := nv _) rfl ?_
      refine sMv (v := nv _) rfl ?_
      refine sBin rfl rfl (aInt_shr (by omega)) ?_
      refine sBin rfl rfl (aInt_and (b := 1) (by omega)) ?_
      refine sMv (v := nv _) rfl ?_
      refine sBin rfl rfl (aInt_shl (by omega)) ?_
      refine sBin rfl rfl (aInt_or (by rw [Nat.shiftLeft_eq]; omega)) ?_
      refine sIx T22 S3 rfl rfl (by omega) ?_
      refine sSt (v := nv _) S3 rfl rfl (by simp (disch := first | omega | (simp only [Array.size_push, Array.size_setIfInBounds]; done) | (simp only [Array.size_push, Array.size_setIfInBounds]; omega)) only [gP, gPn, gS, gSn, f1]; try rfl) (by simp [turnR_length]; omega) rfl rfl ?_
      rw [cellsN_set, show 0 + k * 1 = k by omega]
      refine sNil (kBlkN (kSeqN ?_))
      refine cRegion ?_
      refine sBin rfl rfl (aInt_add (b := 1) (by omega)) ?_
      refine sMv (v := nv _) rfl ?_
      refine sNil (kSeqN ?_)
      refine ⟨_, ?_, i + 1, rfl, by omega, he2.set (by omega) _, by simpa using hz2, ?_, rfl, rfl, rfl, rfl, rfl, rfl, rfl, rfl, trivial⟩
      · omega
      · rw [gS rfl (by omega), ← turnR_set c0, colP, hg]
    ·
      refine cExit (kSeqE (kSeqE (kBlkS (kBlkN (kSeqN ?_)))))
      refine cRegion ?_
      refine sBin rfl rfl (aInt_add (b := 1) (by omega)) ?_
      refine sMv (v := nv _) rfl ?_
      refine sNil (kSeqN ?_)
      obtain rfl : i = l.length := by omega
      refine ⟨_, ?_, k + 1, rfl, by omega, he2, hz2, ?_, rfl, rfl, rfl, rfl, trivial⟩
      · omega
      · rw [f1, turnR_next]
  ·
    refine cExit (kSeqE (kSeqE (kBlkS (kSeqN ?_))))
    refine cSeq ?_
    refine cRegion ?_
    refine sMv (v := .slice _ _ _) rfl ?_
    refine sAs (v := .slice _ _ _) rfl ?_
    refine sNil (kSeqN ?_)
    refine cRet ?_
    obtain rfl : k = n := by omega
    refine ⟨.inr rfl, _, rfl, ?_, he⟩
    rw [turnR_last] at g1
    have := OwnF.ofCells (N := m.size) (r := []) (Nat.le_refl _) (by rw [List.append_nil]; exact g1)
    rw [List.append_nil, turnedM_length] at this
    exact this

theorem okf72 : okF Tryd.prog H0 72 25 = true := by kernel_rfl
theorem spec_Image {m : Mem} {a : Value} {l : List Nat} {x : Nat} (ha : IntsAt m a (ofs l)) (hl : l.length ≤ 60) (hx : ∀ y ∈ l, y < 2 ^ 60) (hw : x < 2 ^ 60) : ∃ v m', ACalls Tryd.prog 72 #[a, nv x] m v m' ∧ (v = nv (imgP l x l.length) ∧ m' = m) := by
  obtain ⟨q, cap, rfl⟩ := ha.lenN
  refine wpF (args := [_, _]) mixed okf72 (fn := Tryd.f72) rfl rfl rfl (by simp) ?_
  refine cSeq ?_
  refine cRegion ?_
  refine sAs (v := nv 0) rfl ?_
  refine sNil (kSeqN ?_)
  refine cSeq ?_
  refine cRegion ?_
  refine sAs (v := nv 0) rfl ?_
  refine sNil (kSeqN ?_)
  refine cSeq ?_
  refine cSeq ?_
  refine cRegion ?_
  refine sMv (v := .slice _ _ _) rfl ?_
  refine sLen T22 rfl ?_
  refine sMv (v := nv 0) rfl ?_
  refine sNil (kSeqN ?_)
  refine cBlock ?_
  refine wpC_loop (fun k ρ m' => ∃ i, k = l.length - i ∧ i ≤ l.length ∧ m' = m ∧ Has ρ [(1, nv x), (5, nv (imgP l x i)), (8, .slice q l.length cap), (9, nv l.length), (10, nv i)]) ⟨0, rfl, by omega, rfl, rfl, rfl, rfl, rfl, rfl, trivial⟩ ?_
  rintro k ρ m' ⟨i, rfl, hi, hm', hh⟩
  obtain rfl := hm'.symm
  rw [hh.env]; clear hh
  refine cSeq ?_
  refine cRegion ?_
  refine sBin rfl rfl (aInt_lss) ?_
  refine sNil (kSeqN ?_)
  refine cSeq ?_   -- seq 5
  refine cCond rfl (fun c0 => ?_) (fun c0 => ?_)
  ·
    obtain ⟨b1, o1, p1, r1, c1, e1, g1, x1⟩ := ha.atN (by omega)
    cases e1
    have hxi := hx l[i] (List.getElem_mem c0)
    have hg : l.getD i 0 = l[i] := by rw [List.getD_eq_getElem?_getD, List.getElem?_eq_getElem c0]; rfl
    have hand : l[i] &&& x ≤ l[i] := Nat.and_le_left
    have hip := imgP_lt l x i
    have hpl := parity_lt (l[i] &&& x)
    have h2i : 2 ^ i < 2 ^ 60 := Nat.pow_lt_pow_right (by omega) (by omega)
    have hmul : parity (l[i] &&& x) * 2 ^ i < 2 ^ 60 := Nat.lt_of_le_of_lt (Nat.mul_le_mul_right _ (show parity (l[i] &&& x) ≤ 1 by omega)) (by omega)
    refine cSkip (kSeqN ?_)
    refine cSeq ?_
    refine cBlock ?_
    refine cSeq ?_
    refine cRegion ?_
    refine sMv (v := nv _) rfl ?_
    refine sIx T22 S3 rfl rfl (by omega) ?_
    refine sLd (v := nv l[i]) A3 rfl g1 (x1 i _ (List.getElem?_eq_getElem c0)) ?_
    refine sAs (v := nv _) rfl ?_
    refine sAs (v := nv _) rfl ?_
    refine sNil (kSeqN ?_)
    refine cRegion ?_
    refine sMv (v := nv _) rfl ?_
    refine sMv (v := nv _) rfl ?_
    refine sMv (v := nv _) rfl ?_
    refine sBin rfl rfl (aInt_and (by omega)) ?_
    refine sCall1 (v := nv (parity (l[i] &&& x))) rfl call105 rfl (spec_Odd (by omega)) ?_
    refine sMv (v := nv _) rfl ?_
    refine sBin rfl rfl (aInt_shl (by omega)) ?_
    refine sBin rfl rfl (aInt_or (by rw [Nat.shiftLeft_eq]; omega)) ?_
    refine sAs (v := nv _) rfl ?_
    refine sNil (kBlkN (kSeqN ?_))
    refine cRegion ?_
    refine sBin rfl rfl (aInt_add (b := 1) (by omega)) ?_
    refine sMv (v := nv _) rfl ?_
    refine sNil (kSeqN ?_)
    refine ⟨_, ?_, i + 1, rfl, by omega, rfl, rfl, by rw [imgP, hg]; rfl, rfl, rfl, rfl, trivial⟩
    omega
  ·
    refine cExit (kSeqE (kSeqE (kBlkS (kSeqN ?_))))
    refine cSeq ?_
    refine cRegion ?_
    refine sMv (v := nv _) rfl ?_
    refine sAs (v := nv _) rfl ?_
    refine sNil (kSeqN ?_)
    refine cRet ?_
    obtain rfl : i = l.length := by omega
    exact ⟨.inr rfl, _, rfl, rfl, rfl⟩

theorem okf90 : okF Tryd.prog H0 90 39 = true := by kernel_rfl
theorem spec_Product {m : Mem} {a b : Value} {l r : List Nat} (ha : IntsAt m a (ofs l)) (hb : IntsAt m b (ofs r)) (hl : l.length ≤ 1000) (hr : r.length ≤ 1000) (hx : ∀ x ∈ l, x < 2 ^ 62) (hy : ∀ x ∈ r, x < 2 ^ 62) : ∃ v m', ACalls Tryd.prog 90 #[a, b] m v m' ∧ (OwnF m.size m' v (ofs (mulM l r)) ∧ Ext m m') := by
  obtain ⟨q, cap, rfl⟩ := ha.lenN
  obtain ⟨q2, cap2, rfl⟩ := hb.lenN
  refine wpF (args := [_, _]) mixed okf90 (fn := Tryd.f90) rfl rfl rfl (by simp) ?_
  refine cSeq ?_
  refine cRegion ?_
  refine sAs (v := .slice _ _ _) rfl ?_
  refine sNil (kSeqN ?_)
  refine cSeq ?_
  refine cRegion ?_
  refine sAs (v := .slice _ _ _) rfl ?_
  refine sNil (kSeqN ?_)
  refine cSeq ?_
  refine cSeq ?_
  refine cRegion ?_
  refine sMv (v := .slice _ _ _) rfl ?_
  refine sLen T22 rfl ?_
  refine sMv (v := nv 0) rfl ?_
  refine sNil (kSeqN ?_)
  refine cBlock ?_
  refine wpC_loop (fun k ρ m' => ∃ i v, k = l.length - i ∧ i ≤ l.length ∧ Low m.size m m' ∧ OwnF m.size m' v (ofs ((l.take i).map (total r))) ∧ Has ρ [(1, .slice q2 r.length cap2), (5, v), (10, .slice q l.length cap), (11, nv l.length), (12, nv i)]) ⟨0, _, rfl, Nat.zero_le _, .refl _ _, .nil _ _, rfl, rfl, rfl, rfl, rfl, trivial⟩ ?_
  rintro k ρ m' ⟨i, v, rfl, hi, hLo, hO, hh⟩
  obtain ⟨qv, cv, rfl⟩ := hO.ints.lenN
  rw [hh.env]; clear hh
  refine cSeq ?_
  refine cRegion ?_
  refine sBin rfl rfl (aInt_lss) ?_
  refine sNil (kSeqN ?_)
  refine cSeq ?_   -- seq 5
  refine cCond rfl (fun c0 => ?_) (fun c0 => ?_)
  ·
    obtain ⟨b1, o1, p1, r1, c1, e1, g1, x1⟩ := (hLo.ints ha (Nat.le_refl _)).atN (by omega)
    cases e1
    have hxi := hx l[i] (List.getElem_mem c0)
    have hb' := hLo.ints hb (Nat.le_refl _)
    refine cSkip (kSeqN ?_)
    refine cSeq ?_
    refine cBlock ?_
    refine cSeq ?_
    refine cRegion ?_
    refine sIx T22 S3 rfl rfl (by omega) ?_
    refine sLd (v := nv l[i]) A3 rfl g1 (x1 i _ (List.getElem?_eq_getElem c0)) ?_
    refine sAs (v := nv _) rfl ?_
    refine sNil (kSeqN ?_)
    refine cSeq ?_
    refine cRegion ?_
    refine sAs (v := nv 0) rfl ?_
    refine sNil (kSeqN ?_)
    refine cSeq ?_
    refine cSeq ?_
    refine cRegion ?_
    refine sMv (v := .slice _ _ _) rfl ?_
    refine sLen T22 rfl ?_
    refine sMv (v := nv 0) rfl ?_
    refine sNil (kSeqN ?_)
    refine cBlock ?_
    refine wpC_loop (fun k ρ m2 => ∃ j, k = r.length - j ∧ j ≤ r.length ∧ m2 = m' ∧ Has ρ [(1, .slice q2 r.length cap2), (5, .slice qv (List.map (total r) (List.take i l)).length cv), (7, nv l[i]), (8, nv (total (r.take j) l[i])), (10, .slice (some ⟨b1, o1, some 1⟩) l.length cap), (11, nv l.length), (12, nv i), (17, nv r.length), (18, nv j)]) ⟨0, rfl, Nat.zero_le _, rfl, rfl, rfl, rfl, rfl, rfl, rfl, rfl, rfl, rfl, trivial⟩ ?_
    rintro k2 ρ m2 ⟨j, rfl, hj, hm2, hh⟩
    obtain rfl := hm2.symm
    rw [hh.env]; clear hh
    refine cSeq ?_
    refine cRegion ?_
    refine sBin rfl rfl (aInt_lss) ?_
    refine sNil (kSeqN ?_)
    refine cSeq ?_   -- seq 12
    refine cCond rfl (fun c1 => ?_) (fun c1 => ?_)
    ·
      obtain ⟨b2, o2, p2, r2, c2', e2, g2, x2⟩ := hb'.atN (by omega)
      cases e2
      have hyj := hy r[j] (List.getElem_mem c1)
      have hsh := Nat.shiftRight_le l[i] j
      have htl := total_lt (l := r.take j) (n := 62) (fun x h => hy x (List.mem_of_mem_take h)) l[i]
      have hg : r.getD j 0 = r[j] := by rw [List.getD_eq_getElem?_getD, List.getElem?_eq_getElem c1]; rfl
      refine cSkip (kSeqN ?_)
      refine cSeq ?_
      refine cBlock ?_
      refine cSeq ?_
      refine cRegion ?_
      refine sMv (v := nv j) rfl ?_
      refine sAs (v := nv j) rfl ?_
      refine sNil (kSeqN ?_)
      refine cSeq ?_
      refine cRegion ?_
      refine sMv (v := nv _) rfl ?_
      refine sMv (v := nv _) rfl ?_
      refine sBin rfl rfl (aInt_shr (by omega)) ?_
      refine sBin rfl rfl (aInt_and (b := 1) (by omega)) ?_
      refine sBin rfl rfl (aInt_eql (b := 1)) ?_
      rw [decide_eq_decide.2 (iff_of_eq (and_one l[i] j))]
      refine sNil (kSeqN ?_)
      refine cCond rfl (fun c2 => ?_) (fun c2 => ?_)
      ·
        refine cRegion ?_
        refine sMv (v := nv _) rfl ?_
        refine sMv (v := .slice _ _ _) rfl ?_
        refine sMv (v := nv _) rfl ?_
        refine sIx T22 S3 rfl rfl (by omega) ?_
        refine sLd (v := nv r[j]) A3 rfl g2 (x2 j _ (List.getElem?_eq_getElem c1)) ?_
        refine sBin rfl rfl (aInt_xor (by omega)) ?_
        refine sAs (v := nv _) rfl ?_
        refine sNil (kBlkN (kSeqN ?_))
        refine cRegion ?_
        refine sBin rfl rfl (aInt_add (b := 1) (by omega)) ?_
        refine sMv (v := nv _) rfl ?_
        refine sNil (kSeqN ?_)
        refine ⟨_, ?_, j + 1, rfl, by omega, rfl, rfl, rfl, rfl, by rw [total_take_succ, if_pos c2, hg]; rfl, rfl, rfl, rfl, rfl, rfl, trivial⟩
        omega
      ·
        refine cSkip (kBlkN (kSeqN ?_))
        refine cRegion ?_
        refine sBin rfl rfl (aInt_add (b := 1) (by omega)) ?_
        refine sMv (v := nv _) rfl ?_
        refine sNil (kSeqN ?_)
        refine ⟨_, ?_, j + 1, rfl, by omega, rfl, rfl, rfl, rfl, by rw [total_take_succ, if_neg c2, Nat.xor_zero]; rfl, rfl, rfl, rfl, rfl, rfl, trivial⟩
        omega
    ·
      obtain rfl : j = r.length := by omega
      rw [List.take_length]
      refine cExit (kSeqE (kSeqE (kBlkS (kSeqN ?_))))
      refine cRegion ?_
      refine sMv (v := .slice _ _ _) rfl ?_
      refine sMv (v := nv _) rfl ?_
      refine sBuildS T22 S3 Z3 (by decide) (by decide) (by decide) (by kernel_rfl) fill1 rfl ?_
      refine sApp App22 rfl rfl (hO.ext (.push _ _)) one_ints (by have := hLo.1; simp; omega) (by simp; omega) fun v3 m3 hO3 hL3 => ?_
      have hO4 : OwnF m.size m3 v3 (ofs ((l.take (i + 1)).map (total r))) := by
        rw [List.take_succ_eq_append_getElem c0, List.map_append, ofs_append]; exact hO3
      obtain ⟨q3, cp3, rfl⟩ := hO4.ints.lenN
      refine sAs (v := .slice _ _ _) rfl ?_
      refine sNil (kBlkN (kSeqN ?_))
      refine cRegion ?_
      refine sBin rfl rfl (aInt_add (b := 1) (by omega)) ?_
      refine sMv (v := nv _) rfl ?_
      refine sNil (kSeqN ?_)
      refine ⟨_, ?_, i + 1, _, rfl, by omega, (hLo.push' hLo.1 _).trans hL3, hO4, rfl, rfl, rfl, rfl, rfl, trivial⟩
      omega
  ·
    refine cExit (kSeqE (kSeqE (kBlkS (kSeqN ?_))))
    refine cSeq ?_
    refine cRegion ?_
    refine sMv (v := .slice _ _ _) rfl ?_
    refine sAs (v := .slice _ _ _) rfl ?_
    refine sNil (kSeqN ?_)
    refine cRet ?_
    obtain rfl : i = l.length := by omega
    rw [List.take_length] at hO
    exact ⟨.inr rfl, _, rfl, by rw [List.take_length]; exact hO, hLo⟩

theorem okf93 : okF Tryd.prog H0 93 16 = true := by kernel_rfl
theorem spec_refOne {m : Mem} {n : Nat} (hn : n ≤ 60) : ∃ v m', ACalls Tryd.prog 93 #[nv n] m v m' ∧ (OwnF m.size m' v (ofs (oneM n)) ∧ Ext m m') := by
  refine wpF (args := [_]) mixed okf93 (fn := Tryd.f93) rfl rfl rfl (by simp) ?_
  refine cSeq ?_
  refine cRegion ?_
  refine sAs (v := .slice _ _ _) rfl ?_
  refine sNil (kSeqN ?_)
  refine cSeq ?_
  refine cRegion ?_
  refine sAs (v := .slice _ _ _) rfl ?_
  refine sNil (kSeqN ?_)
  refine cSeq ?_
  refine cSeq ?_
  refine cRegion ?_
  refine sAs (v := nv 0) rfl ?_
  refine sNil (kSeqN ?_)
  refine cBlock ?_
  refine wpC_loop (fun k ρ m' => ∃ i v, k = n - i ∧ i ≤ n ∧ Low m.size m m' ∧ OwnF m.size m' v (ofs (oneM i)) ∧ Has ρ [(0, nv n), (3, v), (4, nv i)]) ⟨0, _, rfl, Nat.zero_le _, .refl _ _, .nil _ _, rfl, rfl, rfl, trivial⟩ ?_
  rintro k ρ m' ⟨i, v, rfl, hi, hLo, hO, hh⟩
  obtain ⟨qv, cv, rfl⟩ := hO.ints.lenN
  rw [hh.env]; clear hh
  refine cSeq ?_   -- seq 4
  refine cSeq ?_
  refine cRegion ?_
  refine sMv (v := nv _) rfl ?_
  refine sMv (v := nv _) rfl ?_
  refine sBin rfl rfl (aInt_lss) ?_
  refine sNil (kSeqN ?_)
  refine cCond rfl (fun c0 => ?_) (fun c0 => ?_)
  ·
    have h2i : 2 ^ i < 2 ^ 60 := Nat.pow_lt_pow_right (by omega) (by omega)
    refine cSkip (kSeqN ?_)
    refine cSeq ?_
    refine cBlock ?_
    refine cRegion ?_
    refine sMv (v := .slice _ _ _) rfl ?_
    refine sMv (v := nv _) rfl ?_
    refine sBin rfl rfl (aInt_shl (a := 1) (by omega)) ?_
    rw [Nat.shiftLeft_eq, Nat.one_mul]
    refine sBuildS T22 S3 Z3 (by decide) (by decide) (by decide) (by kernel_rfl) fill1 rfl ?_
    refine sApp App22 rfl rfl (hO.ext (.push _ _)) one_ints (by have := hLo.1; simp; omega) (by simp [oneM]; omega) fun v3 m3 hO3 hL3 => ?_
    have hO4 : OwnF m.size m3 v3 (ofs (oneM (i + 1))) := by
      unfold oneM
      rw [List.range_succ, List.map_append, ofs_append]; exact hO3
    obtain ⟨q3, cp3, rfl⟩ := hO4.ints.lenN
    refine sAs (v := .slice _ _ _) rfl ?_
    refine sNil (kBlkN (kSeqN ?_))
    refine cRegion ?_
    refine sMv (v := nv _) rfl ?_
    refine sBin rfl rfl (aInt_add (b := 1) (by omega)) ?_
    refine sAs (v := nv _) rfl ?_
    refine sNil (kSeqN ?_)
    refine ⟨_, ?_, i + 1, _, rfl, by omega, (hLo.push' hLo.1 _).trans hL3, hO4, rfl, rfl, rfl, trivial⟩
    omega
  ·
    refine cExit (kSeqE (kSeqE (kBlkS (kSeqN ?_))))
    refine cSeq ?_
    refine cRegion ?_
    refine sMv (v := .slice _ _ _) rfl ?_
    refine sAs (v := .slice _ _ _) rfl ?_
    refine sNil (kSeqN ?_)
    refine cRet ?_
    obtain rfl : i = n := by omega
    exact ⟨.inr rfl, _, rfl, hO, hLo⟩

end Go.AM

/-! ### E29 -/
namespace Go.AM
open Go.Proofs
set_option maxRecDepth 100000
set_option linter.unusedVariables false
set_option linter.unusedSimpArgs false
theorem call61 : callable Tryd.prog 61 = true := by kernel_rfl
theorem call16 : callable Tryd.prog 16 = true := by kernel_rfl
theorem call30 : callable Tryd.prog 30 = true := by kernel_rfl
theorem call55 : callable Tryd.prog 55 = true := by kernel_rfl
theorem call56 : callable Tryd.prog 56 = true := by kernel_rfl
theorem call57 : callable Tryd.prog 57 = true := by kernel_rfl
theorem call58 : callable Tryd.prog 58 = true := by kernel_rfl
theorem call23' : callable Tryd.prog 23 = true := by kernel_rfl
theorem lt62 {L : List Nat} {n : Nat} (hn : n ≤ 24) (hL : ∀ x ∈ L, x < 2 ^ n) : ∀ x ∈ L, x < 2 ^ 62 := fun x hx => Nat.lt_of_lt_of_le (hL x hx) (Nat.pow_le_pow_right (by omega) (by omega))

theorem okf55 : okF Tryd.prog H0 55 17 = true := by kernel_rfl
theorem spec_refRank {m : Mem} {a : Value} {l : List Int} {n : Int} (ha : IntsAt m a l) (hl : l.length < 4611686018427387904) : ∃ v m', ACalls Tryd.prog 55 #[a, .int .i64 n] m v m' ∧ (v = .tuple #[nv (ifOk (checkF l n) (redM (nats l)).length 0), nv (checkF l n)] ∧ Ext m m') := by
  have h9 := spec_refCheck (n := n) ha hl
  obtain ⟨q, cap, rfl⟩ := ha.len
  refine wpF (args := [_, _]) mixed okf55 (fn := Tryd.f55) rfl rfl rfl (by simp) ?_
  refine cSeq ?_
  refine cRegion ?_
  refine sAs (v := nv 0) rfl ?_
  refine sAs (v := nv 0) rfl ?_
  refine sNil (kSeqN ?_)
  refine cSeq ?_
  refine cSeq ?_
  refine cRegion ?_
  refine sMv (v := .slice _ _ _) rfl ?_
  refine sMv (v := .int _ _) rfl ?_
  refine sCall2 rfl call61 rfl rfl h9 ?_
  refine sAs (v := nv _) rfl ?_
  refine sNil (kSeqN ?_)
  refine cSeq ?_
  refine cRegion ?_
  refine sMv (v := nv _) rfl ?_
  refine sBin (a := checkF l n) rfl rfl (aInt_neq (b := 0)) ?_
  refine sNil (kSeqN ?_)
  refine cCond rfl (fun c0 => ?_) (fun c0 => ?_)
  ·
    refine cSeq ?_
    refine cRegion ?_
    refine sMv (v := nv _) rfl ?_
    refine sAs (v := nv 0) rfl ?_
    refine sAs (v := nv _) rfl ?_
    refine sNil (kSeqN ?_)
    refine cRet (kSeqR ?_)
    exact ⟨.inr rfl, _, rfl, by rw [ifOk_n c0]; rfl, .refl _⟩
  ·
    have h0 := Decidable.not_not.1 c0
    obtain ⟨N, L, rfl, rfl, hN1, hN2, hL1, hL2⟩ := checkF_nat h0
    have hL3 : ∀ x ∈ L, x < 2 ^ 24 := fun x hx => Nat.lt_of_lt_of_le (hL2 x hx) (Nat.pow_le_pow_right (by omega) (by omega))
    obtain ⟨v14, m14, h14, k14, k14e⟩ := spec_refReduced (n := N) ha (by omega) (lt62 (by omega) hL2) (by omega)
    rw [refRedM_eq (by omega) hL2] at k14
    obtain ⟨q14, c14, rfl⟩ := k14.ints.lenN
    refine cSkip (kSeqN ?_)
    refine cSeq ?_
    refine cRegion ?_
    refine sMv (v := .slice _ _ _) rfl ?_
    refine sMv (v := nv N) rfl ?_
    refine sCall2 rfl call80 rfl rfl h14 ?_
    refine sLen T22 rfl ?_
    refine sAs (v := nv _) rfl ?_
    refine sAs (v := nv 0) rfl ?_
    refine sNil (kSeqN ?_)
    refine cRet ?_
    exact ⟨.inr rfl, _, rfl, by rw [ifOk_0 h0, nats_ofs, h0]; rfl, k14e⟩

theorem okf56 : okF Tryd.prog H0 56 16 = true := by kernel_rfl
theorem spec_refReduce {m : Mem} {a : Value} {l : List Int} {n : Int} (ha : IntsAt m a l) (hl : l.length < 4611686018427387904) : ∃ v m', ACalls Tryd.prog 56 #[a, .int .i64 n] m v m' ∧ (∃ w, v = .tuple #[w, nv (checkF l n)] ∧ OwnF m.size m' w (ofs (ifOk (checkF l n) (redM (nats l)) [])) ∧ Ext m m') := by
  have h9 := spec_refCheck (n := n) ha hl
  obtain ⟨q, cap, rfl⟩ := ha.len
  refine wpF (args := [_, _]) mixed okf56 (fn := Tryd.f56) rfl rfl rfl (by simp) ?_
  refine cSeq ?_
  refine cRegion ?_
  refine sAs (v := .slice _ _ _) rfl ?_
  refine sAs (v := nv 0) rfl ?_
  refine sNil (kSeqN ?_)
  refine cSeq ?_
  refine cSeq ?_
  refine cRegion ?_
  refine sMv (v := .slice _ _ _) rfl ?_
  refine sMv (v := .int _ _) rfl ?_
  refine sCall2 rfl call61 rfl rfl h9 ?_
  refine sAs (v := nv _) rfl ?_
  refine sNil (kSeqN ?_)
  refine cSeq ?_
  refine cRegion ?_
  refine sMv (v := nv _) rfl ?_
  refine sBin (a := checkF l n) rfl rfl (aInt_neq (b := 0)) ?_
  refine sNil (kSeqN ?_)
  refine cCond rfl (fun c0 => ?_) (fun c0 => ?_)
  ·
    refine cSeq ?_
    refine cRegion ?_
    refine sMv (v := nv _) rfl ?_
    refine sAs (v := .slice _ _ _) rfl ?_
    refine sAs (v := nv _) rfl ?_
    refine sNil (kSeqN ?_)
    refine cRet (kSeqR ?_)
    exact ⟨.inr rfl, _, rfl, _, rfl, by rw [ifOk_n c0]; exact .nil _ _, .refl _⟩
  ·
    have h0 := Decidable.not_not.1 c0
    obtain ⟨N, L, rfl, rfl, hN1, hN2, hL1, hL2⟩ := checkF_nat h0
    have hL3 : ∀ x ∈ L, x < 2 ^ 24 := fun x hx => Nat.lt_of_lt_of_le (hL2 x hx) (Nat.pow_le_pow_right (by omega) (by omega))
    obtain ⟨v14, m14, h14, k14, k14e⟩ := spec_refReduced (n := N) ha (by omega) (lt62 (by omega) hL2) (by omega)
    rw [refRedM_eq (by omega) hL2] at k14
    obtain ⟨q14, c14, rfl⟩ := k14.ints.lenN
    refine cSkip (kSeqN ?_)
    refine cSeq ?_
    refine cRegion ?_
    refine sMv (v := .slice _ _ _) rfl ?_
    refine sMv (v := nv N) rfl ?_
    refine sCall2 rfl call80 rfl rfl h14 ?_
    refine sAs (v := .slice _ _ _) rfl ?_
    refine sAs (v := nv 0) rfl ?_
    refine sNil (kSeqN ?_)
    refine cRet ?_
    exact ⟨.inr rfl, _, rfl, _, by rw [h0]; rfl, by rw [ifOk_0 h0, nats_ofs]; exact k14, k14e⟩

theorem okf58 : okF Tryd.prog H0 58 16 = true := by kernel_rfl
theorem spec_refNull {m : Mem} {a : Value} {l : List Int} {n : Int} (ha : IntsAt m a l) (hl : l.length < 4611686018427387904) : ∃ v m', ACalls Tryd.prog 58 #[a, .int .i64 n] m v m' ∧ (∃ w, v = .tuple #[w, nv (checkF l n)] ∧ OwnF m.size m' w (ofs (ifOk (checkF l n) (nullM (nats l) n.toNat) [])) ∧ Ext m m') := by
  have h9 := spec_refCheck (n := n) ha hl
  obtain ⟨q, cap, rfl⟩ := ha.len
  refine wpF (args := [_, _]) mixed okf58 (fn := Tryd.f58) rfl rfl rfl (by simp) ?_
  refine cSeq ?_
  refine cRegion ?_
  refine sAs (v := .slice _ _ _) rfl ?_
  refine sAs (v := nv 0) rfl ?_
  refine sNil (kSeqN ?_)
  refine cSeq ?_
  refine cSeq ?_
  refine cRegion ?_
  refine sMv (v := .slice _ _ _) rfl ?_
  refine sMv (v := .int _ _) rfl ?_
  refine sCall2 rfl call61 rfl rfl h9 ?_
  refine sAs (v := nv _) rfl ?_
  refine sNil (kSeqN ?_)
  refine cSeq ?_
  refine cRegion ?_
  refine sMv (v := nv _) rfl ?_
  refine sBin (a := checkF l n) rfl rfl (aInt_neq (b := 0)) ?_
  refine sNil (kSeqN ?_)
  refine cCond rfl (fun c0 => ?_) (fun c0 => ?_)
  ·
    refine cSeq ?_
    refine cRegion ?_
    refine sMv (v := nv _) rfl ?_
    refine sAs (v := .slice _ _ _) rfl ?_
    refine sAs (v := nv _) rfl ?_
    refine sNil (kSeqN ?_)
    refine cRet (kSeqR ?_)
    exact ⟨.inr rfl, _, rfl, _, rfl, by rw [ifOk_n c0]; exact .nil _ _, .refl _⟩
  ·
    have h0 := Decidable.not_not.1 c0
    obtain ⟨N, L, rfl, rfl, hN1, hN2, hL1, hL2⟩ := checkF_nat h0
    have hL3 : ∀ x ∈ L, x < 2 ^ 24 := fun x hx => Nat.lt_of_lt_of_le (hL2 x hx) (Nat.pow_le_pow_right (by omega) (by omega))
    obtain ⟨v14, m14, h14, k14, k14e⟩ := spec_Orthogonal (n := N) ha (by omega) (by omega) hL2
    rw [orthM_eq (by omega) hL2] at k14
    obtain ⟨q14, c14, rfl⟩ := k14.ints.lenN
    refine cSkip (kSeqN ?_)
    refine cSeq ?_
    refine cRegion ?_
    refine sMv (v := .slice _ _ _) rfl ?_
    refine sMv (v := nv N) rfl ?_
    refine sCall2 rfl call95 rfl rfl h14 ?_
    refine sAs (v := .slice _ _ _) rfl ?_
    refine sAs (v := nv 0) rfl ?_
    refine sNil (kSeqN ?_)
    refine cRet ?_
    exact ⟨.inr rfl, _, rfl, _, by rw [h0]; rfl, by rw [ifOk_0 h0, nats_ofs]; exact k14, k14e⟩

theorem okf57 : okF Tryd.prog H0 57 45 = true := by kernel_rfl
theorem spec_refFree {m : Mem} {a : Value} {l : List Int} {n : Int} (ha : IntsAt m a l) (hl : l.length < 4611686018427387904) : ∃ v m', ACalls Tryd.prog 57 #[a, .int .i64 n] m v m' ∧ (∃ w, v = .tuple #[w, nv (checkF l n)] ∧ OwnF m.size m' w (ofs (ifOk (checkF l n) (ledM (tableM (nats l)) n.toNat false) [])) ∧ Ext m m') := by
  have h9 := spec_refCheck (n := n) ha hl
  obtain ⟨q, cap, rfl⟩ := ha.len
  refine wpF (args := [_, _]) mixed okf57 (fn := Tryd.f57) rfl rfl rfl (by simp) ?_
  refine cSeq ?_
  refine cRegion ?_
  refine sAs (v := .slice _ _ _) rfl ?_
  refine sAs (v := nv 0) rfl ?_
  refine sNil (kSeqN ?_)
  refine cSeq ?_
  refine cSeq ?_
  refine cRegion ?_
  refine sMv (v := .slice _ _ _) rfl ?_
  refine sMv (v := .int _ _) rfl ?_
  refine sCall2 rfl call61 rfl rfl h9 ?_
  refine sAs (v := nv _) rfl ?_
  refine sNil (kSeqN ?_)
  refine cSeq ?_
  refine cRegion ?_
  refine sMv (v := nv _) rfl ?_
  refine sBin (a := checkF l n) rfl rfl (aInt_neq (b := 0)) ?_
  refine sNil (kSeqN ?_)
  refine cCond rfl (fun c0 => ?_) (fun c0 => ?_)
  ·
    refine cSeq ?_
    refine cRegion ?_
    refine sMv (v := nv _) rfl ?_
    refine sAs (v := .slice _ _ _) rfl ?_
    refine sAs (v := nv _) rfl ?_
    refine sNil (kSeqN ?_)
    refine cRet (kSeqR ?_)
    exact ⟨.inr rfl, _, rfl, _, rfl, by rw [ifOk_n c0]; exact .nil _ _, .refl _⟩
  ·
    have h0 := Decidable.not_not.1 c0
    obtain ⟨N, L, rfl, rfl, hN1, hN2, hL1, hL2⟩ := checkF_nat h0
    have hL3 : ∀ x ∈ L, x < 2 ^ 24 := fun x hx => Nat.lt_of_lt_of_le (hL2 x hx) (Nat.pow_le_pow_right (by omega) (by omega))
    have hRr := (redM_rref hL3).1
    have hRx := redM_lt (n := N) (by omega) hL2
    have hRl := redM_length L
    have hfin := refFree_eq (n := N) (by omega) hL2
    have hred : ∀ m' : Mem, IntsAt m' (.slice q (ofs L).length cap) (ofs L) → ∃ v m'', ACalls Tryd.prog 80 #[.slice q (ofs L).length cap, .int .i64 N] m' v m'' ∧ OwnF m'.size m'' v (ofs (redM L)) ∧ Ext m' m'' := fun m' hm' => by
      obtain ⟨v, m'', h1, h2, h3⟩ := spec_refReduced (n := N) hm' (by omega) (lt62 (by omega) hL2) (by omega)
      rw [refRedM_eq (by omega) hL2] at h2
      exact ⟨v, m'', h1, h2, h3⟩
    generalize redM L = R at hRr hRx hRl hfin hred
    refine cSkip (kSeqN ?_)
    refine cSeq ?_
    refine cRegion ?_
    refine sAs (v := .slice _ _ _) rfl ?_
    refine sNil (kSeqN ?_)
    refine cSeq ?_
    refine cSeq ?_
    refine cRegion ?_
    refine sAs (v := nv 0) rfl ?_
    refine sNil (kSeqN ?_)
    refine cBlock ?_
    refine wpC_loop (fun k ρ m' => ∃ i v, k = N - i ∧ i ≤ N ∧ Low m.size m m' ∧ OwnF m.size m' v (ofs (refFree R i)) ∧ Has ρ [(0, .slice q (ofs L).length cap), (1, nv N), (7, v), (8, nv i)]) ⟨0, _, rfl, Nat.zero_le _, .refl _ _, .nil _ _, rfl, rfl, rfl, rfl, trivial⟩ ?_
    rintro k ρ m' ⟨i, v, rfl, hi, hLo, hO, hh⟩
    obtain ⟨qv, cv, rfl⟩ := hO.ints.lenN
    rw [hh.env]; clear hh
    refine cSeq ?_   -- seq 8
    refine cSeq ?_
    refine cRegion ?_
    refine sMv (v := nv _) rfl ?_
    refine sMv (v := nv N) rfl ?_
    refine sBin rfl rfl (aInt_lss (b := N)) ?_
    refine sNil (kSeqN ?_)
    refine cCond rfl (fun c1 => ?_) (fun c1 => ?_)
    ·
      obtain ⟨v25, m25, h25, k25, k25e⟩ := hred _ (hLo.ints ha (Nat.le_refl _))
      have hI25 := k25.ints
      obtain ⟨q25, c25, rfl⟩ := hI25.lenN
      refine cSkip (kSeqN ?_)
      refine cSeq ?_
      refine cBlock ?_
      refine cSeq ?_
      refine cRegion ?_
      refine sAs (v := .bool _) rfl ?_
      refine sNil (kSeqN ?_)
      refine cSeq ?_
      refine cSeq ?_
      refine cRegion ?_
      refine sMv (v := .slice _ _ _) rfl ?_
      refine sMv (v := nv N) rfl ?_
      refine sCall2 rfl call80 rfl rfl h25 ?_
      refine sLen T22 rfl ?_
      refine sMv (v := nv 0) rfl ?_
      refine sNil (kSeqN ?_)
      refine cBlock ?_
      refine wpC_loop (fun k ρ m2 => ∃ j, k = R.length - j ∧ j ≤ R.length ∧ m2 = m25 ∧ Has ρ [(0, .slice q (ofs L).length cap), (1, nv N), (7, .slice qv (refFree R i).length cv), (8, nv i), (9, .bool ((R.take j).all fun r => decide (blen r - 1 ≠ i))), (25, .slice q25 R.length c25), (26, nv R.length), (27, nv j)]) ⟨0, rfl, Nat.zero_le _, rfl, rfl, rfl, rfl, rfl, rfl, rfl, rfl, rfl, trivial⟩ ?_
      rintro k2 ρ m2 ⟨j, rfl, hj, hm2, hh⟩
      obtain rfl := hm2.symm
      rw [hh.env]; clear hh
      refine cSeq ?_
      refine cRegion ?_
      refine sBin rfl rfl (aInt_lss) ?_
      refine sNil (kSeqN ?_)
      refine cSeq ?_   -- seq 15
      refine cCond rfl (fun c2 => ?_) (fun c2 => ?_)
      ·
        obtain ⟨b1, o1, p1, r1, c1', e1, g1, x1⟩ := hI25.atN (by omega)
        cases e1
        have hrj := hRx _ (List.getElem_mem c2)
        have hne := hRr.ne _ (List.getElem_mem c2)
        have hbp := blen_pos_iff.2 hne
        have h16 : 2 ^ N ≤ 2 ^ 16 := Nat.pow_le_pow_right (by omega) hN2
        have htk : R.take (j + 1) = R.take j ++ [R[j]] := List.take_succ_eq_append_getElem c2
        have hall : ((R.take (j + 1)).all fun r => decide (blen r - 1 ≠ i)) = (((R.take j).all fun r => decide (blen r - 1 ≠ i)) && decide (blen R[j] - 1 ≠ i)) := by
          rw [htk, List.all_append, List.all_cons, List.all_nil, Bool.and_true]
        refine cSkip (kSeqN ?_)
        refine cSeq ?_
        refine cBlock ?_
        refine cSeq ?_
        refine cRegion ?_
        refine sIx T22 S3 rfl rfl (by omega) ?_
        refine sLd (v := nv R[j]) A3 rfl g1 (x1 j _ (List.getElem?_eq_getElem c2)) ?_
        refine sAs (v := nv _) rfl ?_
        refine sNil (kSeqN ?_)
        refine cRegion ?_
        refine sMv (v := .bool _) rfl ?_
        refine sMv (v := .bool _) rfl ?_
        rcases Bool.eq_false_or_eq_true ((R.take j).all fun r => decide (blen r - 1 ≠ i)) with hd | hd
        ·
          rw [hd]
          refine sG rfl rfl ?_
          refine sMv (v := nv _) rfl ?_
          refine sG rfl rfl ?_
          refine sCall1 (v := nv (blen R[j] - 1)) rfl call94 rfl (by rw [← lead_nv hne]; exact spec_Lead (by omega)) ?_
          refine sG rfl rfl ?_
          refine sMv (v := nv _) rfl ?_
          refine sG rfl rfl ?_
          refine sBin rfl rfl aInt_neq ?_
          refine sP (v := .bool _) rfl ?_
          refine sAs (v := .bool _) rfl ?_
          refine sNil (kBlkN (kSeqN ?_))
          refine cRegion ?_
          refine sBin rfl rfl (aInt_add (b := 1) (by omega)) ?_
          refine sMv (v := nv _) rfl ?_
          refine sNil (kSeqN ?_)
          refine ⟨_, ?_, j + 1, rfl, by omega, rfl, rfl, rfl, rfl, rfl, by rw [hall, hd, Bool.true_and]; rfl, rfl, rfl, rfl, trivial⟩
          omega
        ·
          rw [hd]
          refine sGno (q' := false) rfl rfl (by simp) ?_
          refine sGno (q' := false) rfl rfl (by simp) ?_
          refine sGno (q' := false) rfl rfl (by simp) ?_
          refine sGno (q' := false) rfl rfl (by simp) ?_
          refine sP (v := .bool _) rfl ?_
          refine sAs (v := .bool _) rfl ?_
          refine sNil (kBlkN (kSeqN ?_))
          refine cRegion ?_
          refine sBin rfl rfl (aInt_add (b := 1) (by omega)) ?_
          refine sMv (v := nv _) rfl ?_
          refine sNil (kSeqN ?_)
          refine ⟨_, ?_, j + 1, rfl, by omega, rfl, rfl, rfl, rfl, rfl, by rw [hall, hd, Bool.false_and]; rfl, rfl, rfl, rfl, trivial⟩
          omega
      ·
        obtain rfl : j = R.length := by omega
        rw [List.take_length]
        refine cExit (kSeqE (kSeqE (kBlkS (kSeqN ?_))))
        refine cSeq ?_
        refine cRegion ?_
        refine sMv (v := .bool _) rfl ?_
        refine sNil (kSeqN ?_)
        refine cCond (p := (R.all fun r => decide (blen r - 1 ≠ i)) = true) (by show Value.bool _ = _; rw [Bool.decide_eq_true]) (fun c3 => ?_) (fun c3 => ?_)
        ·
          refine cRegion ?_
          refine sMv (v := .slice _ _ _) rfl ?_
          refine sMv (v := nv _) rfl ?_
          refine sBuildS T22 S3 Z3 (by decide) (by decide) (by decide) (by kernel_rfl) fill1 rfl ?_
          refine sApp App22 rfl rfl ((hO.ext k25e).ext (.push _ _)) one_ints (by have := hLo.1; have := k25e.1; simp; omega) (by have := List.length_filter_le (fun c => R.all fun r => decide (blen r - 1 ≠ c)) (List.range i); simp [refFree] at *; omega) fun v3 m3 hO3 hL3 => ?_
          have hO4 : OwnF m.size m3 v3 (ofs (refFree R (i + 1))) := by
            rw [refFree_succ, if_pos c3, ofs_append]; exact hO3
          obtain ⟨q3, cp3, rfl⟩ := hO4.ints.lenN
          refine sAs (v := .slice _ _ _) rfl ?_
          refine sNil (kBlkN (kSeqN ?_))
          refine cRegion ?_
          refine sMv (v := nv _) rfl ?_
          refine sBin rfl rfl (aInt_add (b := 1) (by omega)) ?_
          refine sAs (v := nv _) rfl ?_
          refine sNil (kSeqN ?_)
          refine ⟨_, ?_, i + 1, _, rfl, by omega, (hLo.trans_ext (k25e.push' _) hLo.1).trans hL3, hO4, rfl, rfl, rfl, rfl, trivial⟩
          omega
        ·
          refine cSkip (kBlkN (kSeqN ?_))
          refine cRegion ?_
          refine sMv (v := nv _) rfl ?_
          refine sBin rfl rfl (aInt_add (b := 1) (by omega)) ?_
          refine sAs (v := nv _) rfl ?_
          refine sNil (kSeqN ?_)
          refine ⟨_, ?_, i + 1, _, rfl, by omega, hLo.trans_ext k25e hLo.1, by rw [refFree_succ, if_neg c3, List.append_nil]; exact hO.ext k25e, rfl, rfl, rfl, rfl, trivial⟩
          omega
    ·
      obtain rfl : i = N := by omega
      refine cExit (kSeqE (kSeqE (kBlkS (kSeqN ?_))))
      refine cSeq ?_
      refine cRegion ?_
      refine sMv (v := .slice _ _ _) rfl ?_
      refine sAs (v := .slice _ _ _) rfl ?_
      refine sAs (v := nv 0) rfl ?_
      refine sNil (kSeqN ?_)
      refine cRet ?_
      exact ⟨.inr rfl, _, rfl, _, by rw [h0]; rfl, by rw [ifOk_0 h0, nats_ofs, show (Int.ofNat i).toNat = i from rfl, ← hfin]; exact hO, hLo⟩

/-- What is changed lies between two places. -/
def Mid (N B : Nat) (m m' : Mem) : Prop := m'.size = m.size ∧ ∀ b, b < N ∨ B ≤ b → Mem.get m' b = Mem.get m b
theorem own_clear {N : Nat} {m1 m : Mem} {v : Value} {l l' : List Int} (h1 : OwnF N m1 v l') (h : OwnF N m v l) : ∃ m', aClear Tryd.prog m 22 v = some (.tuple #[], m') ∧ Mid N m1.size m m' := by
  have hcl : (nv 0).cells = #[nv 0] := rfl
  rcases h with ⟨rfl, rfl⟩ | ⟨b, cap, c, rfl, h2, h3, h4, h5, h6⟩
  · refine ⟨m, ?_, rfl, fun _ _ => rfl⟩
    simp only [aClear, T22]
  · by_cases h0 : l.length = 0
    · refine ⟨m, ?_, rfl, fun _ _ => rfl⟩
      simp only [aClear, T22, h0, if_true]
    · refine ⟨m.setIfInBounds b (.cells true (lay c 0 (Builtin.zeroCells (nv 0).cells l.length))), ?_, by simp, fun i hi => ?_⟩
      · simp only [aClear, T22, if_neg h0, Z3, h3, hcl]
        rw [zeroCells_nv, if_pos ⟨by simp, by kernel_rfl, by simp; omega, by rw [Array.all_eq_true]; intro i hi; simp; rfl⟩]
      · have hb : b < m1.size := by
          rcases h1 with ⟨_, e⟩ | ⟨b', _, _, e, _, e3, _⟩
          · cases e
          · injection e with e1 e2 e4
            injection e1 with e1
            injection e1 with e1
            subst e1; exact live e3
        rw [get_set, if_neg (by omega)]

theorem okf30 : okF Tryd.prog H0 30 20 = true := by kernel_rfl
theorem spec_told {N e w : Nat} {m1 m : Mem} {a b : Value} {l r : List Nat} (h1 : OwnF N m1 a (ofs l)) (h : OwnF N m a (ofs l)) (hb : IntsAt m b (ofs r)) (hl : l.length < 1000) : ∃ v m', ACalls Tryd.prog 30 #[a, b, nv e, nv w] m v m' ∧
      (v = .bool (decide (e = w ∧ l = r)) ∧ Mid N m1.size m m') := by
  obtain ⟨m2, hcl, hmid⟩ := own_clear h1 h
  obtain ⟨q, cap, rfl⟩ := h.ints.lenN
  obtain ⟨q2, cap2, rfl⟩ := hb.lenN
  refine wpF (args := [_, _, _, _]) mixed okf30 (fn := Tryd.f30) rfl rfl rfl (by simp) ?_
  refine cSeq ?_
  refine cRegion ?_
  refine sAs (v := .bool _) rfl ?_
  refine sNil (kSeqN ?_)
  refine cSeq ?_
  refine cRegion ?_
  refine sMv (v := nv _) rfl ?_
  refine sMv (v := nv _) rfl ?_
  refine sBin (a := e) (b := w) rfl rfl aInt_eql ?_
  refine sMv (v := .bool _) rfl ?_
  by_cases hew : e = w
  ·
    rw [decide_eq_true hew]
    refine sG rfl rfl ?_
    refine sMv (v := .slice _ _ _) rfl ?_
    refine sG rfl rfl ?_
    refine sMv (v := .slice _ _ _) rfl ?_
    refine sG rfl rfl ?_
    obtain ⟨v16, m16, h16, rfl, k16⟩ := spec_Eq h.ints hb hl
    obtain rfl := k16.symm
    refine sCall2 rfl call23 rfl rfl h16 ?_
    refine sP (v := .bool _) rfl ?_
    refine sAs (v := .bool _) rfl ?_
    refine sNil (kSeqN ?_)
    refine cSeq ?_
    refine cRegion ?_
    refine sMv (v := .slice _ _ _) rfl ?_
    refine sO (opF_eff rfl rfl hcl) ?_
    refine sNil (kSeqN ?_)
    refine cSeq ?_
    refine cRegion ?_
    refine sMv (v := .bool _) rfl ?_
    refine sAs (v := .bool _) rfl ?_
    refine sNil (kSeqN ?_)
    refine cRet ?_
    exact ⟨.inr rfl, _, rfl, by show Value.bool _ = _; congr 1; simp [hew], hmid⟩
  ·
    rw [decide_eq_false hew]
    refine sGno (q' := false) rfl rfl (by simp) ?_
    refine sGno (q' := false) rfl rfl (by simp) ?_
    refine sGno (q' := false) rfl rfl (by simp) ?_
    refine sP (v := .bool _) rfl ?_
    refine sAs (v := .bool _) rfl ?_
    refine sNil (kSeqN ?_)
    refine cSeq ?_
    refine cRegion ?_
    refine sMv (v := .slice _ _ _) rfl ?_
    refine sO (opF_eff rfl rfl hcl) ?_
    refine sNil (kSeqN ?_)
    refine cSeq ?_
    refine cRegion ?_
    refine sMv (v := .bool _) rfl ?_
    refine sAs (v := .bool _) rfl ?_
    refine sNil (kSeqN ?_)
    refine cRet ?_
    exact ⟨.inr rfl, _, rfl, by show Value.bool _ = _; congr 1; simp [hew], hmid⟩

end Go.AM
