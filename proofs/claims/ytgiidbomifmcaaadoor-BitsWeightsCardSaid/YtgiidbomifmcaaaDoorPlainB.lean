/- Plain laws: the elimination of the reference, its rows, its orthogonal rows, its solution. -/
import Derived.Test.YtgiidbomifmcaaaDoorPlain
set_option linter.unusedVariables false
set_option linter.unusedSimpArgs false
/-! ### M5 -/
namespace Go.AM
set_option linter.unusedVariables false

def swapM (l : List Nat) (i j : Nat) : List Nat := (l.set i (l.getD j 0)).set j (l.getD i 0)
def clearM (l : List Nat) (u c : Nat) : List Nat := l.mapIdx fun i x => if i ≠ u ∧ x.testBit c = true then x ^^^ l.getD u 0 else x
def findM (l : List Nat) (c i : Nat) : Option Nat := (List.range' i (l.length - i)).find? fun i => (l.getD i 0).testBit c
def elimStep (x : List Nat × Nat) (c : Nat) : List Nat × Nat := match findM x.1 c x.2 with
  | none => x
  | some a => (clearM (swapM x.1 x.2 a) x.2 c, x.2 + 1)
def elimM : List Nat × Nat → Nat → List Nat × Nat
  | x, 0 => x
  | x, c + 1 => elimM (elimStep x c) c

theorem getD_set (l : List Nat) (i j x : Nat) (h : i < l.length) : (l.set i x).getD j 0 = if j = i then x else l.getD j 0 := by
  rw [List.getD_eq_getElem?_getD, List.getD_eq_getElem?_getD, List.getElem?_set]
  by_cases e : j = i
  · subst e; simp [h]
  · rw [if_neg (fun h => e h.symm), if_neg e]
theorem swapM_length (l : List Nat) (i j : Nat) : (swapM l i j).length = l.length := by simp [swapM]
theorem swapM_getD {l : List Nat} {u a : Nat} (hu : u < l.length) (ha : a < l.length) (j : Nat) : (swapM l u a).getD j 0 = if j = u then l.getD a 0 else if j = a then l.getD u 0 else l.getD j 0 := by
  unfold swapM
  rw [getD_set _ _ _ _ (by simpa using ha), getD_set _ _ _ _ hu]
  by_cases h1 : j = a
  · subst h1
    by_cases h2 : j = u
    · subst h2; simp
    · simp [h2]
  · by_cases h2 : j = u
    · subst h2; simp [h1]
    · simp [h1, h2]
theorem clearM_length (l : List Nat) (u c : Nat) : (clearM l u c).length = l.length := by simp [clearM]
theorem clearM_getD (l : List Nat) (u c j : Nat) : (clearM l u c).getD j 0 = if j ≠ u ∧ (l.getD j 0).testBit c = true then l.getD j 0 ^^^ l.getD u 0 else l.getD j 0 := by
  unfold clearM
  simp only [List.getD_eq_getElem?_getD, List.getElem?_mapIdx]
  cases l[j]? with
  | none => simp
  | some x => rfl
theorem findM_some {l : List Nat} {c i a : Nat} (h : findM l c i = some a) : i ≤ a ∧ a < l.length ∧ (l.getD a 0).testBit c = true := by
  have h1 := List.find?_some h
  have h2 := List.mem_of_find?_eq_some h
  rw [List.mem_range'_1] at h2
  exact ⟨h2.1, by omega, h1⟩
theorem findM_none {l : List Nat} {c i : Nat} (h : findM l c i = none) : ∀ j, i ≤ j → (l.getD j 0).testBit c = false := by
  intro j hj
  by_cases hl : j < l.length
  · have := List.find?_eq_none.1 h j (by rw [List.mem_range'_1]; omega)
    simpa using this
  · rw [getD_out (by omega)]; simp

theorem SameSpan.ofGetD {l r : List Nat} (h1 : ∀ j, InSpan r (l.getD j 0)) (h2 : ∀ j, InSpan l (r.getD j 0)) : SameSpan l r := by
  refine .of (fun x hx => ?_) (fun x hx => ?_)
  · obtain ⟨j, hj, rfl⟩ := List.mem_iff_getElem.1 hx
    have := h1 j
    rwa [List.getD_eq_getElem?_getD, List.getElem?_eq_getElem hj] at this
  · obtain ⟨j, hj, rfl⟩ := List.mem_iff_getElem.1 hx
    have := h2 j
    rwa [List.getD_eq_getElem?_getD, List.getElem?_eq_getElem hj] at this
theorem swapM_span {l : List Nat} {u a : Nat} (hu : u < l.length) (ha : a < l.length) : SameSpan (swapM l u a) l := by
  refine .ofGetD (fun j => ?_) (fun j => ?_)
  · rw [swapM_getD hu ha]
    split
    · exact .getD l _
    · split <;> exact .getD l _
  · have hl := swapM_getD hu ha
    by_cases h1 : j = u
    · subst h1
      by_cases h2 : a = j
      · subst h2; have := hl a; rw [if_pos rfl] at this; rw [← this]; exact .getD _ _
      · have := hl a; rw [if_neg h2, if_pos rfl] at this; rw [← this]; exact .getD _ _
    · by_cases h2 : j = a
      · subst h2; have := hl u; rw [if_pos rfl] at this; rw [← this]; exact .getD _ _
      · have := hl j; rw [if_neg h1, if_neg h2] at this; rw [← this]; exact .getD _ _
theorem clearM_span (l : List Nat) (u c : Nat) : SameSpan (clearM l u c) l := by
  refine .ofGetD (fun j => ?_) (fun j => ?_)
  · rw [clearM_getD]
    split
    · exact .xor (.getD _ _) (.getD _ _)
    · exact .getD _ _
  · have hu : InSpan (clearM l u c) (l.getD u 0) := by
      have := clearM_getD l u c u; rw [if_neg (by simp)] at this; rw [← this]; exact .getD _ _
    have hj : InSpan (clearM l u c) ((clearM l u c).getD j 0) := .getD _ _
    rw [clearM_getD] at hj
    split at hj
    · have := hj.xor hu; rwa [xor_cancel_right] at this
    · exact hj

/-- What has been brought about when the columns from c on are done. -/
structure EInv (n c : Nat) (out : List Nat) (used : Nat) (ps : Nat → Nat) : Prop where
  le : used ≤ out.length
  col : ∀ i, i < used → c ≤ ps i ∧ ps i < n
  bit : ∀ i, i < used → (out.getD i 0).testBit (ps i) = true
  top : ∀ i, i < used → ∀ d, ps i < d → d < n → (out.getD i 0).testBit d = false
  alone : ∀ i, i < used → ∀ j, j ≠ i → (out.getD j 0).testBit (ps i) = false
  fall : ∀ i j, i < j → j < used → ps j < ps i
  rest : ∀ i, used ≤ i → ∀ d, c ≤ d → d < n → (out.getD i 0).testBit d = false

theorem elimStep_inv {n c : Nat} {x : List Nat × Nat} {ps : Nat → Nat} (hc : c < n) (h : EInv n (c + 1) x.1 x.2 ps) : ∃ ps', EInv n c (elimStep x c).1 (elimStep x c).2 ps' := by
  obtain ⟨out, used⟩ := x
  unfold elimStep
  simp only at h ⊢
  cases hf : findM out c used with
  | none =>
    dsimp only
    refine ⟨ps, h.le, fun i hi => ⟨by have := (h.col i hi).1; omega, (h.col i hi).2⟩, h.bit, h.top, h.alone, h.fall, fun i hi d hd hdn => ?_⟩
    by_cases e : d = c
    · subst e; exact findM_none hf i hi
    · exact h.rest i hi d (by omega) hdn
  | some a =>
    dsimp only
    obtain ⟨ha1, ha2, ha3⟩ := findM_some hf
    have hu : used < out.length := by omega
    have hsw := swapM_getD hu ha2
    have hcl := clearM_getD (swapM out used a) used c
    have hsu : (swapM out used a).getD used 0 = out.getD a 0 := by rw [hsw, if_pos rfl]
    rw [hsu] at hcl
    -- the row that is taken has no bits ahead of c, nor at leads
    have r1 : ∀ d, c + 1 ≤ d → d < n → (out.getD a 0).testBit d = false := h.rest a ha1
    have r2 : ∀ i, i < used → (out.getD a 0).testBit (ps i) = false := fun i hi => h.alone i hi a (by omega)
    have hsi : ∀ i, i < used → (swapM out used a).getD i 0 = out.getD i 0 := fun i hi => by rw [hsw, if_neg (by omega), if_neg (by omega)]
    refine ⟨fun i => if i < used then ps i else c, by simp [clearM_length, swapM_length]; omega, fun i hi => ?_, fun i hi => ?_, fun i hi d hd hdn => ?_, fun i hi j hj => ?_, fun i j hij hj => ?_, fun i hi d hd hdn => ?_⟩
    · by_cases h1 : i < used
      · simp only [h1, if_true]; have := h.col i h1; omega
      · simp only [h1, if_false]; omega
    · by_cases h1 : i < used
      · simp only [h1, if_true]
        rw [hcl, hsi i h1]
        split
        · rw [Nat.testBit_xor, h.bit i h1, r2 i h1]; rfl
        · exact h.bit i h1
      · obtain rfl : i = used := by omega
        simp only [Nat.lt_irrefl, if_false]
        rw [hcl, if_neg (by simp), hsu]; exact ha3
    · by_cases h1 : i < used
      · simp only [h1, if_true] at hd
        have hcd : c + 1 ≤ d := by have := h.col i h1; omega
        rw [hcl, hsi i h1]
        split
        · rw [Nat.testBit_xor, h.top i h1 d hd hdn, r1 d hcd hdn]; rfl
        · exact h.top i h1 d hd hdn
      · obtain rfl : i = used := by omega
        simp only [Nat.lt_irrefl, if_false] at hd
        rw [hcl, if_neg (by simp), hsu]; exact r1 d (by omega) hdn
    · by_cases h1 : i < used
      · simp only [h1, if_true]
        have hs : ((swapM out used a).getD j 0).testBit (ps i) = false := by
          rw [hsw]
          split
          · exact r2 i h1
          · split
            · exact h.alone i h1 used (by omega)
            · exact h.alone i h1 j hj
        rw [hcl]
        split
        · rw [Nat.testBit_xor, hs, r2 i h1]; rfl
        · exact hs
      · obtain rfl : i = used := by omega
        simp only [Nat.lt_irrefl, if_false]
        rw [hcl]
        cases hb : ((swapM out i a).getD j 0).testBit c with
        | true => rw [if_pos ⟨hj, rfl⟩, Nat.testBit_xor, hb, ha3]; rfl
        | false => rw [if_neg (by simp), hb]
    · have h1 : i < used := by omega
      simp only [h1, if_true]
      by_cases h2 : j < used
      · simp only [h2, if_true]; exact h.fall i j hij h2
      · simp only [h2, if_false]; have := (h.col i h1).1; omega
    · have hs : ∀ d, c + 1 ≤ d → d < n → ((swapM out used a).getD i 0).testBit d = false := by
        intro d hd hdn
        rw [hsw, if_neg (by omega)]
        split
        · exact h.rest used (Nat.le_refl _) d hd hdn
        · exact h.rest i (by omega) d hd hdn
      rw [hcl]
      by_cases e : d = c
      · subst e
        cases hb : ((swapM out used a).getD i 0).testBit d with
        | true => rw [if_pos ⟨by omega, rfl⟩, Nat.testBit_xor, hb, ha3]; rfl
        | false => rw [if_neg (by simp), hb]
      · split
        · rw [Nat.testBit_xor, hs d (by omega) hdn, r1 d (by omega) hdn]; rfl
        · exact hs d (by omega) hdn
theorem elimStep_span (x : List Nat × Nat) (c : Nat) : SameSpan (elimStep x c).1 x.1 ∧ (elimStep x c).1.length = x.1.length := by
  unfold elimStep
  cases hf : findM x.1 c x.2 with
  | none => exact ⟨.refl _, rfl⟩
  | some a =>
    obtain ⟨ha1, ha2, ha3⟩ := findM_some hf
    exact ⟨(clearM_span _ _ _).trans (swapM_span (by omega) ha2), by simp [clearM_length, swapM_length]⟩
theorem elimM_inv {n : Nat} : ∀ (c : Nat) (x : List Nat × Nat) (ps : Nat → Nat), c ≤ n → EInv n c x.1 x.2 ps → ∃ ps', EInv n 0 (elimM x c).1 (elimM x c).2 ps'
  | 0, x, ps, _, h => ⟨ps, h⟩
  | c + 1, x, ps, hc, h => by
    obtain ⟨ps', h'⟩ := elimStep_inv (by omega) h
    exact elimM_inv c _ ps' (by omega) h'
theorem elimM_span : ∀ (c : Nat) (x : List Nat × Nat), SameSpan (elimM x c).1 x.1 ∧ (elimM x c).1.length = x.1.length
  | 0, x => ⟨.refl _, rfl⟩
  | c + 1, x => by
    obtain ⟨h1, h2⟩ := elimM_span c (elimStep x c)
    obtain ⟨h3, h4⟩ := elimStep_span x c
    exact ⟨h1.trans h3, h2.trans h4⟩
theorem EInv.init (l : List Nat) (n : Nat) : EInv n n l 0 (fun _ => 0) :=
  ⟨by omega, fun i h => absurd h (by omega), fun i h => absurd h (by omega), fun i h => absurd h (by omega), fun i h => absurd h (by omega), fun i j _ h => absurd h (by omega), fun i _ d h1 h2 => absurd h2 (by omega)⟩
theorem elim_all (l : List Nat) (n : Nat) : ∃ ps, EInv n 0 (elimM (l, 0) n).1 (elimM (l, 0) n).2 ps := elimM_inv n (l, 0) _ (Nat.le_refl _) (.init l n)

/-- The reference's reduced rows. -/
def refRedM (l : List Nat) (n : Nat) : List Nat := (elimM (l, 0) n).1.take (elimM (l, 0) n).2
theorem EInv.rref {n : Nat} {out : List Nat} {used : Nat} {ps : Nat → Nat} (h : EInv n 0 out used ps) (hb : ∀ x ∈ out, x < 2 ^ n) : Rref (out.take used) ∧ SameSpan (out.take used) out := by
  have hlt : ∀ i, out.getD i 0 < 2 ^ n := fun i => by
    by_cases hi : i < out.length
    · exact hb _ (getD_mem hi)
    · rw [getD_out (by omega)]; exact Nat.two_pow_pos n
  have hbl : ∀ i, i < used → blen (out.getD i 0) = ps i + 1 := by
    intro i hi
    refine blen_eq (lt_two_pow_of_bits fun d hd => ?_) (h.bit i hi)
    by_cases hdn : d < n
    · exact h.top i hi d (by omega) hdn
    · exact testBit_ge (hlt i) (by omega)
  have hget : ∀ x ∈ out.take used, ∃ i, i < used ∧ out.getD i 0 = x := by
    intro x hx
    obtain ⟨i, hi, rfl⟩ := List.mem_iff_getElem.1 hx
    have hi2 : i < used ∧ i < out.length := by rw [List.length_take] at hi; omega
    refine ⟨i, hi2.1, ?_⟩
    rw [List.getElem_take, List.getD_eq_getElem?_getD, List.getElem?_eq_getElem hi2.2]; rfl
  refine ⟨⟨?_, fun a ha => ?_, fun a ha b hb' hab => ?_⟩, .of (fun x hx => .mem (List.mem_of_mem_take hx)) fun x hx => ?_⟩
  · unfold Fall
    rw [List.pairwise_iff_getElem]
    intro i j hi hj hij
    have hi2 : i < used ∧ i < out.length := by rw [List.length_take] at hi; omega
    have hj2 : j < used ∧ j < out.length := by rw [List.length_take] at hj; omega
    have e1 := hbl i hi2.1
    have e2 := hbl j hj2.1
    have e3 := h.fall i j hij hj2.1
    rw [List.getD_eq_getElem?_getD, List.getElem?_eq_getElem hi2.2] at e1
    rw [List.getD_eq_getElem?_getD, List.getElem?_eq_getElem hj2.2] at e2
    rw [List.getElem_take, List.getElem_take]
    simp only [Option.getD_some] at e1 e2
    omega
  · obtain ⟨i, hi, rfl⟩ := hget a ha
    intro e
    have := hbl i hi
    rw [e] at this; simp [blen] at this
  · obtain ⟨i, hi, rfl⟩ := hget a ha
    obtain ⟨j, hj, rfl⟩ := hget b hb'
    rw [hbl i hi, Nat.add_sub_cancel]
    exact h.alone i hi j (by intro e; subst e; exact hab rfl)
  · obtain ⟨i, hi, rfl⟩ := List.mem_iff_getElem.1 hx
    have e : out.getD i 0 = out[i] := by rw [List.getD_eq_getElem?_getD, List.getElem?_eq_getElem hi]; rfl
    by_cases hu : i < used
    · refine .mem ?_
      refine List.mem_iff_getElem.2 ⟨i, by rw [List.length_take]; omega, by rw [List.getElem_take]⟩
    · have : out.getD i 0 = 0 := by
        apply Nat.eq_of_testBit_eq; intro d
        rw [Nat.zero_testBit]
        by_cases hdn : d < n
        · exact h.rest i (by omega) d (by omega) hdn
        · exact testBit_ge (hlt i) (by omega)
      rw [← e, this]; exact .zero _
theorem refRedM_rref {l : List Nat} {n : Nat} (hl : ∀ x ∈ l, x < 2 ^ n) : Rref (refRedM l n) ∧ SameSpan (refRedM l n) l := by
  obtain ⟨ps, h⟩ := elim_all l n
  obtain ⟨h1, h2⟩ := elimM_span n (l, 0)
  obtain ⟨h3, h4⟩ := h.rref fun x hx => ((h1 x).1 (.mem hx)).lt hl
  exact ⟨h3, h4.trans h1⟩
end Go.AM

/-! ### M10 -/
namespace Go.AM
set_option linter.unusedVariables false
def leadsM (R : List Nat) : Nat := R.foldl (fun a r => a ||| 2 ^ (blen r - 1)) 0
theorem leadsM_snoc (R : List Nat) (r : Nat) : leadsM (R ++ [r]) = leadsM R ||| 2 ^ (blen r - 1) := by simp [leadsM]
def orthX (R : List Nat) (c : Nat) : Nat := R.foldl (fun a r => if r.testBit c then a ||| 2 ^ (blen r - 1) else a) (2 ^ c)
theorem orthX_snoc (R : List Nat) (c r : Nat) : orthX (R ++ [r]) c = if r.testBit c then orthX R c ||| 2 ^ (blen r - 1) else orthX R c := by simp [orthX]
def orthCols (R : List Nat) (n : Nat) : List Nat := (List.range n).filter fun c => !(leadsM R).testBit c
theorem orthCols_succ (R : List Nat) (n : Nat) : orthCols R (n + 1) = orthCols R n ++ (if (leadsM R).testBit n then [] else [n]) := by
  unfold orthCols
  rw [List.range_succ, List.filter_append]
  by_cases h : (leadsM R).testBit n <;> simp [h]
def orthRows (R : List Nat) (n : Nat) : List Nat := (orthCols R n).map (orthX R)
def orthM (l : List Nat) (n : Nat) : List Nat := refRedM (orthRows (refRedM l n) n) n
theorem leadsM_lt {n : Nat} (hn : 0 < n) : ∀ (R : List Nat), (∀ r ∈ R, r < 2 ^ n) → leadsM R < 2 ^ n := by
  intro R
  suffices h : ∀ (R : List Nat) (a : Nat), a < 2 ^ n → (∀ r ∈ R, r < 2 ^ n) → R.foldl (fun a r => a ||| 2 ^ (blen r - 1)) a < 2 ^ n by
    exact fun hR => h R 0 (Nat.two_pow_pos n) hR
  intro R
  induction R with
  | nil => intro a ha _; exact ha
  | cons r R ih =>
    intro a ha hR
    rw [List.foldl_cons]
    refine ih _ (Nat.or_lt_two_pow ha (Nat.pow_lt_pow_right (by omega) ?_)) fun q hq => hR q (by simp [hq])
    have := blen_le_of_lt (hR r (by simp)); omega
theorem orthX_lt {n c : Nat} (hc : c < n) : ∀ (R : List Nat), (∀ r ∈ R, r < 2 ^ n) → orthX R c < 2 ^ n := by
  intro R
  suffices h : ∀ (R : List Nat) (a : Nat), a < 2 ^ n → (∀ r ∈ R, r < 2 ^ n) → R.foldl (fun a r => if r.testBit c then a ||| 2 ^ (blen r - 1) else a) a < 2 ^ n by
    exact fun hR => h R _ (Nat.pow_lt_pow_right (by omega) hc) hR
  intro R
  induction R with
  | nil => intro a ha _; exact ha
  | cons r R ih =>
    intro a ha hR
    rw [List.foldl_cons]
    refine ih _ ?_ fun q hq => hR q (by simp [hq])
    split
    · refine Nat.or_lt_two_pow ha (Nat.pow_lt_pow_right (by omega) ?_)
      have := blen_le_of_lt (hR r (by simp)); omega
    · exact ha
theorem orthRows_lt {R : List Nat} {n x : Nat} (hR : ∀ r ∈ R, r < 2 ^ n) (h : x ∈ orthRows R n) : x < 2 ^ n := by
  obtain ⟨c, hc, rfl⟩ := List.mem_map.1 h
  exact orthX_lt (List.mem_range.1 (List.mem_filter.1 hc).1) R hR
theorem orthCols_len (R : List Nat) (n : Nat) : (orthCols R n).length ≤ n := by
  have := List.length_filter_le (fun c => !(leadsM R).testBit c) (List.range n)
  simpa [orthCols] using this
theorem refRedM_lt {l : List Nat} {n : Nat} (hl : ∀ x ∈ l, x < 2 ^ n) : ∀ x ∈ refRedM l n, x < 2 ^ n := fun x hx => (((refRedM_rref hl).2 x).1 (.mem hx)).lt hl
theorem refRedM_len (l : List Nat) (n : Nat) : (refRedM l n).length ≤ l.length := by
  unfold refRedM
  rw [List.length_take, (elimM_span n (l, 0)).2]
  exact Nat.min_le_right _ _
end Go.AM

/-! ### M11 -/
namespace Go.AM
set_option linter.unusedVariables false
/-- Rows with their right sides, the first so many. -/
def bothP (l : List Nat) (n b : Nat) : Nat → List Nat
  | 0 => []
  | i + 1 => bothP l n b i ++ [l.getD i 0 ||| ((b >>> i &&& 1) <<< n)]
def bothRows (l : List Nat) (n b : Nat) : List Nat := bothP l n b l.length
theorem bothP_length (l : List Nat) (n b : Nat) : ∀ i, (bothP l n b i).length = i
  | 0 => rfl
  | i + 1 => by simp [bothP, bothP_length l n b i]
theorem bothP_getD (l : List Nat) (n b : Nat) : ∀ i j, j < i → (bothP l n b i).getD j 0 = l.getD j 0 ||| ((b >>> j &&& 1) <<< n)
  | 0, j, h => by omega
  | i + 1, j, h => by
    rw [bothP]
    by_cases hj : j < i
    · rw [getD_append_left (by rw [bothP_length]; exact hj)]; exact bothP_getD l n b i j hj
    · obtain rfl : j = i := by omega
      have := getD_append_here (t := bothP l n b j) (x := l.getD j 0 ||| ((b >>> j &&& 1) <<< n))
      rw [bothP_length] at this; exact this
theorem bothP_lt {l : List Nat} {n b : Nat} (hl : ∀ x ∈ l, x < 2 ^ n) : ∀ i, ∀ x ∈ bothP l n b i, x < 2 ^ (n + 1)
  | 0, x, h => by simp [bothP] at h
  | i + 1, x, h => by
    rw [bothP] at h
    rcases List.mem_append.1 h with h | h
    · exact bothP_lt hl i x h
    · rw [List.mem_singleton.1 h]
      refine Nat.or_lt_two_pow ?_ (Nat.lt_of_le_of_lt (bit_le b i n) (Nat.pow_lt_pow_right (by omega) (by omega)))
      by_cases hi : i < l.length
      · exact Nat.lt_of_lt_of_le (hl _ (getD_mem hi)) (Nat.pow_le_pow_right (by omega) (by omega))
      · rw [getD_out (by omega)]; exact Nat.two_pow_pos _
/-- The columns that are 1, of the first rows; none where rows contradict. -/
def solP (E : List Nat) (used n : Nat) : Nat → Option Nat
  | 0 => some 0
  | i + 1 => match solP E used n i with
    | none => none
    | some x => if (E.getD i 0).testBit n then (if used ≤ i then none else some (x ||| 2 ^ (blen (E.getD i 0 &&& (2 ^ n - 1)) - 1))) else some x
def finX (rows : List Nat) (x : Nat) : Nat := rows.foldl (fun x r => if x.testBit (blen r - 1) then x ^^^ r else x) x
theorem finX_snoc (rows : List Nat) (r x : Nat) : finX (rows ++ [r]) x = if (finX rows x).testBit (blen r - 1) then finX rows x ^^^ r else finX rows x := by
  unfold finX; rw [List.foldl_append]; rfl
def solM (l : List Nat) (n b : Nat) : Option Nat :=
  (solP (elimM (bothRows l n b, 0) n).1 (elimM (bothRows l n b, 0) n).2 n (elimM (bothRows l n b, 0) n).1.length).map (finX (orthM l n))
/-- A row that was used has a bit among the first columns. -/
theorem used_ne {E : List Nat} {used n i : Nat} {ps : Nat → Nat} (h : EInv n 0 E used ps) (hi : i < used) : E.getD i 0 &&& (2 ^ n - 1) ≠ 0 := by
  intro e
  have h1 := h.bit i hi
  have h2 := (h.col i hi).2
  have := congrArg (·.testBit (ps i)) e
  simp only [Nat.testBit_and, Nat.testBit_two_pow_sub_one, h1, h2, decide_true, Bool.and_true, Nat.zero_testBit] at this
  cases this
theorem solP_lt {E : List Nat} {used n : Nat} {ps : Nat → Nat} (h : EInv n 0 E used ps) : ∀ (i x : Nat), solP E used n i = some x → x < 2 ^ n
  | 0, x, h => by simp [solP] at h; subst h; exact Nat.two_pow_pos n
  | i + 1, x, hs => by
    rw [solP] at hs
    split at hs
    · cases hs
    · rename_i y hy
      have hy' := solP_lt h i y hy
      split at hs
      · split at hs
        · cases hs
        · rename_i hu
          injection hs with hs; subst hs
          refine Nat.or_lt_two_pow hy' (Nat.pow_lt_pow_right (by omega) ?_)
          have h1 : E.getD i 0 &&& (2 ^ n - 1) < 2 ^ n := Nat.lt_of_le_of_lt Nat.and_le_right (by have := Nat.two_pow_pos n; omega)
          have h2 := blen_le_of_lt h1
          have h3 := blen_pos_iff.2 (used_ne h (i := i) (by omega))
          omega
      · injection hs with hs; subst hs; exact hy'
theorem finX_lt {n : Nat} : ∀ (rows : List Nat) (x : Nat), x < 2 ^ n → (∀ r ∈ rows, r < 2 ^ n) → finX rows x < 2 ^ n := by
  intro rows
  induction rows with
  | nil => intro x hx _; exact hx
  | cons r rows ih =>
    intro x hx hr
    unfold finX
    rw [List.foldl_cons]
    refine ih _ ?_ fun q hq => hr q (by simp [hq])
    split
    · exact Nat.xor_lt_two_pow hx (hr r (by simp))
    · exact hx
end Go.AM

/-! ### M12 -/
namespace Go.AM
set_option linter.unusedVariables false
theorem lt24 {L : List Nat} {n : Nat} (hn : n ≤ 24) (hL : ∀ x ∈ L, x < 2 ^ n) : ∀ x ∈ L, x < 2 ^ 24 := fun x hx => Nat.lt_of_lt_of_le (hL x hx) (Nat.pow_le_pow_right (by omega) hn)
theorem refRedM_eq {L : List Nat} {n : Nat} (hn : n ≤ 24) (hL : ∀ x ∈ L, x < 2 ^ n) : refRedM L n = redM L := by
  obtain ⟨h1, h2⟩ := refRedM_rref hL
  obtain ⟨h3, h4⟩ := redM_rref (lt24 hn hL)
  exact h1.unique h3 (h2.trans h4.symm)
theorem mem_redM {L : List Nat} (hL : ∀ x ∈ L, x < 2 ^ 24) {r : Nat} : r ∈ redM L ↔ ∃ j, j < 24 ∧ (tableM L).getD j 0 = r ∧ r ≠ 0 ∧ blen r = j + 1 := by
  have ht := (tableM_red hL).1
  have hlen := tableM_length L
  unfold redM
  rw [mem_fallingM]
  constructor
  · rintro ⟨h1, h2⟩
    obtain ⟨j, hj, rfl⟩ := List.mem_iff_getElem.1 h1
    have e : (tableM L).getD j 0 = (tableM L)[j] := by rw [List.getD_eq_getElem?_getD, List.getElem?_eq_getElem hj]; rfl
    refine ⟨j, by omega, e, h2, ?_⟩
    have := (ht j hj).resolve_left (by rw [e]; exact h2)
    rw [e] at this; exact this.1
  · rintro ⟨j, hj, rfl, h2, h3⟩
    exact ⟨getD_mem (by omega), h2⟩
theorem leadsM_testBit (c : Nat) : ∀ (R : List Nat), (leadsM R).testBit c = R.any fun r => decide (blen r - 1 = c) := by
  intro R
  suffices h : ∀ (R : List Nat) (a : Nat), (R.foldl (fun a r => a ||| 2 ^ (blen r - 1)) a).testBit c = (a.testBit c || R.any fun r => decide (blen r - 1 = c)) by
    have := h R 0
    simpa [leadsM] using this
  intro R
  induction R with
  | nil => intro a; simp
  | cons r R ih =>
    intro a
    rw [List.foldl_cons, ih, Nat.testBit_or, Nat.testBit_two_pow, List.any_cons, Bool.or_assoc]
theorem orthX_testBit (c j : Nat) : ∀ (R : List Nat), (orthX R c).testBit j = (decide (c = j) || R.any fun r => r.testBit c && decide (blen r - 1 = j)) := by
  intro R
  suffices h : ∀ (R : List Nat) (a : Nat), (R.foldl (fun a r => if r.testBit c then a ||| 2 ^ (blen r - 1) else a) a).testBit j = (a.testBit j || R.any fun r => r.testBit c && decide (blen r - 1 = j)) by
    have := h R (2 ^ c)
    rw [Nat.testBit_two_pow] at this
    exact this
  intro R
  induction R with
  | nil => intro a; simp
  | cons r R ih =>
    intro a
    rw [List.foldl_cons, ih, List.any_cons]
    cases h : r.testBit c
    · simp
    · simp only [if_true, Nat.testBit_or, Nat.testBit_two_pow, Bool.true_and, Bool.or_assoc]
theorem rowN_testBit (t : List Nat) (k j : Nat) : ∀ js : List Nat, (rowN t k js).testBit j = (decide (k = j) || js.any fun i => decide (j = i) && (t.getD i 0).testBit k) := by
  intro js
  suffices h : ∀ (js : List Nat) (a : Nat), (js.foldl (fun r j => r ||| ((t.getD j 0 >>> k &&& 1) <<< j)) a).testBit j = (a.testBit j || js.any fun i => decide (j = i) && (t.getD i 0).testBit k) by
    have := h js (1 <<< k)
    rw [Nat.shiftLeft_eq, Nat.one_mul, Nat.testBit_two_pow] at this
    unfold rowN
    rw [Nat.shiftLeft_eq, Nat.one_mul]
    exact this
  intro js
  induction js with
  | nil => intro a; simp
  | cons i js ih =>
    intro a
    rw [List.foldl_cons, ih, Nat.testBit_or, bit_testBit, List.any_cons, Bool.or_assoc]
/-- A column is a lead just if the table has a row there. -/
theorem lead_iff {L : List Nat} (hL : ∀ x ∈ L, x < 2 ^ 24) {c : Nat} (hc : c < 24) : ((redM L).any fun r => decide (blen r - 1 = c)) = decide ((tableM L).getD c 0 ≠ 0) := by
  rw [Bool.eq_iff_iff, List.any_eq_true, decide_eq_true_eq]
  constructor
  · rintro ⟨r, hr, hb⟩
    obtain ⟨j, hj, h1, h2, h3⟩ := (mem_redM hL).1 hr
    have : j = c := by have := of_decide_eq_true hb; omega
    subst this
    rw [h1]; exact h2
  · intro h0
    have ht := ((tableM_red hL).1 c (by rw [tableM_length]; exact hc)).resolve_left h0
    exact ⟨_, (mem_redM hL).2 ⟨c, hc, rfl, h0, ht.1⟩, decide_eq_true (by rw [ht.1]; omega)⟩
theorem orthCols_eq {L : List Nat} {n : Nat} (hn : n ≤ 24) (hL : ∀ x ∈ L, x < 2 ^ n) : orthCols (redM L) n = ledM (tableM L) n false := by
  unfold orthCols ledM
  refine List.filter_congr fun c hc => ?_
  have hc' : c < 24 := by have := List.mem_range.1 hc; omega
  rw [leadsM_testBit, lead_iff (lt24 hn hL) hc', isLed]
  generalize decide ((tableM L).getD c 0 ≠ 0) = d
  cases d <;> rfl
theorem orthRows_eq {L : List Nat} {n : Nat} (hn : n ≤ 24) (hL : ∀ x ∈ L, x < 2 ^ n) : orthRows (redM L) n = nullRows (tableM L) n := by
  unfold orthRows nullRows
  rw [orthCols_eq hn hL]
  refine List.map_congr_left fun c hc => ?_
  apply Nat.eq_of_testBit_eq
  intro j
  rw [orthX_testBit, rowN_testBit]
  refine congrArg (decide (c = j) || ·) ?_
  rw [Bool.eq_iff_iff, List.any_eq_true, List.any_eq_true]
  constructor
  · rintro ⟨r, hr, hb⟩
    obtain ⟨i, hi, h1, h2, h3⟩ := (mem_redM (lt24 hn hL)).1 hr
    simp only [Bool.and_eq_true, decide_eq_true_eq] at hb
    have hij : i = j := by omega
    subst hij
    refine ⟨i, ?_, by rw [h1, hb.1, decide_eq_true rfl]; rfl⟩
    refine List.mem_filter.2 ⟨List.mem_range.2 ?_, by rw [isLed, h1, decide_eq_true h2]; rfl⟩
    have hlt := redM_rref (lt24 hn hL)
    have := ((hlt.2 r).1 (.mem hr)).lt hL
    have := blen_le_of_lt this
    omega
  · rintro ⟨i, hi, hb⟩
    simp only [Bool.and_eq_true, decide_eq_true_eq] at hb
    obtain ⟨rfl, hb⟩ := hb
    obtain ⟨h1, h2⟩ := List.mem_filter.1 hi
    have hj : j < 24 := by have := List.mem_range.1 h1; omega
    have h0 : (tableM L).getD j 0 ≠ 0 := by simpa [isLed] using h2
    have ht := ((tableM_red (lt24 hn hL)).1 j (by rw [tableM_length]; exact hj)).resolve_left h0
    exact ⟨_, (mem_redM (lt24 hn hL)).2 ⟨j, hj, rfl, h0, ht.1⟩, by rw [hb, ht.1, Nat.add_sub_cancel, decide_eq_true rfl]; rfl⟩
theorem orthM_eq {L : List Nat} {n : Nat} (hn : n ≤ 24) (hL : ∀ x ∈ L, x < 2 ^ n) : orthM L n = nullM L n := by
  unfold orthM nullM
  rw [refRedM_eq hn hL, orthRows_eq hn hL, refRedM_eq hn fun x hx => nullRows_lt hx]
/-- The reference's free columns. -/
def refFree (R : List Nat) (n : Nat) : List Nat := (List.range n).filter fun c => R.all fun r => decide (blen r - 1 ≠ c)
theorem refFree_succ (R : List Nat) (n : Nat) : refFree R (n + 1) = refFree R n ++ (if R.all fun r => decide (blen r - 1 ≠ n) then [n] else []) := by
  unfold refFree
  rw [List.range_succ, List.filter_append, List.filter_cons, List.filter_nil]
theorem all_any {f : Nat → Nat} {c : Nat} : ∀ R : List Nat, (R.all fun r => decide (f r ≠ c)) = !(R.any fun r => decide (f r = c))
  | [] => rfl
  | r :: R => by
    rw [List.all_cons, List.any_cons, all_any R, Bool.not_or]
    by_cases h : f r = c
    · rw [decide_eq_true h, decide_eq_false (by simpa using h)]; rfl
    · rw [decide_eq_false h, decide_eq_true h]; rfl
theorem refFree_eq {L : List Nat} {n : Nat} (hn : n ≤ 24) (hL : ∀ x ∈ L, x < 2 ^ n) : refFree (redM L) n = ledM (tableM L) n false := by
  unfold refFree ledM
  refine List.filter_congr fun c hc => ?_
  have hc' : c < 24 := by have := List.mem_range.1 hc; omega
  have h1 := lead_iff (lt24 hn hL) hc'
  rw [all_any (f := fun r => blen r - 1), h1, isLed]
  generalize decide ((tableM L).getD c 0 ≠ 0) = d
  cases d <;> rfl
end Go.AM
