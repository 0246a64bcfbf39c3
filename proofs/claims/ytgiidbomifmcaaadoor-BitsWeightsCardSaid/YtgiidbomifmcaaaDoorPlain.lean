/- Plain laws on bits of numbers, spans, reduced rows, popcount; no program in sight. -/
set_option linter.unusedVariables false
set_option linter.unusedSimpArgs false
/-! ### M0 -/
namespace Go.AM
def popF : Nat → Nat → Nat
  | 0, _ => 0
  | f + 1, x => if x = 0 then 0 else x % 2 + popF f (x / 2)
@[simp] theorem popF_zero (x : Nat) : popF 0 x = 0 := rfl
theorem popF_fuel : ∀ (f g x : Nat), x < 2 ^ f → x < 2 ^ g → popF f x = popF g x
  | 0, 0, x, _, _ => rfl
  | 0, g + 1, x, h, _ => by obtain rfl : x = 0 := by omega
                            simp [popF]
  | f + 1, 0, x, _, h => by obtain rfl : x = 0 := by omega
                            simp [popF]
  | f + 1, g + 1, x, h, h' => by
    rw [popF, popF]
    split
    · rfl
    · rw [popF_fuel f g (x / 2) (by rw [Nat.pow_succ] at h; omega) (by rw [Nat.pow_succ] at h'; omega)]
def popc (x : Nat) : Nat := popF x x
def parity : Nat → Nat
  | 0 => 0
  | x + 1 => (x + 1) % 2 ^^^ parity ((x + 1) / 2)
def blen (x : Nat) : Nat := if x = 0 then 0 else x.log2 + 1
theorem popc_pos {x : Nat} (h : 0 < x) : popc x = x % 2 + popc (x / 2) := by
  obtain ⟨y, rfl⟩ : ∃ y, x = y + 1 := ⟨x - 1, by omega⟩
  unfold popc
  rw [popF, if_neg (by omega), popF_fuel y ((y + 1) / 2) _ (Nat.lt_of_le_of_lt (by omega) (Nat.lt_two_pow_self (n := y))) Nat.lt_two_pow_self]
theorem parity_pos {x : Nat} (h : 0 < x) : parity x = x % 2 ^^^ parity (x / 2) := by
  obtain ⟨y, rfl⟩ : ∃ y, x = y + 1 := ⟨x - 1, by omega⟩
  rw [parity]
theorem blen_pos {x : Nat} (h : 0 < x) : blen x = 1 + blen (x / 2) := by
  unfold blen
  rw [if_neg (by omega)]
  by_cases h2 : x / 2 = 0
  · obtain rfl : x = 1 := by omega
    rfl
  · rw [if_neg h2, Nat.log2_def, if_pos (by omega)]; omega
theorem popc_le (x : Nat) : popc x ≤ x := by
  induction x using Nat.strongRecOn with
  | _ x ih =>
    by_cases h : 0 < x
    · rw [popc_pos h]; have := ih (x / 2) (by omega); omega
    · obtain rfl : x = 0 := by omega
      simp [popc]
theorem blen_le (x : Nat) : blen x ≤ x := by
  induction x using Nat.strongRecOn with
  | _ x ih =>
    by_cases h : 0 < x
    · rw [blen_pos h]; have := ih (x / 2) (by omega); omega
    · obtain rfl : x = 0 := by omega
      simp [blen]
theorem parity_lt (x : Nat) : parity x < 2 := by
  induction x using Nat.strongRecOn with
  | _ x ih =>
    by_cases h : 0 < x
    · rw [parity_pos h]; have := ih (x / 2) (by omega)
      exact Nat.xor_lt_two_pow (n := 1) (by omega) (by omega)
    · obtain rfl : x = 0 := by omega
      simp [parity]
end Go.AM

/-! ### M1 -/
namespace Go.AM
set_option linter.unusedVariables false

/-! ### How long a number is -/
theorem blen_zero : blen 0 = 0 := by simp [blen]
theorem lt_two_pow_blen (x : Nat) : x < 2 ^ blen x := by
  induction x using Nat.strongRecOn with
  | _ x ih =>
    by_cases h : 0 < x
    · rw [blen_pos h]
      have := ih (x / 2) (by omega)
      rw [Nat.add_comm, Nat.pow_succ]; omega
    · obtain rfl : x = 0 := by omega
      simp [blen]
theorem blen_le_of_lt {x k : Nat} (h : x < 2 ^ k) : blen x ≤ k := by
  induction k generalizing x with
  | zero => obtain rfl : x = 0 := by omega
            simp [blen]
  | succ k ih =>
    by_cases hx : 0 < x
    · rw [blen_pos hx]
      have := ih (x := x / 2) (by rw [Nat.pow_succ] at h; omega)
      omega
    · obtain rfl : x = 0 := by omega
      simp [blen]
theorem blen_pos_iff {x : Nat} : 0 < blen x ↔ x ≠ 0 := by
  constructor
  · intro h e; subst e; simp [blen] at h
  · intro h; rw [blen_pos (by omega)]; omega
theorem testBit_blen {x : Nat} (h : x ≠ 0) : x.testBit (blen x - 1) = true := by
  induction x using Nat.strongRecOn with
  | _ x ih =>
    rw [blen_pos (by omega), show 1 + blen (x / 2) - 1 = blen (x / 2) by omega]
    by_cases h2 : x / 2 = 0
    · have : x = 1 := by omega
      subst this; simp [blen]
    · have h3 := ih (x / 2) (by omega) h2
      have h4 := blen_pos_iff.2 h2
      rw [show blen (x / 2) = blen (x / 2) - 1 + 1 by omega, Nat.testBit_succ]
      exact h3
theorem lt_blen_of_testBit {x j : Nat} (h : x.testBit j = true) : j < blen x := by
  by_cases hj : j < blen x
  · exact hj
  · have : x < 2 ^ j := Nat.lt_of_lt_of_le (lt_two_pow_blen x) (Nat.pow_le_pow_right (by omega) (by omega))
    rw [Nat.testBit_lt_two_pow this] at h; cases h
theorem blen_eq {x k : Nat} (h1 : x < 2 ^ (k + 1)) (h2 : x.testBit k = true) : blen x = k + 1 := by
  have := blen_le_of_lt h1
  have := lt_blen_of_testBit h2
  omega
theorem testBit_ge {x k j : Nat} (h : x < 2 ^ k) (hj : k ≤ j) : x.testBit j = false :=
  Nat.testBit_lt_two_pow (Nat.lt_of_lt_of_le h (Nat.pow_le_pow_right (by omega) hj))
theorem lt_two_pow_of_bits {x k : Nat} (h : ∀ j, k ≤ j → x.testBit j = false) : x < 2 ^ k := by
  by_cases hx : x = 0
  · subst hx; exact Nat.two_pow_pos k
  · have h1 := testBit_blen hx
    have h2 : blen x - 1 < k := by
      by_cases hk : k ≤ blen x - 1
      · rw [h _ hk] at h1; cases h1
      · omega
    exact Nat.lt_of_lt_of_le (lt_two_pow_blen x) (Nat.pow_le_pow_right (by omega) (by omega))
/-- The greatest bit in which two numbers are not the same tells which is less. -/
theorem top_bit {x y : Nat} (h : y < x) : x ^^^ y ≠ 0 ∧ x.testBit (blen (x ^^^ y) - 1) = true := by
  have hd : x ^^^ y ≠ 0 := by
    intro e
    have : x = y := by
      apply Nat.eq_of_testBit_eq; intro i
      have := congrArg (·.testBit i) e
      simp only [Nat.testBit_xor, Nat.zero_testBit] at this
      revert this; cases x.testBit i <;> cases y.testBit i <;> simp
    omega
  refine ⟨hd, ?_⟩
  generalize hi : blen (x ^^^ y) - 1 = i
  have hb := testBit_blen hd
  rw [hi, Nat.testBit_xor] at hb
  have hup : ∀ j, i < j → x.testBit j = y.testBit j := by
    intro j hj
    have : (x ^^^ y).testBit j = false := by
      cases e : (x ^^^ y).testBit j with
      | false => rfl
      | true => have := lt_blen_of_testBit e; omega
    rw [Nat.testBit_xor] at this
    revert this; cases x.testBit j <;> cases y.testBit j <;> simp
  cases ex : x.testBit i with
  | true => rfl
  | false =>
    exfalso
    have ey : y.testBit i = true := by rw [ex] at hb; simpa using hb
    have e1 : x / 2 ^ (i + 1) = y / 2 ^ (i + 1) := by
      apply Nat.eq_of_testBit_eq; intro j
      rw [Nat.testBit_div_two_pow, Nat.testBit_div_two_pow]
      exact hup _ (by omega)
    have e2 : x % 2 ^ (i + 1) < 2 ^ i := by
      apply lt_two_pow_of_bits
      intro j hj
      rw [Nat.testBit_mod_two_pow]
      by_cases hji : j = i
      · subst hji; simp [ex]
      · have : ¬ j < i + 1 := by omega
        simp [this]
    have e3 : 2 ^ i ≤ y % 2 ^ (i + 1) := by
      apply Nat.ge_two_pow_of_testBit
      rw [Nat.testBit_mod_two_pow, ey]; simp
    have a1 := Nat.div_add_mod x (2 ^ (i + 1))
    have a2 := Nat.div_add_mod y (2 ^ (i + 1))
    rw [e1] at a1
    omega

theorem xor_cancel_left (a b : Nat) : a ^^^ (a ^^^ b) = b := by rw [← Nat.xor_assoc, Nat.xor_self, Nat.zero_xor]
theorem xor_cancel_right (a b : Nat) : a ^^^ b ^^^ b = a := by rw [Nat.xor_assoc, Nat.xor_self, Nat.xor_zero]
theorem xor_swap4 (a b c d : Nat) : (a ^^^ b) ^^^ (c ^^^ d) = (a ^^^ c) ^^^ (b ^^^ d) := by
  rw [Nat.xor_assoc, Nat.xor_assoc, ← Nat.xor_assoc b c d, Nat.xor_comm b c, Nat.xor_assoc c b d]
theorem xor_mid (a b c : Nat) : a ^^^ b ^^^ c ^^^ b = a ^^^ c := by
  rw [Nat.xor_assoc (a ^^^ b) c b, Nat.xor_comm c b, ← Nat.xor_assoc, xor_cancel_right]
theorem eq_of_xor_zero {a b : Nat} (h : a ^^^ b = 0) : a = b := by
  have := xor_cancel_right a b
  rw [h, Nat.zero_xor] at this; exact this.symm
theorem xor_div_two (a b : Nat) : (a ^^^ b) / 2 = a / 2 ^^^ b / 2 := by
  apply Nat.eq_of_testBit_eq; intro i
  rw [Nat.testBit_xor, Nat.testBit_div_two, Nat.testBit_div_two, Nat.testBit_div_two, Nat.testBit_xor]
theorem blen_xor_top {a b k : Nat} (ha : blen a = k + 1) (hb : b < 2 ^ k) : blen (a ^^^ b) = k + 1 := by
  have h1 : a < 2 ^ (k + 1) := by rw [← ha]; exact lt_two_pow_blen a
  have h2 : a.testBit k = true := by
    have := testBit_blen (x := a) (by intro e; subst e; simp [blen] at ha)
    rw [ha] at this; exact this
  refine blen_eq (Nat.xor_lt_two_pow h1 (Nat.lt_of_lt_of_le hb (Nat.pow_le_pow_right (by omega) (by omega)))) ?_
  rw [Nat.testBit_xor, h2, Nat.testBit_lt_two_pow hb]; rfl

/-! ### Sums of rows -/
def total : List Nat → Nat → Nat
  | [], _ => 0
  | r :: l, w => (if w.testBit 0 then r else 0) ^^^ total l (w / 2)
theorem total_zero : ∀ l : List Nat, total l 0 = 0
  | [] => rfl
  | r :: l => by simp [total, total_zero l]
theorem total_xor : ∀ (l : List Nat) (a b : Nat), total l (a ^^^ b) = total l a ^^^ total l b
  | [], a, b => by simp [total]
  | r :: l, a, b => by
    simp only [total, xor_div_two, total_xor l, Nat.testBit_xor]
    rw [xor_swap4]
    congr 1
    cases a.testBit 0 <;> cases b.testBit 0 <;> simp
theorem total_append : ∀ (l r : List Nat) (w : Nat), total (l ++ r) w = total l w ^^^ total r (w / 2 ^ l.length)
  | [], r, w => by simp [total]
  | x :: l, r, w => by
    simp only [List.cons_append, total, total_append l r, List.length_cons]
    rw [Nat.xor_assoc, Nat.div_div_eq_div_mul, Nat.pow_succ, Nat.mul_comm]
theorem total_single (x w : Nat) : total [x] w = if w.testBit 0 then x else 0 := by simp [total]
theorem total_snoc (l : List Nat) (x w : Nat) : total (l ++ [x]) w = total l w ^^^ (if w.testBit l.length then x else 0) := by
  rw [total_append, total_single, Nat.testBit_div_two_pow, Nat.zero_add]
theorem total_pow : ∀ (l : List Nat) (i : Nat), total l (2 ^ i) = l.getD i 0
  | [], i => by simp [total]
  | r :: l, 0 => by simp [total, total_zero]
  | r :: l, i + 1 => by
    have : 2 ^ (i + 1) / 2 = 2 ^ i := by rw [Nat.pow_succ]; omega
    simp only [total, this, total_pow l i]
    have : (2 ^ (i + 1)).testBit 0 = false := by rw [Nat.testBit_two_pow]; simp
    simp [this]
theorem total_take_succ (l : List Nat) (k w : Nat) : total (l.take (k + 1)) w = total (l.take k) w ^^^ (if w.testBit k then l.getD k 0 else 0) := by
  by_cases hk : k < l.length
  · rw [List.take_succ_eq_append_getElem hk, total_snoc]
    simp only [List.length_take, Nat.min_eq_left (Nat.le_of_lt hk), List.getD_eq_getElem?_getD, List.getElem?_eq_getElem hk, Option.getD_some]
  · have h1 : l.take (k + 1) = l := List.take_of_length_le (by omega)
    have h2 : l.take k = l := List.take_of_length_le (by omega)
    rw [h1, h2, List.getD_eq_getElem?_getD, List.getElem?_eq_none (by omega)]
    simp
theorem total_lt {l : List Nat} {n : Nat} (h : ∀ x ∈ l, x < 2 ^ n) (w : Nat) : total l w < 2 ^ n := by
  induction l generalizing w with
  | nil => exact Nat.two_pow_pos n
  | cons r l ih =>
    simp only [total]
    refine Nat.xor_lt_two_pow ?_ (ih (fun x hx => h x (by simp [hx])) _)
    split
    · exact h r (by simp)
    · exact Nat.two_pow_pos n
theorem total_mod (l : List Nat) (w : Nat) : total l (w % 2 ^ l.length) = total l w := by
  induction l generalizing w with
  | nil => rfl
  | cons r l ih =>
    simp only [total, List.length_cons]
    have h1 : (w % 2 ^ (l.length + 1)).testBit 0 = w.testBit 0 := by rw [Nat.testBit_mod_two_pow]; simp
    have h2 : w % 2 ^ (l.length + 1) / 2 = (w / 2) % 2 ^ l.length := by
      rw [Nat.pow_succ, Nat.mul_comm, Nat.mod_mul_right_div_self]
    simp only [h1, h2, ih]

/-! ### Spans -/
def InSpan (l : List Nat) (x : Nat) : Prop := ∃ w, total l w = x
theorem InSpan.zero (l : List Nat) : InSpan l 0 := ⟨0, total_zero l⟩
theorem InSpan.xor {l : List Nat} {x y : Nat} (hx : InSpan l x) (hy : InSpan l y) : InSpan l (x ^^^ y) := by
  obtain ⟨a, rfl⟩ := hx
  obtain ⟨b, rfl⟩ := hy
  exact ⟨a ^^^ b, total_xor l a b⟩
theorem InSpan.mem {l : List Nat} {x : Nat} (h : x ∈ l) : InSpan l x := by
  obtain ⟨i, hi, rfl⟩ := List.mem_iff_getElem.1 h
  refine ⟨2 ^ i, ?_⟩
  rw [total_pow]; simp [hi]
theorem InSpan.trans {l r : List Nat} (h : ∀ x ∈ l, InSpan r x) {y : Nat} (hy : InSpan l y) : InSpan r y := by
  obtain ⟨w, rfl⟩ := hy
  induction l generalizing w with
  | nil => exact .zero r
  | cons a l ih =>
    simp only [total]
    refine .xor ?_ (ih (fun x hx => h x (by simp [hx])) _)
    split
    · exact h a (by simp)
    · exact .zero r
theorem InSpan.lt {l : List Nat} {n : Nat} (h : ∀ x ∈ l, x < 2 ^ n) {x : Nat} (hx : InSpan l x) : x < 2 ^ n := by
  obtain ⟨w, rfl⟩ := hx; exact total_lt h w
theorem InSpan.take {l : List Nat} {k x : Nat} (h : InSpan (l.take k) x) : InSpan l x := h.trans fun y hy => .mem (List.mem_of_mem_take hy)
def SameSpan (l r : List Nat) : Prop := ∀ x, InSpan l x ↔ InSpan r x
theorem SameSpan.refl (l : List Nat) : SameSpan l l := fun _ => Iff.rfl
theorem SameSpan.symm {l r : List Nat} (h : SameSpan l r) : SameSpan r l := fun x => (h x).symm
theorem SameSpan.trans {l r s : List Nat} (h : SameSpan l r) (h' : SameSpan r s) : SameSpan l s := fun x => (h x).trans (h' x)
theorem SameSpan.of {l r : List Nat} (h1 : ∀ x ∈ l, InSpan r x) (h2 : ∀ x ∈ r, InSpan l x) : SameSpan l r := fun x => ⟨fun h => h.trans h1, fun h => h.trans h2⟩

/-- Rows by their leads: none, or a row whose greatest bit is just there. -/
def Leads (t : List Nat) : Prop := ∀ k, k < t.length → t.getD k 0 = 0 ∨ blen (t.getD k 0) = k + 1
theorem Leads.take_span {t : List Nat} (h : Leads t) (w : Nat) : ∀ k, k ≤ t.length → total (t.take k) w < 2 ^ k ∧ (total (t.take k) w = 0 ∨ t.getD (blen (total (t.take k) w) - 1) 0 ≠ 0)
  | 0, _ => by simp [total]
  | k + 1, hk => by
    obtain ⟨h1, h2⟩ := h.take_span w k (by omega)
    rw [total_take_succ]
    by_cases hb : w.testBit k = true ∧ t.getD k 0 ≠ 0
    · rw [if_pos hb.1]
      rcases h k (by omega) with e | e
      · exact absurd e hb.2
      · have e2 : blen (total (t.take k) w ^^^ t.getD k 0) = k + 1 := by rw [Nat.xor_comm]; exact blen_xor_top e h1
        refine ⟨by have := lt_two_pow_blen (total (t.take k) w ^^^ t.getD k 0); rw [e2] at this; exact this, .inr ?_⟩
        rw [e2]; exact hb.2
    · have : (if w.testBit k = true then t.getD k 0 else 0) = 0 := by
        by_cases h0 : w.testBit k = true
        · rw [if_pos h0]; exact Decidable.not_not.1 fun h3 => hb ⟨h0, h3⟩
        · rw [if_neg h0]
      rw [this, Nat.xor_zero]
      exact ⟨Nat.lt_of_lt_of_le h1 (Nat.pow_le_pow_right (by omega) (by omega)), h2⟩
/-- The greatest bit of what such rows give is a lead. -/
theorem Leads.lead {t : List Nat} (h : Leads t) {x : Nat} (hx : InSpan t x) (h0 : x ≠ 0) : t.getD (blen x - 1) 0 ≠ 0 := by
  obtain ⟨w, rfl⟩ := hx
  have := h.take_span w t.length (Nat.le_refl _)
  rw [List.take_length] at this
  exact this.2.resolve_left h0
end Go.AM
namespace Go.AM
theorem blen_shr {x k : Nat} (h : 2 ^ k ≤ x) : blen x = k + blen (x >>> k) := by
  have hx : x ≠ 0 := by have := Nat.two_pow_pos k; omega
  have h0 : x >>> k ≠ 0 := by
    rw [Nat.shiftRight_eq_div_pow]
    have := Nat.div_pos h (Nat.two_pow_pos k); omega
  have h1 := testBit_blen h0
  rw [Nat.testBit_shiftRight] at h1
  have h2 := lt_blen_of_testBit h1
  have h3 := testBit_blen hx
  have h4 := blen_pos_iff.2 h0
  have h5 := blen_pos_iff.2 hx
  have h6 : (x >>> k).testBit (blen x - 1 - k) = true := by
    rw [Nat.testBit_shiftRight, show k + (blen x - 1 - k) = blen x - 1 by omega]; exact h3
  have h7 := lt_blen_of_testBit h6
  omega
end Go.AM

/-! ### M2 -/
namespace Go.AM
set_option linter.unusedVariables false

abbrev Sys := List (Nat × Nat)
def Sys.at (s : Sys) (k : Nat) : Nat × Nat := s.getD k (0, 0)
def sys0 : Sys := List.replicate 24 (0, 0)
/-- Rows of the span are taken off a row, from the column k - 1 on. -/
def splitM (s : Sys) : Nat → Nat × Nat → Nat × Nat
  | 0, x => x
  | k + 1, x => splitM s k (if x.1.testBit k then (x.1 ^^^ (s.at k).1, x.2 ^^^ (s.at k).2) else x)
def addM (s : Sys) (i row : Nat) : Sys :=
  if (splitM s 24 (row, 0)).1 = 0 then s else s.set (blen (splitM s 24 (row, 0)).1 - 1) ((splitM s 24 (row, 0)).1, (splitM s 24 (row, 0)).2 ^^^ 2 ^ i)
def spannedM : Sys → Nat → List Nat → Sys
  | s, _, [] => s
  | s, i, r :: l => spannedM (addM s i r) (i + 1) l
def innerM (t : List Nat) (x : Nat) : Nat → Nat
  | 0 => x
  | j + 1 => if (innerM t x j).testBit j then innerM t x j ^^^ t.getD j 0 else innerM t x j
def reducedM (s : Sys) : Nat → List Nat
  | 0 => []
  | k + 1 => reducedM s k ++ [innerM (reducedM s k) (s.at k).1 k]
def fallingM (t : List Nat) : List Nat := (t.filter (· ≠ 0)).reverse
/-- The system of rows. -/
def sysM (l : List Nat) : Sys := spannedM sys0 0 l
def tableM (l : List Nat) : List Nat := reducedM (sysM l) 24
def redM (l : List Nat) : List Nat := fallingM (tableM l)

theorem reducedM_length (s : Sys) : ∀ k, (reducedM s k).length = k
  | 0 => rfl
  | k + 1 => by simp [reducedM, reducedM_length s k]
theorem addM_length (s : Sys) (i row : Nat) : (addM s i row).length = s.length := by
  unfold addM; split <;> simp
theorem spannedM_length : ∀ (l : List Nat) (s : Sys) (i : Nat), (spannedM s i l).length = s.length
  | [], _, _ => rfl
  | r :: l, s, i => by rw [spannedM, spannedM_length l, addM_length]
theorem tableM_length (l : List Nat) : (tableM l).length = 24 := reducedM_length _ _
theorem spannedM_append : ∀ (l r : List Nat) (s : Sys) (i : Nat), spannedM s i (l ++ r) = spannedM (spannedM s i l) (i + l.length) r
  | [], r, s, i => by simp [spannedM]
  | x :: l, r, s, i => by
    rw [List.cons_append, spannedM, spannedM, spannedM_append l r, List.length_cons]
    congr 1; omega

/-! ### Bounds -/
theorem splitM_lt {s : Sys} {n p : Nat} (h : ∀ k, (s.at k).1 < 2 ^ n ∧ (s.at k).2 < 2 ^ p) : ∀ (k : Nat) (x : Nat × Nat), x.1 < 2 ^ n → x.2 < 2 ^ p → (splitM s k x).1 < 2 ^ n ∧ (splitM s k x).2 < 2 ^ p
  | 0, x, h1, h2 => ⟨h1, h2⟩
  | k + 1, x, h1, h2 => by
    rw [splitM]
    split
    · exact splitM_lt h k _ (Nat.xor_lt_two_pow h1 (h k).1) (Nat.xor_lt_two_pow h2 (h k).2)
    · exact splitM_lt h k _ h1 h2

/-- Rows at work: by their leads; what they are made of. -/
structure Good (s : Sys) (l : List Nat) (i : Nat) : Prop where
  len : s.length = 24
  lead : ∀ k, k < 24 → (s.at k).1 = 0 ∨ blen (s.at k).1 = k + 1
  zero : ∀ k, k < 24 → (s.at k).1 = 0 → (s.at k).2 = 0
  of : ∀ k, total l (s.at k).2 = (s.at k).1
  lt : ∀ k, (s.at k).2 < 2 ^ i
  piv : ∀ k b, (s.at k).2.testBit b = true → ¬ InSpan (l.take b) (l.getD b 0)
  sp : ∀ b, b < i → InSpan (s.map (·.1)) (l.getD b 0)

theorem Sys.at_out {s : Sys} {k : Nat} (h : s.length ≤ k) : s.at k = (0, 0) := by
  unfold Sys.at; rw [List.getD_eq_getElem?_getD, List.getElem?_eq_none h]; rfl
theorem Sys.rows_getD (s : Sys) (k : Nat) : (s.map (·.1)).getD k 0 = (s.at k).1 := by
  unfold Sys.at
  rw [List.getD_eq_getElem?_getD, List.getD_eq_getElem?_getD, List.getElem?_map]
  cases s[k]? <;> rfl
theorem Good.leads {s : Sys} {l : List Nat} {i : Nat} (h : Good s l i) : Leads (s.map (·.1)) := by
  intro k hk
  rw [Sys.rows_getD]
  exact h.lead k (by simpa [h.len] using hk)

/-- What taking off rows leaves: a member of the span is taken off; no bit is left where there is a lead. -/
theorem splitM_spec {s : Sys} {l : List Nat} (hlead : ∀ k, k < 24 → (s.at k).1 = 0 ∨ blen (s.at k).1 = k + 1) (hof : ∀ k, total l (s.at k).2 = (s.at k).1) : ∀ (k : Nat) (x : Nat × Nat), k ≤ 24 →
    InSpan (s.map (·.1)) (x.1 ^^^ (splitM s k x).1) ∧ total l x.2 ^^^ x.1 = total l (splitM s k x).2 ^^^ (splitM s k x).1 ∧ (∀ j, k ≤ j → (splitM s k x).1.testBit j = x.1.testBit j) ∧ (∀ j, j < k → (s.at j).1 ≠ 0 → (splitM s k x).1.testBit j = false)
  | 0, x, _ => ⟨by simp [splitM, InSpan.zero], rfl, fun _ _ => rfl, fun j h => absurd h (by omega)⟩
  | k + 1, x, hk => by
    have hrow : InSpan (s.map (·.1)) (s.at k).1 := by
      by_cases hks : k < s.length
      · refine .mem ?_
        rw [← Sys.rows_getD, List.getD_eq_getElem?_getD, List.getElem?_eq_getElem (by simpa using hks)]
        exact List.getElem_mem _
      · rw [Sys.at_out (by omega)]; exact .zero _
    rw [splitM]
    split
    · rename_i hb
      obtain ⟨h1, h2, h3, h4⟩ := splitM_spec hlead hof k (x.1 ^^^ (s.at k).1, x.2 ^^^ (s.at k).2) (by omega)
      refine ⟨?_, ?_, fun j hj => ?_, fun j hj h0 => ?_⟩
      · have := h1.xor hrow
        simp only at this
        rwa [xor_mid] at this
      · rw [← h2, total_xor, hof, xor_swap4, Nat.xor_self, Nat.xor_zero]
      · rw [h3 j (by omega), Nat.testBit_xor]
        have : (s.at k).1.testBit j = false := by
          rcases hlead k (by omega) with e | e
          · rw [e]; simp
          · cases e2 : (s.at k).1.testBit j with
            | false => rfl
            | true => have := lt_blen_of_testBit e2; omega
        rw [this]; simp
      · by_cases hjk : j < k
        · exact h4 j hjk h0
        · obtain rfl : j = k := by omega
          rw [h3 j (Nat.le_refl _), Nat.testBit_xor, hb]
          have := testBit_blen h0
          rw [(hlead j (by omega)).resolve_left h0] at this
          simp only [Nat.add_sub_cancel] at this
          rw [this]; rfl
    · rename_i hb
      obtain ⟨h1, h2, h3, h4⟩ := splitM_spec hlead hof k x (by omega)
      refine ⟨h1, h2, fun j hj => h3 j (by omega), fun j hj h0 => ?_⟩
      by_cases hjk : j < k
      · exact h4 j hjk h0
      · obtain rfl : j = k := by omega
        rw [h3 j (Nat.le_refl _)]; simpa using hb
theorem splitM_piv {s : Sys} {Q : Nat → Prop} (h : ∀ k b, (s.at k).2.testBit b = true → Q b) : ∀ (k : Nat) (x : Nat × Nat), (∀ b, x.2.testBit b = true → Q b) → ∀ b, (splitM s k x).2.testBit b = true → Q b
  | 0, x, hx => hx
  | k + 1, x, hx => by
    rw [splitM]
    split
    · refine splitM_piv h k _ fun b hb => ?_
      simp only [Nat.testBit_xor] at hb
      cases e : x.2.testBit b with
      | true => exact hx b e
      | false => rw [e] at hb; exact h k b (by simpa using hb)
    · exact splitM_piv h k _ hx

theorem Good.init (l : List Nat) : Good sys0 l 0 := by
  have h0 : ∀ k, sys0.at k = (0, 0) := by
    intro k; unfold Sys.at sys0
    rw [List.getD_eq_getElem?_getD, List.getElem?_replicate]
    split <;> rfl
  refine ⟨rfl, fun k _ => .inl (by rw [h0]), fun k _ _ => by rw [h0], fun k => by rw [h0]; exact total_zero l, fun k => by rw [h0]; simp, fun k b hb => ?_, fun b hb => absurd hb (by omega)⟩
  rw [h0] at hb; simp at hb

theorem Sys.at_set (s : Sys) (p k : Nat) (x : Nat × Nat) (hp : p < s.length) : Sys.at (s.set p x) k = if k = p then x else s.at k := by
  unfold Sys.at
  rw [List.getD_eq_getElem?_getD, List.getD_eq_getElem?_getD, List.getElem?_set]
  by_cases h : k = p
  · subst h; simp [hp]
  · rw [if_neg (fun e => h e.symm), if_neg h]

theorem InSpan.of_set {s : Sys} {p x : Nat} {v : Nat × Nat} (h0 : (s.at p).1 = 0) (hp : p < s.length) (h : InSpan (s.map (·.1)) x) : InSpan ((s.set p v).map (·.1)) x := by
  refine h.trans fun y hy => ?_
  obtain ⟨k, hk, rfl⟩ := List.mem_iff_getElem.1 hy
  have hk' : k < s.length := by simpa using hk
  have e : (s.map (·.1))[k] = (s.at k).1 := by
    rw [← Sys.rows_getD, List.getD_eq_getElem?_getD, List.getElem?_eq_getElem hk]; rfl
  rw [e]
  by_cases hkp : k = p
  · subst hkp; rw [h0]; exact .zero _
  · refine .mem ?_
    have := Sys.at_set s p k v hp
    rw [if_neg hkp] at this
    rw [← this, ← Sys.rows_getD, List.getD_eq_getElem?_getD, List.getElem?_eq_getElem (by simpa using hk')]
    exact List.getElem_mem _

theorem Good.rows_span {s : Sys} {l : List Nat} {i : Nat} (h : Good s l i) (hi : i ≤ l.length) {x : Nat} (hx : InSpan (s.map (·.1)) x) : InSpan (l.take i) x := by
  refine hx.trans fun y hy => ?_
  obtain ⟨k, hk, rfl⟩ := List.mem_iff_getElem.1 hy
  have e : (s.map (·.1))[k] = (s.at k).1 := by
    rw [← Sys.rows_getD, List.getD_eq_getElem?_getD, List.getElem?_eq_getElem hk]; rfl
  rw [e, ← h.of k]
  refine ⟨(s.at k).2, ?_⟩
  have e2 : l = l.take i ++ l.drop i := (List.take_append_drop i l).symm
  conv => rhs; rw [e2]
  rw [total_append, List.length_take, Nat.min_eq_left hi, Nat.div_eq_of_lt (h.lt k), total_zero, Nat.xor_zero]

theorem Good.step {s : Sys} {l : List Nat} {i : Nat} (h : Good s l i) (hi : i < l.length) (hl : ∀ x ∈ l, x < 2 ^ 24) : Good (addM s i (l.getD i 0)) l (i + 1) := by
  have hrow : l.getD i 0 < 2 ^ 24 := by
    rw [List.getD_eq_getElem?_getD, List.getElem?_eq_getElem hi]; exact hl _ (List.getElem_mem _)
  obtain ⟨h1, h2, h3, h4⟩ := splitM_spec h.lead h.of 24 (l.getD i 0, 0) (Nat.le_refl _)
  have hlt : (splitM s 24 (l.getD i 0, 0)).1 < 2 ^ 24 ∧ (splitM s 24 (l.getD i 0, 0)).2 < 2 ^ i := by
    refine splitM_lt (fun k => ⟨?_, h.lt k⟩) 24 _ hrow (Nat.two_pow_pos i)
    by_cases hk : k < 24
    · rcases h.lead k hk with e | e
      · rw [e]; exact Nat.two_pow_pos 24
      · refine Nat.lt_of_lt_of_le (lt_two_pow_blen _) (Nat.pow_le_pow_right (by omega) (by omega))
    · rw [Sys.at_out (by rw [h.len]; omega)]; exact Nat.two_pow_pos 24
  have hpv := splitM_piv (s := s) h.piv 24 (l.getD i 0, 0) (by simp)
  unfold addM
  generalize hx : splitM s 24 (l.getD i 0, 0) = x at *
  simp only [total_zero, Nat.zero_xor] at h2
  by_cases h0 : x.1 = 0
  · rw [if_pos h0]
    refine ⟨h.len, h.lead, h.zero, h.of, fun k => Nat.lt_of_lt_of_le (h.lt k) (Nat.pow_le_pow_right (by omega) (by omega)), h.piv, fun b hb => ?_⟩
    by_cases hbi : b < i
    · exact h.sp b hbi
    · obtain rfl : b = i := by omega
      simpa [h0] using h1
  · rw [if_neg h0]
    have hp : blen x.1 - 1 < 24 := by have := blen_le_of_lt hlt.1; have := blen_pos_iff.2 h0; omega
    have hp0 : (s.at (blen x.1 - 1)).1 = 0 := by
      cases Nat.decEq (s.at (blen x.1 - 1)).1 0 with
      | isTrue e => exact e
      | isFalse e => have := h4 _ hp e; rw [testBit_blen h0] at this; cases this
    have hps : blen x.1 - 1 < s.length := by rw [h.len]; exact hp
    have hnew : ¬ InSpan (l.take i) (l.getD i 0) := by
      intro hin
      have hin2 : InSpan (s.map (·.1)) (l.getD i 0) := hin.trans fun y hy => by
        obtain ⟨b, hb, rfl⟩ := List.mem_iff_getElem.1 hy
        have hb' : b < i := by have := hb; rw [List.length_take] at this; omega
        have := h.sp b hb'
        rw [List.getD_eq_getElem?_getD, List.getElem?_eq_getElem (by omega)] at this
        rw [List.getElem_take]; exact this
      have hx1 : InSpan (s.map (·.1)) x.1 := by
        have := hin2.xor h1
        rw [xor_cancel_left] at this; exact this
      have := h.leads.lead hx1 h0
      rw [Sys.rows_getD] at this
      exact this hp0
    refine ⟨by rw [List.length_set]; exact h.len, fun k hk => ?_, fun k hk => ?_, fun k => ?_, fun k => ?_, fun k b => ?_, fun b hb => ?_⟩
    · rw [Sys.at_set _ _ _ _ hps]
      split
      · rename_i e; subst e; right; simp only; have := blen_pos_iff.2 h0; omega
      · exact h.lead k hk
    · rw [Sys.at_set _ _ _ _ hps]
      split
      · intro e; exact absurd e h0
      · exact h.zero k hk
    · rw [Sys.at_set _ _ _ _ hps]
      split
      · simp only [total_xor, total_pow]
        rw [h2, xor_cancel_left]
      · exact h.of k
    · rw [Sys.at_set _ _ _ _ hps]
      split
      · exact Nat.xor_lt_two_pow (Nat.lt_of_lt_of_le hlt.2 (Nat.pow_le_pow_right (by omega) (by omega))) (Nat.pow_lt_pow_right (by omega) (by omega))
      · exact Nat.lt_of_lt_of_le (h.lt k) (Nat.pow_le_pow_right (by omega) (by omega))
    · rw [Sys.at_set _ _ _ _ hps]
      split
      · simp only [Nat.testBit_xor, Nat.testBit_two_pow]
        intro hb
        by_cases hbi : i = b
        · subst hbi; exact hnew
        · exact hpv b (by simpa [hbi] using hb)
      · exact h.piv k b
    · by_cases hbi : b < i
      · exact (h.sp b hbi).of_set hp0 hps
      · obtain rfl : b = i := by omega
        have a1 := InSpan.of_set (v := (x.1, x.2 ^^^ 2 ^ b)) hp0 hps h1
        have a2 : InSpan ((s.set (blen x.1 - 1) (x.1, x.2 ^^^ 2 ^ b)).map (·.1)) x.1 := by
          refine .mem ?_
          refine List.mem_map.2 ⟨(x.1, x.2 ^^^ 2 ^ b), ?_, rfl⟩
          exact List.mem_iff_getElem.2 ⟨blen x.1 - 1, by simpa using hps, by simp⟩
        have := a1.xor a2
        simp only at this
        rw [xor_cancel_right] at this; exact this
end Go.AM

/-! ### M3 -/
namespace Go.AM
set_option linter.unusedVariables false

/-- A table of reduced rows. -/
def RedT (t : List Nat) : Prop := ∀ j, j < t.length → t.getD j 0 = 0 ∨ (blen (t.getD j 0) = j + 1 ∧ ∀ i, i < j → t.getD i 0 ≠ 0 → (t.getD j 0).testBit i = false)
theorem RedT.leads {t : List Nat} (h : RedT t) : Leads t := fun k hk => (h k hk).imp id (·.1)
theorem getD_mem {t : List Nat} {k : Nat} (h : k < t.length) : t.getD k 0 ∈ t := by
  rw [List.getD_eq_getElem?_getD, List.getElem?_eq_getElem h]; exact List.getElem_mem _
theorem getD_out {t : List Nat} {k : Nat} (h : t.length ≤ k) : t.getD k 0 = 0 := by
  rw [List.getD_eq_getElem?_getD, List.getElem?_eq_none h]; rfl
theorem InSpan.getD (t : List Nat) (k : Nat) : InSpan t (t.getD k 0) := by
  by_cases h : k < t.length
  · exact .mem (getD_mem h)
  · rw [getD_out (by omega)]; exact .zero t

theorem innerM_spec {t : List Nat} (h : RedT t) (x : Nat) : ∀ j, j ≤ t.length →
    InSpan t (x ^^^ innerM t x j) ∧ (∀ b, j ≤ b → (innerM t x j).testBit b = x.testBit b) ∧ ∀ i, i < j → t.getD i 0 ≠ 0 → (innerM t x j).testBit i = false
  | 0, _ => by simp [innerM, InSpan.zero]
  | j + 1, hj => by
    obtain ⟨h1, h2, h3⟩ := innerM_spec h x j (by omega)
    rw [innerM]
    split
    · rename_i hb
      refine ⟨?_, fun b hb' => ?_, fun i hi h0 => ?_⟩
      · rw [← Nat.xor_assoc]; exact h1.xor (.getD t j)
      · rw [Nat.testBit_xor, h2 b (by omega)]
        have : (t.getD j 0).testBit b = false := by
          rcases h j (by omega) with e | ⟨e, _⟩
          · rw [e]; simp
          · cases e2 : (t.getD j 0).testBit b with
            | false => rfl
            | true => have := lt_blen_of_testBit e2; omega
        rw [this]; simp
      · rw [Nat.testBit_xor]
        by_cases hij : i < j
        · rw [h3 i hij h0]
          rcases h j (by omega) with e | ⟨_, e⟩
          · rw [e]; simp
          · rw [e i hij h0]; rfl
        · obtain rfl : i = j := by omega
          rw [hb]
          have := testBit_blen h0
          rw [((h i (by omega)).resolve_left h0).1, Nat.add_sub_cancel] at this
          rw [this]; rfl
    · rename_i hb
      refine ⟨h1, fun b hb' => h2 b (by omega), fun i hi h0 => ?_⟩
      by_cases hij : i < j
      · exact h3 i hij h0
      · obtain rfl : i = j := by omega
        simpa using hb

theorem getD_append_left {t r : List Nat} {j : Nat} (h : j < t.length) : (t ++ r).getD j 0 = t.getD j 0 := by
  rw [List.getD_eq_getElem?_getD, List.getD_eq_getElem?_getD, List.getElem?_append_left h]
theorem getD_append_here {t : List Nat} {x : Nat} : (t ++ [x]).getD t.length 0 = x := by
  rw [List.getD_eq_getElem?_getD, List.getElem?_append_right (Nat.le_refl _)]; simp

theorem reducedM_spec {s : Sys} (hs : s.length = 24) (hl : ∀ k, k < 24 → (s.at k).1 = 0 ∨ blen (s.at k).1 = k + 1) : ∀ k, k ≤ 24 →
    RedT (reducedM s k) ∧ SameSpan (reducedM s k) ((s.map (·.1)).take k)
  | 0, _ => ⟨fun j hj => absurd hj (by simp [reducedM]), by simp [reducedM]; exact .refl _⟩
  | k + 1, hk => by
    obtain ⟨h1, h2⟩ := reducedM_spec hs hl k (by omega)
    have hlen := reducedM_length s k
    obtain ⟨i1, i2, i3⟩ := innerM_spec h1 (s.at k).1 k (by rw [hlen]; exact Nat.le_refl _)
    have htop : ∀ b, k ≤ b → (innerM (reducedM s k) (s.at k).1 k).testBit b = (s.at k).1.testBit b := i2
    have htake : (s.map (·.1)).take (k + 1) = (s.map (·.1)).take k ++ [(s.at k).1] := by
      rw [List.take_succ_eq_append_getElem (by simp [hs]; omega)]
      congr 2
      rw [← Sys.rows_getD, List.getD_eq_getElem?_getD, List.getElem?_eq_getElem (by simp [hs]; omega)]; rfl
    rw [reducedM, htake]
    generalize hx : innerM (reducedM s k) (s.at k).1 k = x at *
    have hzero : (s.at k).1 = 0 → x = 0 := by
      intro e
      have hz : ∀ j, innerM (reducedM s k) 0 j = 0 := by
        intro j; induction j with
        | zero => rfl
        | succ j ih => rw [innerM, ih]; simp
      rw [← hx, e, hz]
    refine ⟨fun j hj => ?_, .of (fun y hy => ?_) (fun y hy => ?_)⟩
    · rw [List.length_append, hlen, List.length_singleton] at hj
      by_cases hjk : j < k
      · rw [getD_append_left (by omega)]
        refine (h1 j (by omega)).imp id fun ⟨a, b⟩ => ⟨a, fun i hi => ?_⟩
        rw [getD_append_left (by omega)]; exact b i hi
      · obtain rfl : j = k := by omega
        have e : (reducedM s j ++ [x]).getD j 0 = x := by
          have := getD_append_here (t := reducedM s j) (x := x); rw [hlen] at this; exact this
        rw [e]
        rcases hl j (by omega) with e0 | e0
        · exact .inl (hzero e0)
        · right
          refine ⟨blen_eq (lt_two_pow_of_bits fun b hb => ?_) ?_, fun i hi => ?_⟩
          · rw [htop b (by omega)]
            cases e2 : (s.at j).1.testBit b with
            | false => rfl
            | true => have := lt_blen_of_testBit e2; omega
          · rw [htop j (Nat.le_refl _)]
            have := testBit_blen (x := (s.at j).1) (by intro e; rw [e] at e0; simp [blen] at e0)
            rw [e0] at this; exact this
          · rw [getD_append_left (by omega)]; exact i3 i hi
    · rcases List.mem_append.1 hy with hy | hy
      · exact ((h2 y).1 (.mem hy)).trans fun z hz => .mem (List.mem_append.2 (.inl hz))
      · obtain rfl := List.mem_singleton.1 hy
        have a1 : InSpan ((s.map (·.1)).take k ++ [(s.at k).1]) ((s.at k).1 ^^^ y) := ((h2 _).1 i1).trans fun z hz => .mem (List.mem_append.2 (.inl hz))
        have a2 : InSpan ((s.map (·.1)).take k ++ [(s.at k).1]) (s.at k).1 := .mem (by simp)
        have := a2.xor a1
        rw [xor_cancel_left] at this; exact this
    · rcases List.mem_append.1 hy with hy | hy
      · exact ((h2 y).2 (.mem hy)).trans fun z hz => .mem (List.mem_append.2 (.inl hz))
      · obtain rfl := List.mem_singleton.1 hy
        have a1 : InSpan (reducedM s k ++ [x]) ((s.at k).1 ^^^ x) := i1.trans fun z hz => .mem (List.mem_append.2 (.inl hz))
        have a2 : InSpan (reducedM s k ++ [x]) x := .mem (by simp)
        have := a1.xor a2
        rw [xor_cancel_right] at this; exact this

/-! ### Lists of reduced rows -/
def Fall (l : List Nat) : Prop := l.Pairwise fun a b => blen b < blen a
structure Rref (r : List Nat) : Prop where
  fall : Fall r
  ne : ∀ a ∈ r, a ≠ 0
  alone : ∀ a ∈ r, ∀ b ∈ r, a ≠ b → b.testBit (blen a - 1) = false
theorem Fall.tail_lt {a : Nat} {r : List Nat} (h : Fall (a :: r)) : ∀ b ∈ r, blen b < blen a := (List.pairwise_cons.1 h).1
theorem Fall.eq : ∀ {l r : List Nat}, Fall l → Fall r → (∀ x, x ∈ l ↔ x ∈ r) → l = r
  | [], [], _, _, _ => rfl
  | [], b :: r, _, _, h => absurd ((h b).2 (by simp)) (by simp)
  | a :: l, [], _, _, h => absurd ((h a).1 (by simp)) (by simp)
  | a :: l, b :: r, h1, h2, h => by
    have hab : a = b := by
      rcases List.mem_cons.1 ((h a).1 (by simp)) with e | e
      · exact e
      · rcases List.mem_cons.1 ((h b).2 (by simp)) with e2 | e2
        · exact e2.symm
        · have := h1.tail_lt b e2; have := h2.tail_lt a e; omega
    subst hab
    rw [Fall.eq (List.pairwise_cons.1 h1).2 (List.pairwise_cons.1 h2).2 fun x => ?_]
    constructor
    · intro hx
      rcases List.mem_cons.1 ((h x).1 (by simp [hx])) with e | e
      · subst e; have := h1.tail_lt _ hx; omega
      · exact e
    · intro hx
      rcases List.mem_cons.1 ((h x).2 (by simp [hx])) with e | e
      · subst e; have := h2.tail_lt _ hx; omega
      · exact e
theorem Fall.lead : ∀ {r : List Nat}, Fall r → (∀ a ∈ r, a ≠ 0) → ∀ w, (∀ k, (∀ a ∈ r, blen a ≤ k) → total r w < 2 ^ k) ∧ (total r w ≠ 0 → ∃ a ∈ r, blen a = blen (total r w))
  | [], _, _, w => ⟨fun k _ => by simp [total]; exact Nat.two_pow_pos k, fun h => absurd rfl h⟩
  | a :: r, hf, hn, w => by
    have ih := Fall.lead (List.pairwise_cons.1 hf).2 (fun b hb => hn b (by simp [hb])) (w / 2)
    refine ⟨fun k hk => total_lt (fun b hb => Nat.lt_of_lt_of_le (lt_two_pow_blen b) (Nat.pow_le_pow_right (by omega) (hk b hb))) w, fun h0 => ?_⟩
    simp only [total] at h0 ⊢
    split
    · rename_i hb
      refine ⟨a, by simp, ?_⟩
      have ha := blen_pos_iff.2 (hn a (by simp))
      have := ih.1 (blen a - 1) fun b hb => by have := hf.tail_lt b hb; omega
      have := blen_xor_top (a := a) (k := blen a - 1) (by omega) this
      omega
    · rename_i hb
      rw [if_neg hb, Nat.zero_xor] at h0
      obtain ⟨b, hb, e⟩ := ih.2 h0
      exact ⟨b, by simp [hb], by rw [Nat.zero_xor]; exact e⟩
theorem Rref.lead {r : List Nat} (h : Rref r) {x : Nat} (hx : InSpan r x) (h0 : x ≠ 0) : ∃ a ∈ r, blen a = blen x := by
  obtain ⟨w, rfl⟩ := hx; exact (h.fall.lead h.ne w).2 h0
theorem Rref.sub {r s : List Nat} (h : Rref r) (h' : Rref s) (hs : SameSpan r s) {a : Nat} (ha : a ∈ r) : a ∈ s := by
  obtain ⟨b, hb, e⟩ := h'.lead ((hs a).1 (.mem ha)) (h.ne a ha)
  by_cases hd : a ^^^ b = 0
  · rw [eq_of_xor_zero hd]; exact hb
  · exfalso
    have hin : InSpan r (a ^^^ b) := (InSpan.mem ha).xor ((hs b).2 (.mem hb))
    obtain ⟨c, hc, ec⟩ := h.lead hin hd
    obtain ⟨d, hd', ed⟩ := h'.lead ((hs _).1 hin) hd
    have hlt : blen (a ^^^ b) < blen a := by
      have ha0 := blen_pos_iff.2 (h.ne a ha)
      have : a ^^^ b < 2 ^ (blen a - 1) := by
        apply lt_two_pow_of_bits
        intro j hj
        rw [Nat.testBit_xor]
        by_cases e1 : j = blen a - 1
        · subst e1
          rw [testBit_blen (h.ne a ha)]
          have := testBit_blen (h'.ne b hb)
          rw [e] at this; rw [this]; rfl
        · have e2 : a.testBit j = false := by
            cases e3 : a.testBit j with
            | false => rfl
            | true => have := lt_blen_of_testBit e3; omega
          have e4 : b.testBit j = false := by
            cases e3 : b.testBit j with
            | false => rfl
            | true => have := lt_blen_of_testBit e3; omega
          rw [e2, e4]; rfl
      have := blen_le_of_lt this
      omega
    have t1 : a.testBit (blen (a ^^^ b) - 1) = false := by
      rw [← ec]; exact h.alone c hc a ha (by intro e3; subst e3; omega)
    have t2 : b.testBit (blen (a ^^^ b) - 1) = false := by
      rw [← ed]; exact h'.alone d hd' b hb (by intro e3; subst e3; omega)
    have := testBit_blen hd
    rw [Nat.testBit_xor, t1, t2] at this
    cases this
/-- A span has one list of reduced rows. -/
theorem Rref.unique {r s : List Nat} (h : Rref r) (h' : Rref s) (hs : SameSpan r s) : r = s :=
  h.fall.eq h'.fall fun _ => ⟨h.sub h' hs, h'.sub h hs.symm⟩

theorem mem_fallingM {t : List Nat} {x : Nat} : x ∈ fallingM t ↔ x ∈ t ∧ x ≠ 0 := by simp [fallingM]
theorem fallingM_span (t : List Nat) : SameSpan (fallingM t) t := .of (fun x hx => .mem (mem_fallingM.1 hx).1) fun x hx => by
  by_cases h : x = 0
  · subst h; exact .zero _
  · exact .mem (mem_fallingM.2 ⟨hx, h⟩)
theorem RedT.rref {t : List Nat} (h : RedT t) : Rref (fallingM t) := by
  have hget : ∀ x ∈ t, x ≠ 0 → ∃ j, j < t.length ∧ t.getD j 0 = x ∧ blen x = j + 1 := by
    intro x hx h0
    obtain ⟨j, hj, rfl⟩ := List.mem_iff_getElem.1 hx
    have e : t.getD j 0 = t[j] := by rw [List.getD_eq_getElem?_getD, List.getElem?_eq_getElem hj]; rfl
    refine ⟨j, hj, e, ?_⟩
    rw [← e] at h0 ⊢
    exact ((h j hj).resolve_left h0).1
  refine ⟨?_, fun a ha => (mem_fallingM.1 ha).2, fun a ha b hb hab => ?_⟩
  · unfold Fall fallingM
    rw [List.pairwise_reverse, List.pairwise_filter, List.pairwise_iff_getElem]
    intro i j hi hj hij h1 h2
    obtain ⟨p, hp, e1, e2⟩ := hget _ (List.getElem_mem hi) (by simpa using h1)
    have e3 : t.getD i 0 = t[i] := by rw [List.getD_eq_getElem?_getD, List.getElem?_eq_getElem hi]; rfl
    have e4 : t.getD j 0 = t[j] := by rw [List.getD_eq_getElem?_getD, List.getElem?_eq_getElem hj]; rfl
    have e5 := ((h i hi).resolve_left (by rw [e3]; simpa using h1)).1
    have e6 := ((h j hj).resolve_left (by rw [e4]; simpa using h2)).1
    rw [e3] at e5; rw [e4] at e6; omega
  · obtain ⟨ha1, ha2⟩ := mem_fallingM.1 ha
    obtain ⟨hb1, hb2⟩ := mem_fallingM.1 hb
    obtain ⟨i, hi, ei, li⟩ := hget a ha1 ha2
    obtain ⟨j, hj, ej, lj⟩ := hget b hb1 hb2
    rw [li, Nat.add_sub_cancel]
    by_cases hij : i < j
    · have := ((h j hj).resolve_left (by rw [ej]; exact hb2)).2 i hij (by rw [ei]; exact ha2)
      rw [ej] at this; exact this
    · have hne : i ≠ j := by intro e; subst e; exact hab (ei.symm.trans ej)
      cases e3 : b.testBit i with
      | false => rfl
      | true => have := lt_blen_of_testBit e3; omega
theorem RedT.eq {t t' : List Nat} (h : RedT t) (h' : RedT t') (hl : t.length = t'.length) (hf : fallingM t = fallingM t') : t = t' := by
  have key : ∀ {t t' : List Nat}, RedT t → RedT t' → t.length = t'.length → fallingM t = fallingM t' → ∀ j, j < t.length → t.getD j 0 ≠ 0 → t.getD j 0 = t'.getD j 0 := by
    intro t t' h h' hl hf j hj h0
    have e := ((h j hj).resolve_left h0).1
    have hm : t.getD j 0 ∈ fallingM t' := by rw [← hf]; exact mem_fallingM.2 ⟨getD_mem hj, h0⟩
    obtain ⟨h1, _⟩ := mem_fallingM.1 hm
    obtain ⟨i, hi, ei⟩ := List.mem_iff_getElem.1 h1
    have e3 : t'.getD i 0 = t'[i] := by rw [List.getD_eq_getElem?_getD, List.getElem?_eq_getElem hi]; rfl
    have e5 := ((h' i hi).resolve_left (by rw [e3, ei]; exact h0)).1
    rw [e3, ei] at e5
    obtain rfl : i = j := by omega
    rw [e3, ei]
  apply List.ext_getElem hl
  intro j h1 h2
  have e3 : t.getD j 0 = t[j] := by rw [List.getD_eq_getElem?_getD, List.getElem?_eq_getElem h1]; rfl
  have e4 : t'.getD j 0 = t'[j] := by rw [List.getD_eq_getElem?_getD, List.getElem?_eq_getElem h2]; rfl
  rw [← e3, ← e4]
  by_cases h0 : t.getD j 0 = 0
  · by_cases h0' : t'.getD j 0 = 0
    · rw [h0, h0']
    · exact (key h' h hl.symm hf.symm j h2 h0').symm
  · exact key h h' hl hf j h1 h0
end Go.AM

/-! ### M4 -/
namespace Go.AM
set_option linter.unusedVariables false

theorem spannedM_good {l : List Nat} (hl : ∀ x ∈ l, x < 2 ^ 24) : ∀ (r : List Nat) (s : Sys) (i : Nat), l.drop i = r → i ≤ l.length → Good s l i → Good (spannedM s i r) l l.length
  | [], s, i, he, hi, h => by
    have : i = l.length := by
      have := congrArg List.length he
      simp at this; omega
    subst this; exact h
  | x :: r, s, i, he, hi, h => by
    have hlt : i < l.length := by
      have := congrArg List.length he
      simp at this; omega
    have hx : l.getD i 0 = x := by
      have := congrArg (·[0]?) he
      simp only [List.getElem?_drop, Nat.add_zero, List.getElem?_cons_zero] at this
      rw [List.getD_eq_getElem?_getD, this]; rfl
    rw [spannedM]
    refine spannedM_good hl r _ (i + 1) ?_ (by omega) ?_
    · have := congrArg List.tail he
      simpa using this
    · have := h.step hlt hl
      rw [hx] at this; exact this
theorem sysM_good {l : List Nat} (hl : ∀ x ∈ l, x < 2 ^ 24) : Good (sysM l) l l.length := spannedM_good hl l _ 0 (by simp) (by omega) (.init l)
theorem Good.span {s : Sys} {l : List Nat} (h : Good s l l.length) : SameSpan (s.map (·.1)) l := .of (fun x hx => by
    have := h.rows_span (Nat.le_refl _) (.mem hx); rwa [List.take_length] at this) fun x hx => by
  obtain ⟨i, hi, rfl⟩ := List.mem_iff_getElem.1 hx
  have := h.sp i hi
  rwa [List.getD_eq_getElem?_getD, List.getElem?_eq_getElem hi] at this
theorem tableM_red {l : List Nat} (hl : ∀ x ∈ l, x < 2 ^ 24) : RedT (tableM l) ∧ SameSpan (tableM l) l := by
  have hg := sysM_good hl
  obtain ⟨h1, h2⟩ := reducedM_spec hg.len hg.lead 24 (Nat.le_refl _)
  refine ⟨h1, ?_⟩
  rw [List.take_of_length_le (by simp [hg.len])] at h2
  exact h2.trans hg.span
theorem redM_rref {l : List Nat} (hl : ∀ x ∈ l, x < 2 ^ 24) : Rref (redM l) ∧ SameSpan (redM l) l :=
  ⟨(tableM_red hl).1.rref, (fallingM_span _).trans (tableM_red hl).2⟩

/-- Which rows give a row. -/
theorem split_spec {l : List Nat} (hl : ∀ x ∈ l, x < 2 ^ 24) {x : Nat} :
    ((splitM (sysM l) 24 (x, 0)).1 = 0 ↔ InSpan l x) ∧ ((splitM (sysM l) 24 (x, 0)).1 = 0 → total l (splitM (sysM l) 24 (x, 0)).2 = x ∧ ∀ y, total l y = x → (splitM (sysM l) 24 (x, 0)).2 ≤ y) := by
  have hg := sysM_good hl
  obtain ⟨h1, h2, h3, h4⟩ := splitM_spec hg.lead hg.of 24 (x, 0) (Nat.le_refl _)
  have hpv := splitM_piv (s := sysM l) hg.piv 24 (x, 0) (by simp)
  generalize splitM (sysM l) 24 (x, 0) = p at *
  simp only [total_zero, Nat.zero_xor] at h1 h2
  refine ⟨⟨fun e => ?_, fun hin => ?_⟩, fun e => ?_⟩
  · rw [e, Nat.xor_zero] at h2; exact ⟨_, h2.symm⟩
  · have hin2 : InSpan ((sysM l).map (·.1)) p.1 := by
      have := ((hg.span x).2 hin).xor h1
      rwa [xor_cancel_left] at this
    cases Nat.decEq p.1 0 with
    | isTrue e => exact e
    | isFalse e =>
      exfalso
      have hlead := hg.leads.lead hin2 e
      rw [Sys.rows_getD] at hlead
      have hlt : blen p.1 - 1 < 24 := by
        cases Nat.decLt (blen p.1 - 1) 24 with
        | isTrue e => exact e
        | isFalse e => exact absurd (by rw [Sys.at_out (by rw [hg.len]; omega)]) hlead
      have := h4 _ hlt hlead
      rw [testBit_blen e] at this; cases this
  · rw [e, Nat.xor_zero] at h2
    refine ⟨h2.symm, fun y hy => ?_⟩
    cases Nat.decLe p.2 y with
    | isTrue e => exact e
    | isFalse hlt =>
      exfalso
      obtain ⟨hd, hb⟩ := top_bit (x := p.2) (y := y) (by omega)
      have hp := hpv _ hb
      apply hp
      have htot : total l (p.2 ^^^ y) = 0 := by rw [total_xor, hy, ← h2, Nat.xor_self]
      generalize hdd : p.2 ^^^ y = d at *
      generalize hi : blen d - 1 = i at *
      -- d is the bit i and lesser bits
      have hlow : d ^^^ 2 ^ i < 2 ^ i := by
        apply lt_two_pow_of_bits
        intro j hj
        rw [Nat.testBit_xor, Nat.testBit_two_pow]
        by_cases hji : i = j
        · subst hji
          have := testBit_blen hd
          rw [hi] at this; simp [this]
        · have : d.testBit j = false := by
            cases e3 : d.testBit j with
            | false => rfl
            | true => have := lt_blen_of_testBit e3; omega
          simp [this, hji]
      have h5 : total l (d ^^^ 2 ^ i) = l.getD i 0 := by rw [total_xor, htot, Nat.zero_xor, total_pow]
      by_cases hil : i < l.length
      · refine ⟨d ^^^ 2 ^ i, ?_⟩
        rw [← h5]
        have e2 : l = l.take i ++ l.drop i := (List.take_append_drop i l).symm
        conv => rhs; rw [e2]
        rw [total_append, List.length_take, Nat.min_eq_left (Nat.le_of_lt hil), Nat.div_eq_of_lt hlow, total_zero, Nat.xor_zero]
      · rw [getD_out (by omega)]; exact .zero _
end Go.AM

/-! ### M6 -/
namespace Go.AM
set_option linter.unusedVariables false
/-- The bits of a column, of the first rows. -/
def colP (l : List Nat) (k : Nat) : Nat → Nat
  | 0 => 0
  | i + 1 => colP l k i ||| (((l.getD i 0) >>> k &&& 1) <<< i)
def turnedM (l : List Nat) (n : Nat) : List Nat := (List.range n).map fun k => colP l k l.length
theorem bit_testBit (x k i j : Nat) : (((x >>> k &&& 1) <<< i).testBit j) = (decide (j = i) && x.testBit k) := by
  rw [Nat.testBit_shiftLeft]
  have e : (x >>> k &&& 1) = if x.testBit k then 1 else 0 := by
    rw [Nat.and_one_is_mod, Nat.testBit_eq_decide_div_mod_eq, Nat.shiftRight_eq_div_pow]
    by_cases h : x / 2 ^ k % 2 = 1 <;> simp [h]; omega
  rw [e]
  by_cases hj : j = i
  · subst hj; cases x.testBit k <;> simp
  · cases x.testBit k
    · simp [hj]
    · simp only [if_true, hj, decide_false, Bool.false_and, Bool.and_eq_false_iff]
      by_cases h : i ≤ j
      · right; rw [← Nat.pow_zero 2, Nat.testBit_two_pow]; simp; omega
      · left; simp; omega
theorem colP_testBit (l : List Nat) (k j : Nat) : ∀ i, (colP l k i).testBit j = (decide (j < i) && (l.getD j 0).testBit k)
  | 0 => by simp [colP]
  | i + 1 => by
    rw [colP, Nat.testBit_or, colP_testBit l k j i, bit_testBit]
    by_cases h1 : j < i
    · have h2 : j < i + 1 := by omega
      have h3 : j ≠ i := by omega
      simp [h1, h2, h3]
    · by_cases h3 : j = i
      · subst h3; simp
      · have h2 : ¬ j < i + 1 := by omega
        simp [h1, h2, h3]
theorem colP_lt (l : List Nat) (k i : Nat) : colP l k i < 2 ^ i := lt_two_pow_of_bits fun j hj => by rw [colP_testBit]; simp; omega
theorem turnedM_length (l : List Nat) (n : Nat) : (turnedM l n).length = n := by simp [turnedM]
theorem turnedM_getD (l : List Nat) (n k : Nat) (hk : k < n) : (turnedM l n).getD k 0 = colP l k l.length := by
  simp [turnedM, List.getD_eq_getElem?_getD, hk]
theorem turnedM_testBit (l : List Nat) (n k j : Nat) (hk : k < n) : ((turnedM l n).getD k 0).testBit j = (l.getD j 0).testBit k := by
  rw [turnedM_getD l n k hk, colP_testBit]
  by_cases h : j < l.length
  · simp [h]
  · rw [List.getD_eq_getElem?_getD, List.getElem?_eq_none (show l.length ≤ j by omega)]; simp
/-- The matrix at work: the columns ahead of k0 have one row more. -/
def turnAt (l : List Nat) (n i k0 : Nat) : List Nat := (List.range n).map fun k => if k < k0 then colP l k (i + 1) else colP l k i
theorem turnAt_length (l : List Nat) (n i k0 : Nat) : (turnAt l n i k0).length = n := by simp [turnAt]
theorem turnAt_get {l : List Nat} {n i k0 k : Nat} (h : k < n) : (turnAt l n i k0)[k]? = some (if k < k0 then colP l k (i + 1) else colP l k i) := by simp [turnAt, h]
theorem turnAt_set {l : List Nat} {n i k : Nat} (hk : k < n) : (turnAt l n i k).set k (colP l k (i + 1)) = turnAt l n i (k + 1) := by
  apply List.ext_getElem?
  intro j
  rw [List.getElem?_set, turnAt_length]
  by_cases e : k = j
  · subst e; rw [if_pos rfl, if_pos hk, turnAt_get hk, if_pos (by omega)]
  · rw [if_neg e]
    by_cases hj : j < n
    · rw [turnAt_get hj, turnAt_get hj]
      by_cases h : j < k
      · rw [if_pos h, if_pos (by omega)]
      · rw [if_neg h, if_neg (by omega)]
    · rw [List.getElem?_eq_none (by rw [turnAt_length]; omega), List.getElem?_eq_none (by rw [turnAt_length]; omega)]
theorem turnAt_next {l : List Nat} {n i : Nat} : turnAt l n i n = turnAt l n (i + 1) 0 := by
  simp only [turnAt]
  apply List.map_congr_left
  intro k hk
  rw [if_pos (List.mem_range.1 hk), if_neg (by omega)]
theorem turnAt_zero {l : List Nat} {n : Nat} : turnAt l n 0 0 = List.replicate n 0 := by
  apply List.ext_getElem?
  intro j
  by_cases hj : j < n
  · rw [turnAt_get hj]; simp [hj, colP]
  · rw [List.getElem?_eq_none (by rw [turnAt_length]; omega)]; simp [hj]
theorem turnAt_last {l : List Nat} {n : Nat} : turnAt l n l.length 0 = turnedM l n := by
  simp [turnAt, turnedM]
end Go.AM

/-! ### M7 -/
namespace Go.AM
set_option linter.unusedVariables false
def isLed (t : List Nat) (lead : Bool) (k : Nat) : Bool := decide (t.getD k 0 ≠ 0) == lead
def ledM (t : List Nat) (n : Nat) (lead : Bool) : List Nat := (List.range n).filter (isLed t lead)
theorem ledM_succ (t : List Nat) (n : Nat) (lead : Bool) : ledM t (n + 1) lead = ledM t n lead ++ (if isLed t lead n then [n] else []) := by
  unfold ledM
  rw [List.range_succ, List.filter_append]
  by_cases h : isLed t lead n <;> simp [h]
theorem ledM_length (t : List Nat) (n : Nat) (lead : Bool) : (ledM t n lead).length ≤ n := by
  have := List.length_filter_le (isLed t lead) (List.range n)
  simpa [ledM] using this
theorem ledM_lt {t : List Nat} {n : Nat} {lead : Bool} {k : Nat} (h : k ∈ ledM t n lead) : k < n := by
  have := (List.mem_filter.1 h).1
  simpa using this
/-- One free column, and all leads whose rows have it. -/
def rowN (t : List Nat) (k : Nat) (js : List Nat) : Nat := js.foldl (fun r j => r ||| ((t.getD j 0 >>> k &&& 1) <<< j)) (1 <<< k)
theorem rowN_snoc (t : List Nat) (k : Nat) (js : List Nat) (j : Nat) : rowN t k (js ++ [j]) = rowN t k js ||| ((t.getD j 0 >>> k &&& 1) <<< j) := by simp [rowN]
theorem bit_le (x k j : Nat) : (x >>> k &&& 1) <<< j ≤ 2 ^ j := by
  rw [Nat.shiftLeft_eq]
  have h : x >>> k &&& 1 ≤ 1 := Nat.and_le_right
  have := Nat.mul_le_mul_right (2 ^ j) h
  omega
theorem rowN_lt {t : List Nat} {k n : Nat} (hk : k < n) : ∀ (js : List Nat), (∀ j ∈ js, j < n) → rowN t k js < 2 ^ n := by
  intro js
  suffices h : ∀ (js : List Nat) (r : Nat), r < 2 ^ n → (∀ j ∈ js, j < n) → js.foldl (fun r j => r ||| ((t.getD j 0 >>> k &&& 1) <<< j)) r < 2 ^ n by
    exact h js _ (by rw [Nat.shiftLeft_eq, Nat.one_mul]; exact Nat.pow_lt_pow_right (by omega) hk)
  intro js
  induction js with
  | nil => intro r hr _; exact hr
  | cons j js ih =>
    intro r hr hj
    rw [List.foldl_cons]
    refine ih _ (Nat.or_lt_two_pow hr (Nat.lt_of_le_of_lt (bit_le _ _ _) (Nat.pow_lt_pow_right (by omega) (hj j (by simp))))) fun i hi => hj i (by simp [hi])
def nullRows (t : List Nat) (n : Nat) : List Nat := (ledM t n false).map fun k => rowN t k (ledM t n true)
theorem nullRows_lt {t : List Nat} {n x : Nat} (h : x ∈ nullRows t n) : x < 2 ^ n := by
  obtain ⟨k, hk, rfl⟩ := List.mem_map.1 h
  exact rowN_lt (ledM_lt hk) _ fun j hj => ledM_lt hj
theorem nullRows_length (t : List Nat) (n : Nat) : (nullRows t n).length ≤ n := by simp [nullRows, ledM_length]
def nullM (l : List Nat) (n : Nat) : List Nat := redM (nullRows (tableM l) n)
theorem tableM_lt {l : List Nat} (h : ∀ k, ((sysM l).at k).1 < 2 ^ 24) (j : Nat) : True := trivial
end Go.AM

/-! ### M8 -/
namespace Go.AM
set_option linter.unusedVariables false

theorem popF_eq (f x : Nat) (h : x < 2 ^ f) : popF f x = popc x := popF_fuel f x x h Nat.lt_two_pow_self
theorem popc_double (x b : Nat) (hb : b < 2) : popc (b + 2 * x) = b + popc x := by
  by_cases h : b + 2 * x = 0
  · have : x = 0 := by omega
    have : b = 0 := by omega
    subst_vars; simp [popc]
  · rw [popc_pos (by omega)]
    rw [show (b + 2 * x) % 2 = b by omega, show (b + 2 * x) / 2 = x by omega]
theorem popc_split (k : Nat) : ∀ (lo hi : Nat), lo < 2 ^ k → popc (lo + 2 ^ k * hi) = popc lo + popc hi := by
  induction k with
  | zero => intro lo hi h; obtain rfl : lo = 0 := by omega
            simp [popc]
  | succ k ih =>
    intro lo hi h
    have e : lo + 2 ^ (k + 1) * hi = lo % 2 + 2 * (lo / 2 + 2 ^ k * hi) := by
      rw [Nat.pow_succ, Nat.mul_add, ← Nat.mul_assoc, Nat.mul_comm 2 (2 ^ k)]; omega
    have e2 : popc lo = lo % 2 + popc (lo / 2) := by
      have := popc_double (lo / 2) (lo % 2) (by omega)
      rw [show lo % 2 + 2 * (lo / 2) = lo by omega] at this; exact this
    rw [e, popc_double _ _ (by omega), ih _ _ (by rw [Nat.pow_succ] at h; omega), e2]; omega

theorem and_split {ul ml uh mh : Nat} (h1 : ul < 256) (h2 : ml < 256) : (ul + 256 * uh) &&& (ml + 256 * mh) = (ul &&& ml) + 256 * (uh &&& mh) := by
  have a : (ul &&& ml) < 256 := Nat.lt_of_le_of_lt Nat.and_le_left h1
  apply Nat.eq_of_testBit_eq
  intro i
  rw [Nat.testBit_and, show 256 = 2 ^ 8 from rfl, Nat.add_comm ul, Nat.add_comm ml, Nat.add_comm (ul &&& ml)]
  rw [Nat.testBit_two_pow_mul_add _ h1, Nat.testBit_two_pow_mul_add _ h2, Nat.testBit_two_pow_mul_add _ a]
  split <;> rw [Nat.testBit_and]
/-- Eight bytes as a number. -/
def val8 (a b c d e f g h : Nat) : Nat := a + 256 * (b + 256 * (c + 256 * (d + 256 * (e + 256 * (f + 256 * (g + 256 * h))))))
theorem and_val8 {a b c d e f g h k : Nat} (ha : a < 256) (hb : b < 256) (hc : c < 256) (hd : d < 256) (he : e < 256) (hf : f < 256) (hg : g < 256) (hk : k < 256) :
    val8 a b c d e f g h &&& val8 k k k k k k k k = val8 (a &&& k) (b &&& k) (c &&& k) (d &&& k) (e &&& k) (f &&& k) (g &&& k) (h &&& k) := by
  unfold val8
  rw [and_split ha hk, and_split hb hk, and_split hc hk, and_split hd hk, and_split he hk, and_split hf hk, and_split hg hk]
theorem val8_of (x : Nat) (hx : x < 2 ^ 64) : ∃ a b c d e f g h, x = val8 a b c d e f g h ∧ a < 256 ∧ b < 256 ∧ c < 256 ∧ d < 256 ∧ e < 256 ∧ f < 256 ∧ g < 256 ∧ h < 256 :=
  ⟨x % 256, x / 256 % 256, x / 256 / 256 % 256, x / 256 / 256 / 256 % 256, x / 256 / 256 / 256 / 256 % 256, x / 256 / 256 / 256 / 256 / 256 % 256, x / 256 / 256 / 256 / 256 / 256 / 256 % 256, x / 256 / 256 / 256 / 256 / 256 / 256 / 256, by unfold val8; omega, by omega, by omega, by omega, by omega, by omega, by omega, by omega, by omega⟩
theorem val8_lt {a b c d e f g h : Nat} (ha : a < 256) (hb : b < 256) (hc : c < 256) (hd : d < 256) (he : e < 256) (hf : f < 256) (hg : g < 256) (hh : h < 256) : val8 a b c d e f g h < 2 ^ 64 := by
  unfold val8; omega
theorem popc_val8 {a b c d e f g h : Nat} (ha : a < 256) (hb : b < 256) (hc : c < 256) (hd : d < 256) (he : e < 256) (hf : f < 256) (hg : g < 256) : popc (val8 a b c d e f g h) = popc a + popc b + popc c + popc d + popc e + popc f + popc g + popc h := by
  unfold val8
  rw [show (256 : Nat) = 2 ^ 8 from rfl, popc_split 8 _ _ ha, popc_split 8 _ _ hb, popc_split 8 _ _ hc, popc_split 8 _ _ hd, popc_split 8 _ _ he, popc_split 8 _ _ hf, popc_split 8 _ _ hg]
  omega

/-! ### The stages -/
def s1 (x : Nat) : Nat := (x >>> 1 &&& 6148914691236517205) + (x &&& 6148914691236517205)
def s2 (x : Nat) : Nat := (x >>> 2 &&& 3689348814741910323) + (x &&& 3689348814741910323)
def s3 (x : Nat) : Nat := (x >>> 4) + x &&& 1085102592571150095
def t1 (b : Nat) : Nat := (b / 2 &&& 85) + (b &&& 85)
def t2 (b : Nat) : Nat := (b / 4 &&& 51) + (b &&& 51)
theorem t1_all : ∀ b : Fin 256, t1 b.val < 256 ∧ ∀ r : Fin 2, (b.val / 2 + 128 * r.val) &&& 85 = b.val / 2 &&& 85 := by decide +kernel
theorem t2_all : ∀ b : Fin 256, t2 b.val < 256 ∧ ∀ r : Fin 4, (b.val / 4 + 64 * r.val) &&& 51 = b.val / 4 &&& 51 := by decide +kernel
theorem t3_all : ∀ b : Fin 256, (t2 (t1 b.val)) / 16 ≤ 4 ∧ (t2 (t1 b.val)) % 16 ≤ 4 ∧ (t2 (t1 b.val)) / 16 + (t2 (t1 b.val)) % 16 = popF 8 b.val := by decide +kernel
theorem t4_all : ∀ p q : Fin 16, (16 * p.val + q.val) &&& 15 = q.val := by decide +kernel
theorem t1_lt {b : Nat} (h : b < 256) : t1 b < 256 := (t1_all ⟨b, h⟩).1
theorem t2_lt {b : Nat} (h : b < 256) : t2 b < 256 := (t2_all ⟨b, h⟩).1
theorem t1_and {b r : Nat} (h : b < 256) (hr : r < 2) : (b / 2 + 128 * r) &&& 85 = b / 2 &&& 85 := (t1_all ⟨b, h⟩).2 ⟨r, hr⟩
theorem t2_and {b r : Nat} (h : b < 256) (hr : r < 4) : (b / 4 + 64 * r) &&& 51 = b / 4 &&& 51 := (t2_all ⟨b, h⟩).2 ⟨r, hr⟩

section
variable {a b c d e f g h : Nat} (ha : a < 256) (hb : b < 256) (hc : c < 256) (hd : d < 256) (he : e < 256) (hf : f < 256) (hg : g < 256) (hh : h < 256)
include ha hb hc hd he hf hg hh
theorem s1_val : s1 (val8 a b c d e f g h) = val8 (t1 a) (t1 b) (t1 c) (t1 d) (t1 e) (t1 f) (t1 g) (t1 h) := by
  unfold s1
  have e1 : val8 a b c d e f g h >>> 1 = val8 (a / 2 + 128 * (b % 2)) (b / 2 + 128 * (c % 2)) (c / 2 + 128 * (d % 2)) (d / 2 + 128 * (e % 2)) (e / 2 + 128 * (f % 2)) (f / 2 + 128 * (g % 2)) (g / 2 + 128 * (h % 2)) (h / 2 + 128 * 0) := by
    rw [Nat.shiftRight_eq_div_pow]; unfold val8; omega
  rw [e1, show 6148914691236517205 = val8 85 85 85 85 85 85 85 85 from rfl, and_val8 (by omega) (by omega) (by omega) (by omega) (by omega) (by omega) (by omega) (by omega), and_val8 ha hb hc hd he hf hg (by omega)]
  rw [t1_and ha (by omega), t1_and hb (by omega), t1_and hc (by omega), t1_and hd (by omega), t1_and he (by omega), t1_and hf (by omega), t1_and hg (by omega), t1_and hh (by omega)]
  unfold val8 t1; omega
theorem s2_val : s2 (val8 a b c d e f g h) = val8 (t2 a) (t2 b) (t2 c) (t2 d) (t2 e) (t2 f) (t2 g) (t2 h) := by
  unfold s2
  have e1 : val8 a b c d e f g h >>> 2 = val8 (a / 4 + 64 * (b % 4)) (b / 4 + 64 * (c % 4)) (c / 4 + 64 * (d % 4)) (d / 4 + 64 * (e % 4)) (e / 4 + 64 * (f % 4)) (f / 4 + 64 * (g % 4)) (g / 4 + 64 * (h % 4)) (h / 4 + 64 * 0) := by
    rw [Nat.shiftRight_eq_div_pow]; unfold val8; omega
  rw [e1, show 3689348814741910323 = val8 51 51 51 51 51 51 51 51 from rfl, and_val8 (by omega) (by omega) (by omega) (by omega) (by omega) (by omega) (by omega) (by omega), and_val8 ha hb hc hd he hf hg (by omega)]
  rw [t2_and ha (by omega), t2_and hb (by omega), t2_and hc (by omega), t2_and hd (by omega), t2_and he (by omega), t2_and hf (by omega), t2_and hg (by omega), t2_and hh (by omega)]
  unfold val8 t2; omega
end
/-- Nibbles that are not great. -/
def nib (x : Nat) : Prop := x / 16 ≤ 4 ∧ x % 16 ≤ 4
theorem t4_and {p q : Nat} (hp : p < 16) (hq : q < 16) : (16 * p + q) &&& 15 = q := t4_all ⟨p, hp⟩ ⟨q, hq⟩
theorem s3_val {a b c d e f g h : Nat} (ha : nib a) (hb : nib b) (hc : nib c) (hd : nib d) (he : nib e) (hf : nib f) (hg : nib g) (hh : nib h) :
    s3 (val8 a b c d e f g h) = val8 (a / 16 + a % 16) (b / 16 + b % 16) (c / 16 + c % 16) (d / 16 + d % 16) (e / 16 + e % 16) (f / 16 + f % 16) (g / 16 + g % 16) (h / 16 + h % 16) ∧ (val8 a b c d e f g h >>> 4) + val8 a b c d e f g h < 2 ^ 64 := by
  unfold nib at *
  have e1 : (val8 a b c d e f g h >>> 4) + val8 a b c d e f g h = val8 (16 * (a / 16 + b % 16) + (a / 16 + a % 16)) (16 * (b / 16 + c % 16) + (b / 16 + b % 16)) (16 * (c / 16 + d % 16) + (c / 16 + c % 16)) (16 * (d / 16 + e % 16) + (d / 16 + d % 16)) (16 * (e / 16 + f % 16) + (e / 16 + e % 16)) (16 * (f / 16 + g % 16) + (f / 16 + f % 16)) (16 * (g / 16 + h % 16) + (g / 16 + g % 16)) (16 * (h / 16) + (h / 16 + h % 16)) := by
    rw [Nat.shiftRight_eq_div_pow]; unfold val8; omega
  refine ⟨?_, ?_⟩
  · unfold s3
    rw [e1, show 1085102592571150095 = val8 15 15 15 15 15 15 15 15 from rfl, and_val8 (by omega) (by omega) (by omega) (by omega) (by omega) (by omega) (by omega) (by omega)]
    rw [t4_and (by omega) (by omega), t4_and (by omega) (by omega), t4_and (by omega) (by omega), t4_and (by omega) (by omega), t4_and (by omega) (by omega), t4_and (by omega) (by omega), t4_and (by omega) (by omega), t4_and (by omega) (by omega)]
  · rw [e1]; unfold val8; omega
/-- What is behind the three stages: bytes that add up to the number of ones. -/
theorem s123 {x : Nat} (hx : x < 2 ^ 64) : ∃ a b c d e f g h, s3 (s2 (s1 x)) = val8 a b c d e f g h ∧ a ≤ 8 ∧ b ≤ 8 ∧ c ≤ 8 ∧ d ≤ 8 ∧ e ≤ 8 ∧ f ≤ 8 ∧ g ≤ 8 ∧ h ≤ 8 ∧ a + b + c + d + e + f + g + h = popc x ∧ s1 x < 2 ^ 64 ∧ s2 (s1 x) < 2 ^ 64 ∧ (s2 (s1 x) >>> 4) + s2 (s1 x) < 2 ^ 64 := by
  obtain ⟨a, b, c, d, e, f, g, h, rfl, ha, hb, hc, hd, he, hf, hg, hh⟩ := val8_of x hx
  have la := t1_lt ha; have lb := t1_lt hb; have lc := t1_lt hc; have ld := t1_lt hd; have le := t1_lt he; have lf := t1_lt hf; have lg := t1_lt hg; have lh := t1_lt hh
  have ka := t2_lt la; have kb := t2_lt lb; have kc := t2_lt lc; have kd := t2_lt ld; have ke := t2_lt le; have kf := t2_lt lf; have kg := t2_lt lg; have kh := t2_lt lh
  have na := t3_all ⟨a, ha⟩; have nb := t3_all ⟨b, hb⟩; have nc := t3_all ⟨c, hc⟩; have nd := t3_all ⟨d, hd⟩; have ne := t3_all ⟨e, he⟩; have nf := t3_all ⟨f, hf⟩; have ng := t3_all ⟨g, hg⟩; have nh := t3_all ⟨h, hh⟩
  rw [popF_eq 8 _ (by simpa using ha)] at na
  rw [popF_eq 8 _ (by simpa using hb)] at nb
  rw [popF_eq 8 _ (by simpa using hc)] at nc
  rw [popF_eq 8 _ (by simpa using hd)] at nd
  rw [popF_eq 8 _ (by simpa using he)] at ne
  rw [popF_eq 8 _ (by simpa using hf)] at nf
  rw [popF_eq 8 _ (by simpa using hg)] at ng
  rw [popF_eq 8 _ (by simpa using hh)] at nh
  simp only at na nb nc nd ne nf ng nh
  rw [s1_val ha hb hc hd he hf hg hh, s2_val la lb lc ld le lf lg lh]
  generalize t2 (t1 a) = A at *
  generalize t2 (t1 b) = B at *
  generalize t2 (t1 c) = C at *
  generalize t2 (t1 d) = D at *
  generalize t2 (t1 e) = E at *
  generalize t2 (t1 f) = F at *
  generalize t2 (t1 g) = G at *
  generalize t2 (t1 h) = J at *
  obtain ⟨h3, h4⟩ := s3_val ⟨na.1, na.2.1⟩ ⟨nb.1, nb.2.1⟩ ⟨nc.1, nc.2.1⟩ ⟨nd.1, nd.2.1⟩ ⟨ne.1, ne.2.1⟩ ⟨nf.1, nf.2.1⟩ ⟨ng.1, ng.2.1⟩ ⟨nh.1, nh.2.1⟩
  refine ⟨_, _, _, _, _, _, _, _, h3, by omega, by omega, by omega, by omega, by omega, by omega, by omega, by omega, ?_, ?_, ?_, h4⟩
  · rw [popc_val8 ha hb hc hd he hf hg]; omega
  · exact val8_lt la lb lc ld le lf lg lh
  · exact val8_lt ka kb kc kd ke kf kg kh
/-- The end: the bytes are added up. -/
theorem s456 {a b c d e f g h : Nat} (ha : a ≤ 8) (hb : b ≤ 8) (hc : c ≤ 8) (hd : d ≤ 8) (he : e ≤ 8) (hf : f ≤ 8) (hg : g ≤ 8) (hh : h ≤ 8) :
    ∃ x y z, val8 a b c d e f g h + (val8 a b c d e f g h >>> 8) = x ∧ x + x >>> 16 = y ∧ y + y >>> 32 = z ∧ x < 2 ^ 63 ∧ y < 2 ^ 63 ∧ z < 2 ^ 63 ∧ z &&& 127 = a + b + c + d + e + f + g + h := by
  refine ⟨_, _, _, rfl, rfl, rfl, ?_⟩
  have e1 : val8 a b c d e f g h + (val8 a b c d e f g h >>> 8) = val8 (a + b) (b + c) (c + d) (d + e) (e + f) (f + g) (g + h) h := by
    rw [Nat.shiftRight_eq_div_pow]; unfold val8; omega
  have e2 : val8 (a + b) (b + c) (c + d) (d + e) (e + f) (f + g) (g + h) h + (val8 (a + b) (b + c) (c + d) (d + e) (e + f) (f + g) (g + h) h >>> 16) = val8 (a + b + c + d) (b + c + d + e) (c + d + e + f) (d + e + f + g) (e + f + g + h) (f + g + h) (g + h) h := by
    rw [Nat.shiftRight_eq_div_pow]; unfold val8; omega
  rw [e1, e2]
  refine ⟨by unfold val8; omega, by unfold val8; omega, ?_⟩
  have e3 : val8 (a + b + c + d) (b + c + d + e) (c + d + e + f) (d + e + f + g) (e + f + g + h) (f + g + h) (g + h) h + (val8 (a + b + c + d) (b + c + d + e) (c + d + e + f) (d + e + f + g) (e + f + g + h) (f + g + h) (g + h) h >>> 32) =
      val8 (a + b + c + d + e + f + g + h) (b + c + d + e + f + g + h) (c + d + e + f + g + h) (d + e + f + g + h) (e + f + g + h) (f + g + h) (g + h) h := by
    rw [Nat.shiftRight_eq_div_pow]; unfold val8; omega
  rw [e3]
  refine ⟨by unfold val8; omega, ?_⟩
  rw [show 127 = 2 ^ 7 - 1 from rfl, Nat.and_two_pow_sub_one_eq_mod]
  unfold val8; omega
end Go.AM

/-! ### M9 -/
namespace Go.AM
def tzF : Nat → Nat → Nat
  | 0, _ => 0
  | f + 1, x => if x % 2 = 1 then 0 else 1 + tzF f (x / 2)
def deBL : List Nat := [0, 1, 56, 2, 57, 49, 28, 3, 61, 58, 42, 50, 38, 29, 17, 4, 62, 47, 59, 36, 45, 43, 51, 22, 53, 39, 33, 30, 24, 18, 12, 5, 63, 55, 48, 27, 60, 41, 37, 16, 46, 35, 44, 21, 52, 32, 23, 11, 54, 26, 40, 15, 34, 20, 31, 10, 25, 14, 19, 9, 13, 8, 7, 6]
def tzIx (x : Nat) : Nat := ((x &&& (18446744073709551616 - x)) * 285870213051353865 % 18446744073709551616) >>> 58
theorem and_compl {n k : Nat} (h : k < 2 ^ n) : k &&& (2 ^ n - (k + 1)) = 0 := by
  apply Nat.eq_of_testBit_eq
  intro i
  rw [Nat.testBit_and, Nat.testBit_two_pow_sub_succ h, Nat.zero_testBit]
  cases k.testBit i <;> simp
theorem and_two {a b r s : Nat} (hr : r < 2) (hs : s < 2) : (2 * a + r) &&& (2 * b + s) = 2 * (a &&& b) + (r &&& s) := by
  have h : (r &&& s) < 2 := Nat.lt_of_le_of_lt Nat.and_le_left hr
  apply Nat.eq_of_testBit_eq
  intro i
  have e1 : 2 * a + r = 2 ^ 1 * a + r := by omega
  have e2 : 2 * b + s = 2 ^ 1 * b + s := by omega
  have e3 : 2 * (a &&& b) + (r &&& s) = 2 ^ 1 * (a &&& b) + (r &&& s) := by omega
  rw [Nat.testBit_and, e1, e2, e3, Nat.testBit_two_pow_mul_add _ (by omega), Nat.testBit_two_pow_mul_add _ (by omega), Nat.testBit_two_pow_mul_add _ (by omega)]
  split <;> rw [Nat.testBit_and]
theorem low_bit : ∀ (n x : Nat), x ≠ 0 → x < 2 ^ n → x &&& (2 ^ n - x) = 2 ^ tzF n x ∧ tzF n x < n
  | 0, x, h0, h => absurd h (by omega)
  | n + 1, x, h0, h => by
    rw [Nat.pow_succ] at h ⊢
    rw [tzF]
    by_cases hx : x % 2 = 1
    · rw [if_pos hx]
      have e1 : x = 2 * (x / 2) + 1 := by omega
      have e2 : 2 ^ n * 2 - x = 2 * (2 ^ n - (x / 2 + 1)) + 1 := by omega
      rw [e2]
      conv => lhs; lhs; lhs; rw [e1]
      rw [and_two (by omega) (by omega), and_compl (by omega)]
      exact ⟨rfl, by omega⟩
    · rw [if_neg hx]
      have e1 : x = 2 * (x / 2) + 0 := by omega
      have e2 : 2 ^ n * 2 - x = 2 * (2 ^ n - x / 2) + 0 := by omega
      obtain ⟨i1, i2⟩ := low_bit n (x / 2) (by omega) (by omega)
      rw [e2]
      conv => lhs; lhs; lhs; rw [e1]
      rw [and_two (by omega) (by omega), i1]
      refine ⟨?_, by omega⟩
      rw [Nat.add_comm 1, Nat.pow_succ]; simp; omega
theorem tz_all : ∀ t : Fin 64, (2 ^ t.val * 285870213051353865 % 18446744073709551616) >>> 58 < 64 ∧ deBL[(2 ^ t.val * 285870213051353865 % 18446744073709551616) >>> 58]? = some t.val := by decide +kernel
theorem tz_ok {x : Nat} (h0 : x ≠ 0) (h : x < 2 ^ 64) : tzIx x < 64 ∧ deBL[tzIx x]? = some (tzF 64 x) := by
  obtain ⟨h1, h2⟩ := low_bit 64 x h0 h
  have := tz_all ⟨tzF 64 x, h2⟩
  unfold tzIx
  rw [show 18446744073709551616 = 2 ^ 64 from rfl, h1]
  exact this
end Go.AM
