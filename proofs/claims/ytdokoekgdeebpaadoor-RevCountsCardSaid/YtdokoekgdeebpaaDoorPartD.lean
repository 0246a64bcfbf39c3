/- Part 4 of the proof: Plain laws, and contracts of the program's functions. -/
import Derived.Test.YtdokoekgdeebpaaDoorPartC
import Derived.Test.YtdokoekgdeebpaaDoorProg
import Derived.KernelRfl
import Derived.Shelf.Spec.SlicesInsert
import Derived.Shelf.Spec.SlicesInsertGrow
import Derived.Test.YtdokoekgdeebpaaDoorPartB
set_option linter.unusedVariables false
set_option linter.unusedSimpArgs false
/-! ### PD0 -/
namespace Go.AM
open Go.Proofs
set_option maxRecDepth 100000
theorem mixed : Tryd.prog.follows .mixedOrders = true := by kernel_rfl
def H0 : Nat → List (Nat × Nat) := fun _ => []
theorem T34 : undOf Tryd.prog 34 = some (.slice 22) := by kernel_rfl
theorem T22 : undOf Tryd.prog 22 = some (.slice 3) := by kernel_rfl
theorem T28 : undOf Tryd.prog 28 = some (.slice 49) := by kernel_rfl
theorem S3 : szOf Tryd.prog 3 = some 1 := by kernel_rfl
theorem S4 : szOf Tryd.prog 4 = some 1 := by kernel_rfl
theorem S5 : szOf Tryd.prog 5 = some 1 := by kernel_rfl
theorem S34 : szOf Tryd.prog 34 = some 1 := by kernel_rfl
theorem S22 : szOf Tryd.prog 22 = some 1 := by kernel_rfl
theorem S25 : szOf Tryd.prog 25 = some 1 := by kernel_rfl
theorem S28 : szOf Tryd.prog 28 = some 1 := by kernel_rfl
theorem S30 : szOf Tryd.prog 30 = some 3 := by kernel_rfl
theorem S49 : szOf Tryd.prog 49 = some 4 := by kernel_rfl
theorem A3 : isAggT Tryd.prog 3 = some false := by kernel_rfl
theorem A4 : isAggT Tryd.prog 4 = some false := by kernel_rfl
theorem A5 : isAggT Tryd.prog 5 = some false := by kernel_rfl
theorem A34 : isAggT Tryd.prog 34 = some false := by kernel_rfl
theorem A22 : isAggT Tryd.prog 22 = some false := by kernel_rfl
theorem A25 : isAggT Tryd.prog 25 = some false := by kernel_rfl
theorem A28 : isAggT Tryd.prog 28 = some false := by kernel_rfl
theorem A30 : isAggT Tryd.prog 30 = some true := by kernel_rfl
theorem A49 : isAggT Tryd.prog 49 = some true := by kernel_rfl
theorem A131 : isAggT Tryd.prog 131 = some false := by kernel_rfl
theorem Z3 : zeroOf Tryd.prog 3 = some (nv 0) := by kernel_rfl
theorem Z4 : zeroOf Tryd.prog 4 = some (.bool false) := by kernel_rfl
theorem Z34 : zeroOf Tryd.prog 34 = some (.slice none 0 0) := by kernel_rfl
theorem Z22 : zeroOf Tryd.prog 22 = some (.slice none 0 0) := by kernel_rfl
theorem Z28 : zeroOf Tryd.prog 28 = some (.slice none 0 0) := by kernel_rfl
theorem Z25 : zeroOf Tryd.prog 25 = some (nv 0) := by kernel_rfl
theorem Z30 : zeroOf Tryd.prog 30 = some (.agg #[nv 0, nv 0, .slice none 0 0]) := by kernel_rfl
theorem Z49 : zeroOf Tryd.prog 49 = some (.agg #[nv 0, .slice none 0 0, nv 0, nv 0]) := by kernel_rfl
theorem F30_0 {b o : Nat} : aFieldAddr Tryd.prog 30 (.pointer (some ⟨b, o, none⟩)) 0 = some (.pointer (some ⟨b, o, none⟩)) := by kernel_rfl
theorem F30_1 {b o : Nat} : aFieldAddr Tryd.prog 30 (.pointer (some ⟨b, o, none⟩)) 1 = some (.pointer (some ⟨b, o + 1, none⟩)) := by kernel_rfl
theorem F30_2 {b o : Nat} : aFieldAddr Tryd.prog 30 (.pointer (some ⟨b, o, none⟩)) 2 = some (.pointer (some ⟨b, o + 2, none⟩)) := by kernel_rfl
theorem F49_0 {b o : Nat} : aFieldAddr Tryd.prog 49 (.pointer (some ⟨b, o, none⟩)) 0 = some (.pointer (some ⟨b, o, none⟩)) := by kernel_rfl
theorem F49_1 {b o : Nat} : aFieldAddr Tryd.prog 49 (.pointer (some ⟨b, o, none⟩)) 1 = some (.pointer (some ⟨b, o + 1, none⟩)) := by kernel_rfl
theorem F49_2 {b o : Nat} : aFieldAddr Tryd.prog 49 (.pointer (some ⟨b, o, none⟩)) 2 = some (.pointer (some ⟨b, o + 2, none⟩)) := by kernel_rfl
theorem F49_3 {b o : Nat} : aFieldAddr Tryd.prog 49 (.pointer (some ⟨b, o, none⟩)) 3 = some (.pointer (some ⟨b, o + 3, none⟩)) := by kernel_rfl
theorem bytes3 : bytesOf' Tryd.prog 3 = some 8 := by kernel_rfl
theorem App22 : AppT Tryd.prog 22 22 := ⟨_, _, _, T22, T22, rfl, S3, Z3, rfl, by kernel_rfl⟩
theorem U3 : undOf Tryd.prog 3 = some (.int .i64) := by kernel_rfl
theorem call15 : callable Tryd.prog 15 = true := by kernel_rfl
theorem call28 : callable Tryd.prog 28 = true := by kernel_rfl
theorem call20 : callable Tryd.prog 20 = true := by kernel_rfl
theorem call107 : callable Tryd.prog 107 = true := by kernel_rfl
theorem call83 : callable Tryd.prog 83 = true := by kernel_rfl
theorem call84 : callable Tryd.prog 84 = true := by kernel_rfl
theorem call138 : callable Tryd.prog 138 = true := by kernel_rfl
end Go.AM

/-! ### M0 -/
namespace Go.AM
def popF : Nat → Nat → Nat
  | 0, _ => 0
  | f + 1, x => if x = 0 then 0 else x % 2 + popF f (x / 2)
@[simp] theorem popF_zero (x : Nat) : popF 0 x = 0 := rfl
theorem popF_fuel : ∀ (f g x : Nat), x < 2 ^ f → x < 2 ^ g → popF f x = popF g x
  | 0, 0, x, _, _ => rfl
  | 0, g + 1, x, h, _ => by obtain rfl : x = 0 := by omega
                            simp [popF]
  | f + 1, 0, x, _, h => by obtain rfl : x = 0 := by omega
                            simp [popF]
  | f + 1, g + 1, x, h, h' => by
    rw [popF, popF]
    split
    · rfl
    · rw [popF_fuel f g (x / 2) (by rw [Nat.pow_succ] at h; omega) (by rw [Nat.pow_succ] at h'; omega)]
def popc (x : Nat) : Nat := popF x x
def blen (x : Nat) : Nat := if x = 0 then 0 else x.log2 + 1
theorem blen_pos {x : Nat} (h : 0 < x) : blen x = 1 + blen (x / 2) := by
  unfold blen
  rw [if_neg (by omega)]
  by_cases h2 : x / 2 = 0
  · obtain rfl : x = 1 := by omega
    rfl
  · rw [if_neg h2, Nat.log2_def, if_pos (by omega)]; omega
end Go.AM

/-! ### M1 -/
namespace Go.AM
set_option linter.unusedVariables false
theorem lt_two_pow_blen (x : Nat) : x < 2 ^ blen x := by
  induction x using Nat.strongRecOn with
  | _ x ih =>
    by_cases h : 0 < x
    · rw [blen_pos h]
      have := ih (x / 2) (by omega)
      rw [Nat.add_comm, Nat.pow_succ]; omega
    · obtain rfl : x = 0 := by omega
      simp [blen]
theorem blen_le_of_lt {x k : Nat} (h : x < 2 ^ k) : blen x ≤ k := by
  induction k generalizing x with
  | zero => obtain rfl : x = 0 := by omega
            simp [blen]
  | succ k ih =>
    by_cases hx : 0 < x
    · rw [blen_pos hx]
      have := ih (x := x / 2) (by rw [Nat.pow_succ] at h; omega)
      omega
    · obtain rfl : x = 0 := by omega
      simp [blen]
theorem blen_pos_iff {x : Nat} : 0 < blen x ↔ x ≠ 0 := by
  constructor
  · intro h e; subst e; simp [blen] at h
  · intro h; rw [blen_pos (by omega)]; omega
theorem testBit_blen {x : Nat} (h : x ≠ 0) : x.testBit (blen x - 1) = true := by
  induction x using Nat.strongRecOn with
  | _ x ih =>
    rw [blen_pos (by omega), show 1 + blen (x / 2) - 1 = blen (x / 2) by omega]
    by_cases h2 : x / 2 = 0
    · have : x = 1 := by omega
      subst this; simp [blen]
    · have h3 := ih (x / 2) (by omega) h2
      have h4 := blen_pos_iff.2 h2
      rw [show blen (x / 2) = blen (x / 2) - 1 + 1 by omega, Nat.testBit_succ]
      exact h3
theorem lt_blen_of_testBit {x j : Nat} (h : x.testBit j = true) : j < blen x := by
  by_cases hj : j < blen x
  · exact hj
  · have : x < 2 ^ j := Nat.lt_of_lt_of_le (lt_two_pow_blen x) (Nat.pow_le_pow_right (by omega) (by omega))
    rw [Nat.testBit_lt_two_pow this] at h; cases h
theorem blen_eq {x k : Nat} (h1 : x < 2 ^ (k + 1)) (h2 : x.testBit k = true) : blen x = k + 1 := by
  have := blen_le_of_lt h1
  have := lt_blen_of_testBit h2
  omega
theorem lt_two_pow_of_bits {x k : Nat} (h : ∀ j, k ≤ j → x.testBit j = false) : x < 2 ^ k := by
  by_cases hx : x = 0
  · subst hx; exact Nat.two_pow_pos k
  · have h1 := testBit_blen hx
    have h2 : blen x - 1 < k := by
      by_cases hk : k ≤ blen x - 1
      · rw [h _ hk] at h1; cases h1
      · omega
    exact Nat.lt_of_lt_of_le (lt_two_pow_blen x) (Nat.pow_le_pow_right (by omega) (by omega))
theorem xor_cancel_left (a b : Nat) : a ^^^ (a ^^^ b) = b := by rw [← Nat.xor_assoc, Nat.xor_self, Nat.zero_xor]
theorem xor_cancel_right (a b : Nat) : a ^^^ b ^^^ b = a := by rw [Nat.xor_assoc, Nat.xor_self, Nat.xor_zero]
theorem xor_swap4 (a b c d : Nat) : (a ^^^ b) ^^^ (c ^^^ d) = (a ^^^ c) ^^^ (b ^^^ d) := by
  rw [Nat.xor_assoc, Nat.xor_assoc, ← Nat.xor_assoc b c d, Nat.xor_comm b c, Nat.xor_assoc c b d]
theorem xor_mid (a b c : Nat) : a ^^^ b ^^^ c ^^^ b = a ^^^ c := by
  rw [Nat.xor_assoc (a ^^^ b) c b, Nat.xor_comm c b, ← Nat.xor_assoc, xor_cancel_right]
theorem eq_of_xor_zero {a b : Nat} (h : a ^^^ b = 0) : a = b := by
  have := xor_cancel_right a b
  rw [h, Nat.zero_xor] at this; exact this.symm
theorem xor_div_two (a b : Nat) : (a ^^^ b) / 2 = a / 2 ^^^ b / 2 := by
  apply Nat.eq_of_testBit_eq; intro i
  rw [Nat.testBit_xor, Nat.testBit_div_two, Nat.testBit_div_two, Nat.testBit_div_two, Nat.testBit_xor]
theorem blen_xor_top {a b k : Nat} (ha : blen a = k + 1) (hb : b < 2 ^ k) : blen (a ^^^ b) = k + 1 := by
  have h1 : a < 2 ^ (k + 1) := by rw [← ha]; exact lt_two_pow_blen a
  have h2 : a.testBit k = true := by
    have := testBit_blen (x := a) (by intro e; subst e; simp [blen] at ha)
    rw [ha] at this; exact this
  refine blen_eq (Nat.xor_lt_two_pow h1 (Nat.lt_of_lt_of_le hb (Nat.pow_le_pow_right (by omega) (by omega)))) ?_
  rw [Nat.testBit_xor, h2, Nat.testBit_lt_two_pow hb]; rfl
/-! ### Sums of rows -/
def total : List Nat → Nat → Nat
  | [], _ => 0
  | r :: l, w => (if w.testBit 0 then r else 0) ^^^ total l (w / 2)
theorem total_zero : ∀ l : List Nat, total l 0 = 0
  | [] => rfl
  | r :: l => by simp [total, total_zero l]
theorem total_xor : ∀ (l : List Nat) (a b : Nat), total l (a ^^^ b) = total l a ^^^ total l b
  | [], a, b => by simp [total]
  | r :: l, a, b => by
    simp only [total, xor_div_two, total_xor l, Nat.testBit_xor]
    rw [xor_swap4]
    congr 1
    cases a.testBit 0 <;> cases b.testBit 0 <;> simp
theorem total_append : ∀ (l r : List Nat) (w : Nat), total (l ++ r) w = total l w ^^^ total r (w / 2 ^ l.length)
  | [], r, w => by simp [total]
  | x :: l, r, w => by
    simp only [List.cons_append, total, total_append l r, List.length_cons]
    rw [Nat.xor_assoc, Nat.div_div_eq_div_mul, Nat.pow_succ, Nat.mul_comm]
theorem total_single (x w : Nat) : total [x] w = if w.testBit 0 then x else 0 := by simp [total]
theorem total_snoc (l : List Nat) (x w : Nat) : total (l ++ [x]) w = total l w ^^^ (if w.testBit l.length then x else 0) := by
  rw [total_append, total_single, Nat.testBit_div_two_pow, Nat.zero_add]
theorem total_pow : ∀ (l : List Nat) (i : Nat), total l (2 ^ i) = l.getD i 0
  | [], i => by simp [total]
  | r :: l, 0 => by simp [total, total_zero]
  | r :: l, i + 1 => by
    have : 2 ^ (i + 1) / 2 = 2 ^ i := by rw [Nat.pow_succ]; omega
    simp only [total, this, total_pow l i]
    have : (2 ^ (i + 1)).testBit 0 = false := by rw [Nat.testBit_two_pow]; simp
    simp [this]
theorem total_take_succ (l : List Nat) (k w : Nat) : total (l.take (k + 1)) w = total (l.take k) w ^^^ (if w.testBit k then l.getD k 0 else 0) := by
  by_cases hk : k < l.length
  · rw [List.take_succ_eq_append_getElem hk, total_snoc]
    simp only [List.length_take, Nat.min_eq_left (Nat.le_of_lt hk), List.getD_eq_getElem?_getD, List.getElem?_eq_getElem hk, Option.getD_some]
  · have h1 : l.take (k + 1) = l := List.take_of_length_le (by omega)
    have h2 : l.take k = l := List.take_of_length_le (by omega)
    rw [h1, h2, List.getD_eq_getElem?_getD, List.getElem?_eq_none (by omega)]
    simp
theorem total_lt {l : List Nat} {n : Nat} (h : ∀ x ∈ l, x < 2 ^ n) (w : Nat) : total l w < 2 ^ n := by
  induction l generalizing w with
  | nil => exact Nat.two_pow_pos n
  | cons r l ih =>
    simp only [total]
    refine Nat.xor_lt_two_pow ?_ (ih (fun x hx => h x (by simp [hx])) _)
    split
    · exact h r (by simp)
    · exact Nat.two_pow_pos n
/-! ### Spans -/
def InSpan (l : List Nat) (x : Nat) : Prop := ∃ w, total l w = x
theorem InSpan.zero (l : List Nat) : InSpan l 0 := ⟨0, total_zero l⟩
theorem InSpan.xor {l : List Nat} {x y : Nat} (hx : InSpan l x) (hy : InSpan l y) : InSpan l (x ^^^ y) := by
  obtain ⟨a, rfl⟩ := hx
  obtain ⟨b, rfl⟩ := hy
  exact ⟨a ^^^ b, total_xor l a b⟩
theorem InSpan.mem {l : List Nat} {x : Nat} (h : x ∈ l) : InSpan l x := by
  obtain ⟨i, hi, rfl⟩ := List.mem_iff_getElem.1 h
  refine ⟨2 ^ i, ?_⟩
  rw [total_pow]; simp [hi]
theorem InSpan.trans {l r : List Nat} (h : ∀ x ∈ l, InSpan r x) {y : Nat} (hy : InSpan l y) : InSpan r y := by
  obtain ⟨w, rfl⟩ := hy
  induction l generalizing w with
  | nil => exact .zero r
  | cons a l ih =>
    simp only [total]
    refine .xor ?_ (ih (fun x hx => h x (by simp [hx])) _)
    split
    · exact h a (by simp)
    · exact .zero r
theorem InSpan.lt {l : List Nat} {n : Nat} (h : ∀ x ∈ l, x < 2 ^ n) {x : Nat} (hx : InSpan l x) : x < 2 ^ n := by
  obtain ⟨w, rfl⟩ := hx; exact total_lt h w
theorem InSpan.take {l : List Nat} {k x : Nat} (h : InSpan (l.take k) x) : InSpan l x := h.trans fun y hy => .mem (List.mem_of_mem_take hy)
def SameSpan (l r : List Nat) : Prop := ∀ x, InSpan l x ↔ InSpan r x
theorem SameSpan.refl (l : List Nat) : SameSpan l l := fun _ => Iff.rfl
theorem SameSpan.symm {l r : List Nat} (h : SameSpan l r) : SameSpan r l := fun x => (h x).symm
theorem SameSpan.trans {l r s : List Nat} (h : SameSpan l r) (h' : SameSpan r s) : SameSpan l s := fun x => (h x).trans (h' x)
theorem SameSpan.of {l r : List Nat} (h1 : ∀ x ∈ l, InSpan r x) (h2 : ∀ x ∈ r, InSpan l x) : SameSpan l r := fun x => ⟨fun h => h.trans h1, fun h => h.trans h2⟩
/-- Rows by their leads: none, or a row whose greatest bit is just there. -/
def Leads (t : List Nat) : Prop := ∀ k, k < t.length → t.getD k 0 = 0 ∨ blen (t.getD k 0) = k + 1
theorem Leads.take_span {t : List Nat} (h : Leads t) (w : Nat) : ∀ k, k ≤ t.length → total (t.take k) w < 2 ^ k ∧ (total (t.take k) w = 0 ∨ t.getD (blen (total (t.take k) w) - 1) 0 ≠ 0)
  | 0, _ => by simp [total]
  | k + 1, hk => by
    obtain ⟨h1, h2⟩ := h.take_span w k (by omega)
    rw [total_take_succ]
    by_cases hb : w.testBit k = true ∧ t.getD k 0 ≠ 0
    · rw [if_pos hb.1]
      rcases h k (by omega) with e | e
      · exact absurd e hb.2
      · have e2 : blen (total (t.take k) w ^^^ t.getD k 0) = k + 1 := by rw [Nat.xor_comm]; exact blen_xor_top e h1
        refine ⟨by have := lt_two_pow_blen (total (t.take k) w ^^^ t.getD k 0); rw [e2] at this; exact this, .inr ?_⟩
        rw [e2]; exact hb.2
    · have : (if w.testBit k = true then t.getD k 0 else 0) = 0 := by
        by_cases h0 : w.testBit k = true
        · rw [if_pos h0]; exact Decidable.not_not.1 fun h3 => hb ⟨h0, h3⟩
        · rw [if_neg h0]
      rw [this, Nat.xor_zero]
      exact ⟨Nat.lt_of_lt_of_le h1 (Nat.pow_le_pow_right (by omega) (by omega)), h2⟩
/-- The greatest bit of what such rows give is a lead. -/
theorem Leads.lead {t : List Nat} (h : Leads t) {x : Nat} (hx : InSpan t x) (h0 : x ≠ 0) : t.getD (blen x - 1) 0 ≠ 0 := by
  obtain ⟨w, rfl⟩ := hx
  have := h.take_span w t.length (Nat.le_refl _)
  rw [List.take_length] at this
  exact this.2.resolve_left h0
end Go.AM
namespace Go.AM
end Go.AM

/-! ### M2 -/
namespace Go.AM
set_option linter.unusedVariables false
abbrev Sys := List (Nat × Nat)
def Sys.at (s : Sys) (k : Nat) : Nat × Nat := s.getD k (0, 0)
/-- Rows of the span are taken off a row, from the column k - 1 on. -/
def splitM (s : Sys) : Nat → Nat × Nat → Nat × Nat
  | 0, x => x
  | k + 1, x => splitM s k (if x.1.testBit k then (x.1 ^^^ (s.at k).1, x.2 ^^^ (s.at k).2) else x)
def addM (s : Sys) (i row : Nat) : Sys :=
  if (splitM s 24 (row, 0)).1 = 0 then s else s.set (blen (splitM s 24 (row, 0)).1 - 1) ((splitM s 24 (row, 0)).1, (splitM s 24 (row, 0)).2 ^^^ 2 ^ i)
/-! ### Bounds -/
theorem splitM_lt {s : Sys} {n p : Nat} (h : ∀ k, (s.at k).1 < 2 ^ n ∧ (s.at k).2 < 2 ^ p) : ∀ (k : Nat) (x : Nat × Nat), x.1 < 2 ^ n → x.2 < 2 ^ p → (splitM s k x).1 < 2 ^ n ∧ (splitM s k x).2 < 2 ^ p
  | 0, x, h1, h2 => ⟨h1, h2⟩
  | k + 1, x, h1, h2 => by
    rw [splitM]
    split
    · exact splitM_lt h k _ (Nat.xor_lt_two_pow h1 (h k).1) (Nat.xor_lt_two_pow h2 (h k).2)
    · exact splitM_lt h k _ h1 h2
/-- Rows at work: by their leads; what they are made of. -/
structure Good (s : Sys) (l : List Nat) (i : Nat) : Prop where
  len : s.length = 24
  lead : ∀ k, k < 24 → (s.at k).1 = 0 ∨ blen (s.at k).1 = k + 1
  zero : ∀ k, k < 24 → (s.at k).1 = 0 → (s.at k).2 = 0
  of : ∀ k, total l (s.at k).2 = (s.at k).1
  lt : ∀ k, (s.at k).2 < 2 ^ i
  piv : ∀ k b, (s.at k).2.testBit b = true → ¬ InSpan (l.take b) (l.getD b 0)
  sp : ∀ b, b < i → InSpan (s.map (·.1)) (l.getD b 0)
theorem Sys.at_out {s : Sys} {k : Nat} (h : s.length ≤ k) : s.at k = (0, 0) := by
  unfold Sys.at; rw [List.getD_eq_getElem?_getD, List.getElem?_eq_none h]; rfl
theorem Sys.rows_getD (s : Sys) (k : Nat) : (s.map (·.1)).getD k 0 = (s.at k).1 := by
  unfold Sys.at
  rw [List.getD_eq_getElem?_getD, List.getD_eq_getElem?_getD, List.getElem?_map]
  cases s[k]? <;> rfl
theorem Good.leads {s : Sys} {l : List Nat} {i : Nat} (h : Good s l i) : Leads (s.map (·.1)) := by
  intro k hk
  rw [Sys.rows_getD]
  exact h.lead k (by simpa [h.len] using hk)
/-- What taking off rows leaves: a member of the span is taken off; no bit is left where there is a lead. -/
theorem splitM_spec {s : Sys} {l : List Nat} (hlead : ∀ k, k < 24 → (s.at k).1 = 0 ∨ blen (s.at k).1 = k + 1) (hof : ∀ k, total l (s.at k).2 = (s.at k).1) : ∀ (k : Nat) (x : Nat × Nat), k ≤ 24 →
    InSpan (s.map (·.1)) (x.1 ^^^ (splitM s k x).1) ∧ total l x.2 ^^^ x.1 = total l (splitM s k x).2 ^^^ (splitM s k x).1 ∧ (∀ j, k ≤ j → (splitM s k x).1.testBit j = x.1.testBit j) ∧ (∀ j, j < k → (s.at j).1 ≠ 0 → (splitM s k x).1.testBit j = false)
  | 0, x, _ => ⟨by simp [splitM, InSpan.zero], rfl, fun _ _ => rfl, fun j h => absurd h (by omega)⟩
  | k + 1, x, hk => by
    have hrow : InSpan (s.map (·.1)) (s.at k).1 := by
      by_cases hks : k < s.length
      · refine .mem ?_
        rw [← Sys.rows_getD, List.getD_eq_getElem?_getD, List.getElem?_eq_getElem (by simpa using hks)]
        exact List.getElem_mem _
      · rw [Sys.at_out (by omega)]; exact .zero _
    rw [splitM]
    split
    · rename_i hb
      obtain ⟨h1, h2, h3, h4⟩ := splitM_spec hlead hof k (x.1 ^^^ (s.at k).1, x.2 ^^^ (s.at k).2) (by omega)
      refine ⟨?_, ?_, fun j hj => ?_, fun j hj h0 => ?_⟩
      · have := h1.xor hrow
        simp only at this
        rwa [xor_mid] at this
      · rw [← h2, total_xor, hof, xor_swap4, Nat.xor_self, Nat.xor_zero]
      · rw [h3 j (by omega), Nat.testBit_xor]
        have : (s.at k).1.testBit j = false := by
          rcases hlead k (by omega) with e | e
          · rw [e]; simp
          · cases e2 : (s.at k).1.testBit j with
            | false => rfl
            | true => have := lt_blen_of_testBit e2; omega
        rw [this]; simp
      · by_cases hjk : j < k
        · exact h4 j hjk h0
        · obtain rfl : j = k := by omega
          rw [h3 j (Nat.le_refl _), Nat.testBit_xor, hb]
          have := testBit_blen h0
          rw [(hlead j (by omega)).resolve_left h0] at this
          simp only [Nat.add_sub_cancel] at this
          rw [this]; rfl
    · rename_i hb
      obtain ⟨h1, h2, h3, h4⟩ := splitM_spec hlead hof k x (by omega)
      refine ⟨h1, h2, fun j hj => h3 j (by omega), fun j hj h0 => ?_⟩
      by_cases hjk : j < k
      · exact h4 j hjk h0
      · obtain rfl : j = k := by omega
        rw [h3 j (Nat.le_refl _)]; simpa using hb
theorem splitM_piv {s : Sys} {Q : Nat → Prop} (h : ∀ k b, (s.at k).2.testBit b = true → Q b) : ∀ (k : Nat) (x : Nat × Nat), (∀ b, x.2.testBit b = true → Q b) → ∀ b, (splitM s k x).2.testBit b = true → Q b
  | 0, x, hx => hx
  | k + 1, x, hx => by
    rw [splitM]
    split
    · refine splitM_piv h k _ fun b hb => ?_
      simp only [Nat.testBit_xor] at hb
      cases e : x.2.testBit b with
      | true => exact hx b e
      | false => rw [e] at hb; exact h k b (by simpa using hb)
    · exact splitM_piv h k _ hx
theorem Sys.at_set (s : Sys) (p k : Nat) (x : Nat × Nat) (hp : p < s.length) : Sys.at (s.set p x) k = if k = p then x else s.at k := by
  unfold Sys.at
  rw [List.getD_eq_getElem?_getD, List.getD_eq_getElem?_getD, List.getElem?_set]
  by_cases h : k = p
  · subst h; simp [hp]
  · rw [if_neg (fun e => h e.symm), if_neg h]
theorem InSpan.of_set {s : Sys} {p x : Nat} {v : Nat × Nat} (h0 : (s.at p).1 = 0) (hp : p < s.length) (h : InSpan (s.map (·.1)) x) : InSpan ((s.set p v).map (·.1)) x := by
  refine h.trans fun y hy => ?_
  obtain ⟨k, hk, rfl⟩ := List.mem_iff_getElem.1 hy
  have hk' : k < s.length := by simpa using hk
  have e : (s.map (·.1))[k] = (s.at k).1 := by
    rw [← Sys.rows_getD, List.getD_eq_getElem?_getD, List.getElem?_eq_getElem hk]; rfl
  rw [e]
  by_cases hkp : k = p
  · subst hkp; rw [h0]; exact .zero _
  · refine .mem ?_
    have := Sys.at_set s p k v hp
    rw [if_neg hkp] at this
    rw [← this, ← Sys.rows_getD, List.getD_eq_getElem?_getD, List.getElem?_eq_getElem (by simpa using hk')]
    exact List.getElem_mem _
theorem Good.step {s : Sys} {l : List Nat} {i : Nat} (h : Good s l i) (hi : i < l.length) (hl : ∀ x ∈ l, x < 2 ^ 24) : Good (addM s i (l.getD i 0)) l (i + 1) := by
  have hrow : l.getD i 0 < 2 ^ 24 := by
    rw [List.getD_eq_getElem?_getD, List.getElem?_eq_getElem hi]; exact hl _ (List.getElem_mem _)
  obtain ⟨h1, h2, h3, h4⟩ := splitM_spec h.lead h.of 24 (l.getD i 0, 0) (Nat.le_refl _)
  have hlt : (splitM s 24 (l.getD i 0, 0)).1 < 2 ^ 24 ∧ (splitM s 24 (l.getD i 0, 0)).2 < 2 ^ i := by
    refine splitM_lt (fun k => ⟨?_, h.lt k⟩) 24 _ hrow (Nat.two_pow_pos i)
    by_cases hk : k < 24
    · rcases h.lead k hk with e | e
      · rw [e]; exact Nat.two_pow_pos 24
      · refine Nat.lt_of_lt_of_le (lt_two_pow_blen _) (Nat.pow_le_pow_right (by omega) (by omega))
    · rw [Sys.at_out (by rw [h.len]; omega)]; exact Nat.two_pow_pos 24
  have hpv := splitM_piv (s := s) h.piv 24 (l.getD i 0, 0) (by simp)
  unfold addM
  generalize hx : splitM s 24 (l.getD i 0, 0) = x at *
  simp only [total_zero, Nat.zero_xor] at h2
  by_cases h0 : x.1 = 0
  · rw [if_pos h0]
    refine ⟨h.len, h.lead, h.zero, h.of, fun k => Nat.lt_of_lt_of_le (h.lt k) (Nat.pow_le_pow_right (by omega) (by omega)), h.piv, fun b hb => ?_⟩
    by_cases hbi : b < i
    · exact h.sp b hbi
    · obtain rfl : b = i := by omega
      simpa [h0] using h1
  · rw [if_neg h0]
    have hp : blen x.1 - 1 < 24 := by have := blen_le_of_lt hlt.1; have := blen_pos_iff.2 h0; omega
    have hp0 : (s.at (blen x.1 - 1)).1 = 0 := by
      cases Nat.decEq (s.at (blen x.1 - 1)).1 0 with
      | isTrue e => exact e
      | isFalse e => have := h4 _ hp e; rw [testBit_blen h0] at this; cases this
    have hps : blen x.1 - 1 < s.length := by rw [h.len]; exact hp
    have hnew : ¬ InSpan (l.take i) (l.getD i 0) := by
      intro hin
      have hin2 : InSpan (s.map (·.1)) (l.getD i 0) := hin.trans fun y hy => by
        obtain ⟨b, hb, rfl⟩ := List.mem_iff_getElem.1 hy
        have hb' : b < i := by have := hb; rw [List.length_take] at this; omega
        have := h.sp b hb'
        rw [List.getD_eq_getElem?_getD, List.getElem?_eq_getElem (by omega)] at this
        rw [List.getElem_take]; exact this
      have hx1 : InSpan (s.map (·.1)) x.1 := by
        have := hin2.xor h1
        rw [xor_cancel_left] at this; exact this
      have := h.leads.lead hx1 h0
      rw [Sys.rows_getD] at this
      exact this hp0
    refine ⟨by rw [List.length_set]; exact h.len, fun k hk => ?_, fun k hk => ?_, fun k => ?_, fun k => ?_, fun k b => ?_, fun b hb => ?_⟩
    · rw [Sys.at_set _ _ _ _ hps]
      split
      · rename_i e; subst e; right; simp only; have := blen_pos_iff.2 h0; omega
      · exact h.lead k hk
    · rw [Sys.at_set _ _ _ _ hps]
      split
      · intro e; exact absurd e h0
      · exact h.zero k hk
    · rw [Sys.at_set _ _ _ _ hps]
      split
      · simp only [total_xor, total_pow]
        rw [h2, xor_cancel_left]
      · exact h.of k
    · rw [Sys.at_set _ _ _ _ hps]
      split
      · exact Nat.xor_lt_two_pow (Nat.lt_of_lt_of_le hlt.2 (Nat.pow_le_pow_right (by omega) (by omega))) (Nat.pow_lt_pow_right (by omega) (by omega))
      · exact Nat.lt_of_lt_of_le (h.lt k) (Nat.pow_le_pow_right (by omega) (by omega))
    · rw [Sys.at_set _ _ _ _ hps]
      split
      · simp only [Nat.testBit_xor, Nat.testBit_two_pow]
        intro hb
        by_cases hbi : i = b
        · subst hbi; exact hnew
        · exact hpv b (by simpa [hbi] using hb)
      · exact h.piv k b
    · by_cases hbi : b < i
      · exact (h.sp b hbi).of_set hp0 hps
      · obtain rfl : b = i := by omega
        have a1 := InSpan.of_set (v := (x.1, x.2 ^^^ 2 ^ b)) hp0 hps h1
        have a2 : InSpan ((s.set (blen x.1 - 1) (x.1, x.2 ^^^ 2 ^ b)).map (·.1)) x.1 := by
          refine .mem ?_
          refine List.mem_map.2 ⟨(x.1, x.2 ^^^ 2 ^ b), ?_, rfl⟩
          exact List.mem_iff_getElem.2 ⟨blen x.1 - 1, by simpa using hps, by simp⟩
        have := a1.xor a2
        simp only at this
        rw [xor_cancel_right] at this; exact this
end Go.AM

/-! ### M3 -/
namespace Go.AM
set_option linter.unusedVariables false
/-- A table of reduced rows. -/
def RedT (t : List Nat) : Prop := ∀ j, j < t.length → t.getD j 0 = 0 ∨ (blen (t.getD j 0) = j + 1 ∧ ∀ i, i < j → t.getD i 0 ≠ 0 → (t.getD j 0).testBit i = false)
theorem RedT.leads {t : List Nat} (h : RedT t) : Leads t := fun k hk => (h k hk).imp id (·.1)
theorem getD_mem {t : List Nat} {k : Nat} (h : k < t.length) : t.getD k 0 ∈ t := by
  rw [List.getD_eq_getElem?_getD, List.getElem?_eq_getElem h]; exact List.getElem_mem _
theorem getD_out {t : List Nat} {k : Nat} (h : t.length ≤ k) : t.getD k 0 = 0 := by
  rw [List.getD_eq_getElem?_getD, List.getElem?_eq_none h]; rfl
theorem InSpan.getD (t : List Nat) (k : Nat) : InSpan t (t.getD k 0) := by
  by_cases h : k < t.length
  · exact .mem (getD_mem h)
  · rw [getD_out (by omega)]; exact .zero t
/-! ### Lists of reduced rows -/
def Fall (l : List Nat) : Prop := l.Pairwise fun a b => blen b < blen a
structure Rref (r : List Nat) : Prop where
  fall : Fall r
  ne : ∀ a ∈ r, a ≠ 0
  alone : ∀ a ∈ r, ∀ b ∈ r, a ≠ b → b.testBit (blen a - 1) = false
theorem Fall.tail_lt {a : Nat} {r : List Nat} (h : Fall (a :: r)) : ∀ b ∈ r, blen b < blen a := (List.pairwise_cons.1 h).1
theorem Fall.lead : ∀ {r : List Nat}, Fall r → (∀ a ∈ r, a ≠ 0) → ∀ w, (∀ k, (∀ a ∈ r, blen a ≤ k) → total r w < 2 ^ k) ∧ (total r w ≠ 0 → ∃ a ∈ r, blen a = blen (total r w))
  | [], _, _, w => ⟨fun k _ => by simp [total]; exact Nat.two_pow_pos k, fun h => absurd rfl h⟩
  | a :: r, hf, hn, w => by
    have ih := Fall.lead (List.pairwise_cons.1 hf).2 (fun b hb => hn b (by simp [hb])) (w / 2)
    refine ⟨fun k hk => total_lt (fun b hb => Nat.lt_of_lt_of_le (lt_two_pow_blen b) (Nat.pow_le_pow_right (by omega) (hk b hb))) w, fun h0 => ?_⟩
    simp only [total] at h0 ⊢
    split
    · rename_i hb
      refine ⟨a, by simp, ?_⟩
      have ha := blen_pos_iff.2 (hn a (by simp))
      have := ih.1 (blen a - 1) fun b hb => by have := hf.tail_lt b hb; omega
      have := blen_xor_top (a := a) (k := blen a - 1) (by omega) this
      omega
    · rename_i hb
      rw [if_neg hb, Nat.zero_xor] at h0
      obtain ⟨b, hb, e⟩ := ih.2 h0
      exact ⟨b, by simp [hb], by rw [Nat.zero_xor]; exact e⟩
theorem Rref.lead {r : List Nat} (h : Rref r) {x : Nat} (hx : InSpan r x) (h0 : x ≠ 0) : ∃ a ∈ r, blen a = blen x := by
  obtain ⟨w, rfl⟩ := hx; exact (h.fall.lead h.ne w).2 h0
theorem Rref.sub {r s : List Nat} (h : Rref r) (h' : Rref s) (hs : SameSpan r s) {a : Nat} (ha : a ∈ r) : a ∈ s := by
  obtain ⟨b, hb, e⟩ := h'.lead ((hs a).1 (.mem ha)) (h.ne a ha)
  by_cases hd : a ^^^ b = 0
  · rw [eq_of_xor_zero hd]; exact hb
  · exfalso
    have hin : InSpan r (a ^^^ b) := (InSpan.mem ha).xor ((hs b).2 (.mem hb))
    obtain ⟨c, hc, ec⟩ := h.lead hin hd
    obtain ⟨d, hd', ed⟩ := h'.lead ((hs _).1 hin) hd
    have hlt : blen (a ^^^ b) < blen a := by
      have ha0 := blen_pos_iff.2 (h.ne a ha)
      have : a ^^^ b < 2 ^ (blen a - 1) := by
        apply lt_two_pow_of_bits
        intro j hj
        rw [Nat.testBit_xor]
        by_cases e1 : j = blen a - 1
        · subst e1
          rw [testBit_blen (h.ne a ha)]
          have := testBit_blen (h'.ne b hb)
          rw [e] at this; rw [this]; rfl
        · have e2 : a.testBit j = false := by
            cases e3 : a.testBit j with
            | false => rfl
            | true => have := lt_blen_of_testBit e3; omega
          have e4 : b.testBit j = false := by
            cases e3 : b.testBit j with
            | false => rfl
            | true => have := lt_blen_of_testBit e3; omega
          rw [e2, e4]; rfl
      have := blen_le_of_lt this
      omega
    have t1 : a.testBit (blen (a ^^^ b) - 1) = false := by
      rw [← ec]; exact h.alone c hc a ha (by intro e3; subst e3; omega)
    have t2 : b.testBit (blen (a ^^^ b) - 1) = false := by
      rw [← ed]; exact h'.alone d hd' b hb (by intro e3; subst e3; omega)
    have := testBit_blen hd
    rw [Nat.testBit_xor, t1, t2] at this
    cases this
end Go.AM

/-! ### M4 -/
namespace Go.AM
set_option linter.unusedVariables false
end Go.AM

/-! ### M8 -/
namespace Go.AM
set_option linter.unusedVariables false
/-! ### The stages -/
def s1 (x : Nat) : Nat := (x >>> 1 &&& 6148914691236517205) + (x &&& 6148914691236517205)
def s2 (x : Nat) : Nat := (x >>> 2 &&& 3689348814741910323) + (x &&& 3689348814741910323)
def s3 (x : Nat) : Nat := (x >>> 4) + x &&& 1085102592571150095
def t1 (b : Nat) : Nat := (b / 2 &&& 85) + (b &&& 85)
def t2 (b : Nat) : Nat := (b / 4 &&& 51) + (b &&& 51)
section
variable {a b c d e f g h : Nat} (ha : a < 256) (hb : b < 256) (hc : c < 256) (hd : d < 256) (he : e < 256) (hf : f < 256) (hg : g < 256) (hh : h < 256)
include ha hb hc hd he hf hg hh
end
end Go.AM

/-! ### G1 -/
namespace Go.AM
set_option linter.unusedVariables false
set_option linter.unusedSimpArgs false
/-- Numbers as cells. -/
def cellsN (l : List Nat) : Array Value := (l.map nv).toArray
@[simp] theorem cellsN_size (l : List Nat) : (cellsN l).size = l.length := by simp [cellsN]
theorem cellsN_get {l : List Nat} {i x : Nat} (h : l[i]? = some x) : (cellsN l)[i]? = some (nv x) := by simp [cellsN, h]
theorem cellsN_set (l : List Nat) (i x : Nat) : (cellsN l).setIfInBounds i (nv x) = cellsN (l.set i x) := by
  apply Array.ext_getElem?
  intro j
  simp only [cellsN, Array.getElem?_setIfInBounds, List.getElem?_toArray, List.getElem?_map, List.getElem?_set]
  split <;> simp
theorem OwnF.ofCells {N : Nat} {m : Mem} {b : Nat} {l r : List Nat} (hN : N ≤ b) (h : Mem.get m b = .cells true (cellsN (l ++ r))) : OwnF N m (.slice (some ⟨b, 0, some 1⟩) l.length (l ++ r).length) (ofs l) := by
  refine .inr ⟨b, _, _, by rw [ofs_length], hN, h, by simp, by simp, fun i x hi => ?_⟩
  simp only [ofs, List.getElem?_map, Option.map_eq_some_iff] at hi
  obtain ⟨y, hy, rfl⟩ := hi
  refine cellsN_get ?_
  rw [List.getElem?_append_left (List.getElem?_eq_some_iff.1 hy).1]; exact hy
theorem fill1 {a : Int} : Instr.fill (fun i => some (i * 1, 1)) (if 1 * 1 = 0 then #[] else (Array.range (1 * 1)).map ((nv 0).cells[· % (nv 0).cells.size]!)) [(0, .int .i64 a)] = some #[.int .i64 a] := by kernel_rfl
theorem one_ints {m : Mem} {k : Nat} : IntsAt (m.push (.cells true #[nv k])) (.slice (some ⟨m.size, 0, some 1⟩) 1 1) [Int.ofNat k] :=
  .inr ⟨m.size, 0, 1, true, _, rfl, gP rfl, fun i x hi => by
    match i with
    | 0 => simp at hi; subst hi; rfl
    | i + 1 => simp at hi⟩
def nats (l : List Int) : List Nat := l.map Int.toNat
@[simp] theorem nats_ofs (l : List Nat) : nats (ofs l) = l := by
  simp only [nats, ofs, List.map_map]
  conv => rhs; rw [← List.map_id l]
  exact List.map_congr_left fun x _ => rfl
theorem bit_one (w i : Nat) : (w >>> i &&& 1 = 1) ↔ w.testBit i = true := by
  rw [Nat.testBit, Nat.and_one_is_mod, Nat.one_and_eq_mod_two]; simp
theorem neqF {a b : Nat} (h : a = b) : aInt .neq .i64 (Int.ofNat a) (Int.ofNat b) = some (.bool false) := by rw [aInt_neq, decide_eq_false (by simpa using h)]
theorem eqlT {a b : Nat} (h : a = b) : aInt .eql .i64 (Int.ofNat a) (Int.ofNat b) = some (.bool true) := by rw [aInt_eql, decide_eq_true h]
/-! ### Rows of rows -/
def RowsAt (m : Mem) (v : Value) (G : List (List Int)) : Prop :=
  (G = [] ∧ (v = .slice none 0 0 ∨ ∃ b o, v = .slice (some ⟨b, o, none⟩) 0 0)) ∨
  ∃ b o cap r c, v = .slice (some ⟨b, o, some 1⟩) G.length cap ∧ Mem.get m b = .cells r c ∧ ∀ i g, G[i]? = some g → ∃ s, c[o + i * 1]? = some s ∧ IntsAt m s g
theorem RowsAt.ext {m m' : Mem} {v : Value} {G : List (List Int)} (h : RowsAt m v G) (he : Ext m m') : RowsAt m' v G := by
  rcases h with h | ⟨b, o, cap, r, c, h1, h2, h3⟩
  · exact .inl h
  · refine .inr ⟨b, o, cap, r, c, h1, he.cells h2, fun i g hg => ?_⟩
    obtain ⟨s, hs, hi⟩ := h3 i g hg
    exact ⟨s, hs, hi.ext he⟩
theorem RowsAt.len {m : Mem} {v : Value} {G : List (List Int)} (h : RowsAt m v G) : ∃ q cap, v = .slice q G.length cap := by
  rcases h with ⟨rfl, rfl | ⟨b, o, rfl⟩⟩ | ⟨b, o, cap, r, c, rfl, _, _⟩
  · exact ⟨_, _, rfl⟩
  · exact ⟨_, _, rfl⟩
  · exact ⟨_, _, rfl⟩
theorem RowsAt.at {m : Mem} {v : Value} {G : List (List Int)} (h : RowsAt m v G) (hl : 0 < G.length) : ∃ b o cap r c, v = .slice (some ⟨b, o, some 1⟩) G.length cap ∧ Mem.get m b = .cells r c ∧ ∀ i g, G[i]? = some g → ∃ s, c[o + i * 1]? = some s ∧ IntsAt m s g := by
  rcases h with ⟨rfl, _⟩ | h
  · simp at hl
  · exact h
/-- Rows of numbers that are not below 0. -/
def ofs2 (G : List (List Nat)) : List (List Int) := G.map ofs
@[simp] theorem ofs2_length (G : List (List Nat)) : (ofs2 G).length = G.length := by simp [ofs2]
theorem ofs2_get {G : List (List Nat)} {i : Nat} {g : List Nat} (h : G[i]? = some g) : (ofs2 G)[i]? = some (ofs g) := by simp [ofs2, h]
/-! ### Maps of numbers to numbers -/
def MapAt (m : Mem) (b : Nat) (es : List (Nat × Nat)) : Prop := Mem.get m b = .map true (es.map fun p => (nv p.1, nv p.2))
def findE : List (Nat × Nat) → Nat → Nat → Option (Nat × Nat)
  | [], _, _ => none
  | p :: es, k, i => if k = p.1 then some (i, p.2) else findE es k (i + 1)
def lookE (es : List (Nat × Nat)) (k : Nat) : Option Nat := (findE es k 0).map (·.2)
end Go.AM

/-! ### M9 -/
namespace Go.AM
end Go.AM

/-! ### G2 -/
namespace Go.AM
set_option maxRecDepth 100000
set_option linter.unusedVariables false
set_option linter.unusedSimpArgs false
theorem ACalls.callee {P : Program} {f : FuncId} {x : Array Value} {m : Mem} {v : Value} (h : ∃ w m', ACalls P f x m w m' ∧ (w = v ∧ m' = m)) : ACalls P f x m v m := by
  obtain ⟨w, m', h, rfl, rfl⟩ := h; exact h
/-- The error of rows. -/
def checkF (l : List Int) (n : Int) : Nat :=
  if n < 1 ∨ 16 < n then 3 else if 24 < l.length then 2 else if l.all (fun x => decide (0 ≤ x ∧ x < 2 ^ n.toNat)) then 0 else 4
/-- Rows at work, in memory. -/
def SysAt (m : Mem) (p : Nat) (s : Sys) : Prop :=
  s.length = 24 ∧ ∃ c, Mem.get m p = .cells true c ∧ c.size = 49 ∧ ∀ k, k < 24 → c.extract (0 + 1 + k * 2) (0 + 1 + k * 2 + 2) = #[nv (s.at k).1, nv (s.at k).2]
def SysLt (s : Sys) : Prop := ∀ k, (s.at k).1 < 2 ^ 62 ∧ (s.at k).2 < 2 ^ 62
theorem SysAt.ext {m m' : Mem} {p : Nat} {s : Sys} (h : SysAt m p s) (he : Ext m m') : SysAt m' p s := by
  obtain ⟨h1, c, h2, h3⟩ := h
  exact ⟨h1, c, he.cells h2, h3⟩
/-- All that was there, but one block, is as it was. -/
def But (p : Nat) (m m' : Mem) : Prop := m.size ≤ m'.size ∧ ∀ b, b < m.size → b ≠ p → Mem.get m' b = Mem.get m b
theorem But.of_ext {p : Nat} {m m' : Mem} (h : Ext m m') : But p m m' := ⟨h.1, fun b hb _ => h.2 b hb⟩
theorem But.trans {p : Nat} {a b c : Mem} (h : But p a b) (h' : But p b c) : But p a c :=
  ⟨Nat.le_trans h.1 h'.1, fun i hi hp => (h'.2 i (Nat.lt_of_lt_of_le hi h.1) hp).trans (h.2 i hi hp)⟩
theorem But.set {p : Nat} {a b : Mem} (h : But p a b) {i : Nat} (hi : i = p ∨ a.size ≤ i) (o : AObj) : But p a (b.setIfInBounds i o) :=
  ⟨by simpa using h.1, fun j hj hp => by rw [get_set, if_neg (by omega)]; exact h.2 j hj hp⟩
theorem But.cells {p : Nat} {m m' : Mem} (h : But p m m') {b : Nat} {r : Bool} {c : Array Value} (hb : Mem.get m b = .cells r c) (hp : b ≠ p) : Mem.get m' b = .cells r c := by
  rw [h.2 b (live hb) hp, hb]
theorem But.ext {p : Nat} {m0 m m' : Mem} (h : But p m m') (h0 : Ext m0 m) (hp : m0.size ≤ p) : Ext m0 m' :=
  ⟨Nat.le_trans h0.1 h.1, fun b hb => (h.2 b (Nat.lt_of_lt_of_le hb h0.1) (by omega)).trans (h0.2 b hb)⟩
theorem But.low {N p : Nat} {m m' : Mem} (h : But p m m') (hN : N ≤ p) (hm : N ≤ m.size) : Low N m m' := ⟨h.1, fun b hb => h.2 b (by omega) (by omega)⟩
/-- Rows at work: bounds. -/
def SysOk (s : Sys) : Prop := ∀ k, (s.at k).1 < 2 ^ 24 ∧ (s.at k).2 < 2 ^ 40
theorem SysOk.lt {s : Sys} (h : SysOk s) : SysLt s := fun k => by have := h k; omega
theorem sCallF1 {P : Program} {ρ : Env} {m m' : Mem} {K : Env → Mem → Prop} {ops : Array Oper} {l : List Oper} {d : Option Nat} {ty : TypeId} {pos : String} {af : Array Edge} {v : Value} {f x : Operand} {tys : Array TypeId} {g : FuncId} {a b : Value}
    (hv : evR ρ f = .func (.func g) #[a] #[]) (hk : callable P g = true) (h1 : evR ρ x = b) (h : ACalls P g #[a, b] m v m') (hK : wpOps P ops K l (updO ρ d v) m') :
    wpOps P ops K (⟨d, .call ⟨.value f, ⟨[x]⟩, tys⟩, ty, pos, af, none⟩ :: l) ρ m := sCall hv hk (by simpa [h1] using h) hK
theorem aInt_lssNI {a : Nat} {b : Int} : aInt .lss .i64 (Int.ofNat a) b = some (.bool (decide (Int.ofNat a < b))) := by simp [aInt]
/-- The error of rows and a row more. -/
def oneF (l : List Int) (n row : Int) : Nat := if checkF l n = 0 ∧ ¬ (0 ≤ row ∧ row < 2 ^ n.toNat) then 4 else checkF l n
/-- What the table of math/bits for TrailingZeros64 holds. -/
def deB : List Nat := [0, 1, 56, 2, 57, 49, 28, 3, 61, 58, 42, 50, 38, 29, 17, 4, 62, 47, 59, 36, 45, 43, 51, 22, 53, 39, 33, 30, 24, 18, 12, 5, 63, 55, 48, 27, 60, 41, 37, 16, 46, 35, 44, 21, 52, 32, 23, 11, 54, 26, 40, 15, 34, 20, 31, 10, 25, 14, 19, 9, 13, 8, 7, 6]
def cellsB (l : List Nat) : Array Value := (l.map fun x => Value.int .u8 (Int.ofNat x)).toArray
/-- What the variables of the packages hold. -/
structure Glob (m : Mem) : Prop where
  col : ∃ r q rw es i j, Mem.get m 0 = .cells r #[.map (some q)] ∧ Mem.get m q = .map rw es ∧ aFindNow .bool (.bool true) es 0 = some (some (i, .agg #[.func (.func 139) #[] #[]])) ∧ aFindNow .bool (.bool false) es 0 = some (some (j, .agg #[.func (.func 140) #[] #[]]))
  deb : ∃ r, Mem.get m 2 = .cells r (cellsB deB)
theorem Glob.ext {m m' : Mem} (h : Glob m) (he : Ext m m') : Glob m' := by
  obtain ⟨⟨r, q, rw, es, i, j, h1, h2, h3, h4⟩, r2, h5⟩ := h
  refine ⟨⟨r, q, rw, es, i, j, he.cells h1, ?_, h3, h4⟩, r2, he.cells h5⟩
  rw [he.2 q (Mem.lt_of_live (by rw [h2]; rfl)), h2]
/-- What is changed lies between two places. -/
def Mid (N B : Nat) (m m' : Mem) : Prop := m'.size = m.size ∧ ∀ b, b < N ∨ B ≤ b → Mem.get m' b = Mem.get m b
theorem Mid.ext {N B : Nat} {m0 m m' : Mem} (h : Mid N B m m') (he : Ext m0 m) (hN : m0.size ≤ N) : Ext m0 m' := ⟨by rw [h.1]; exact he.1, fun b hb => (h.2 b (.inl (by omega))).trans (he.2 b hb)⟩
theorem Mid.own {N N' B : Nat} {m m' : Mem} {v : Value} {l : List Int} (h : Mid N B m m') (ho : OwnF N' m v l) (hB : B ≤ N') : OwnF N' m' v l :=
  ho.up fun b hb _ => h.2 b (.inr (by omega))
theorem Mid.low {N B : Nat} {m m' : Mem} (h : Mid N B m m') : Low N m m' := ⟨by rw [h.1]; exact Nat.le_refl _, fun b hb => h.2 b (.inl hb)⟩
/-- A slice of bytes that lies from N0 to N. -/
def BytesIn (N0 N : Nat) (m : Mem) (v : Value) (l : List Int) : Prop :=
  (l = [] ∧ ∃ q c, v = .slice q 0 c) ∨ ∃ b o cap r c, v = .slice (some ⟨b, o, some 1⟩) l.length cap ∧ N0 ≤ b ∧ b < N ∧ Mem.get m b = .cells r c ∧ ∀ i x, l[i]? = some x → c[o + i * 1]? = some (.int .u8 x)
theorem BytesIn.keep {N0 N : Nat} {m m' : Mem} {v : Value} {l : List Int} (h : BytesIn N0 N m v l) (hh : ∀ c, N0 ≤ c → c < N → Mem.get m' c = Mem.get m c) : BytesIn N0 N m' v l := by
  rcases h with h | ⟨b, o, cap, r, c, h1, h2, h3, h4, h5⟩
  · exact .inl h
  · exact .inr ⟨b, o, cap, r, c, h1, h2, h3, by rw [hh b h2 h3]; exact h4, h5⟩
/-- A store of bytes, that has been asked no more than k times: it lies from N0 to N. -/
def StoreAt (N0 N : Nat) (m : Mem) (b k : Nat) : Prop :=
  N ≤ b + 1 ∧ b < N ∧ N ≤ m.size ∧ ∃ bs nx st l, Mem.get m b = .cells true #[bs, nv nx, .int .u32 (Int.ofNat st)] ∧ nx ≤ k ∧ st < 4294967296 ∧ BytesIn N0 b m bs l ∧ l.length ≤ 300
theorem StoreAt.keep {N0 N : Nat} {m m' : Mem} {b k : Nat} (h : StoreAt N0 N m b k) (hN : N0 ≤ b) (hs : m.size ≤ m'.size) (hh : ∀ c, N0 ≤ c → c < N → Mem.get m' c = Mem.get m c) : StoreAt N0 N m' b k := by
  obtain ⟨h1, h2, h3, bs, nx, st, l, g1, g2, g3, g4, g5⟩ := h
  exact ⟨h1, h2, by omega, bs, nx, st, l, by rw [hh b (by omega) h2]; exact g1, g2, g3, g4.keep fun c a1 a2 => hh c a1 (by omega), g5⟩
/-- A slice of bytes that may be read. -/
def BytesAt (m : Mem) (v : Value) (l : List Int) : Prop :=
  (l = [] ∧ (v = .slice none 0 0 ∨ ∃ b o, v = .slice (some ⟨b, o, none⟩) 0 0)) ∨
  ∃ b o cap r c, v = .slice (some ⟨b, o, some 1⟩) l.length cap ∧ l.length ≤ cap ∧ Mem.get m b = .cells r c ∧ ∀ i x, l[i]? = some x → c[o + i]? = some (.int .u8 x)
theorem BytesAt.ext {m m' : Mem} {v : Value} {l : List Int} (h : BytesAt m v l) (he : Ext m m') : BytesAt m' v l := by
  rcases h with h | ⟨b, o, cap, r, c, h1, h2, h3, h4⟩
  · exact .inl h
  · exact .inr ⟨b, o, cap, r, c, h1, h2, he.cells h3, h4⟩
theorem BytesAt.len {m : Mem} {v : Value} {l : List Int} (h : BytesAt m v l) : ∃ q cap, v = .slice q l.length cap := by
  rcases h with ⟨rfl, rfl | ⟨b, o, rfl⟩⟩ | ⟨b, o, cap, r, c, rfl, _, _⟩
  · exact ⟨_, _, rfl⟩
  · exact ⟨_, _, rfl⟩
  · exact ⟨_, _, rfl⟩
theorem BytesIn.len {N0 N : Nat} {m : Mem} {v : Value} {l : List Int} (h : BytesIn N0 N m v l) : ∃ q cap, v = .slice q l.length cap := by
  rcases h with ⟨rfl, q, c, rfl⟩ | ⟨b, o, cap, r, c, rfl, _⟩
  · exact ⟨_, _, rfl⟩
  · exact ⟨_, _, rfl⟩
theorem StoreAt.low {N0 N M : Nat} {m m' : Mem} {b k : Nat} (h : StoreAt N0 N m b k) (hN0 : N0 ≤ b) (hl : Low M m m') (hM : N ≤ M) : StoreAt N0 N m' b k := h.keep hN0 hl.1 fun c _ hc => hl.2 c (by omega)
theorem StoreAt.le {N0 N : Nat} {m : Mem} {b k k' : Nat} (h : StoreAt N0 N m b k) (hk : k ≤ k') : StoreAt N0 N m b k' := by
  obtain ⟨h1, h2, h3, bs, nx, st, l, g1, g2, g3⟩ := h
  exact ⟨h1, h2, h3, bs, nx, st, l, g1, by omega, g3⟩
/-- Rows that are right. -/
structure Right (L : List Nat) (n : Nat) : Prop where
  n1 : 1 ≤ n
  n2 : n ≤ 16
  len : L.length ≤ 24
  lt : ∀ x ∈ L, x < 2 ^ n
theorem Right.check {L : List Nat} {n : Nat} (h : Right L n) : checkF (ofs L) (Int.ofNat n) = 0 := by
  obtain ⟨h1, h2, h3, h4⟩ := h
  unfold checkF
  rw [if_neg (by simp; omega), if_neg (by rw [ofs_length]; omega), if_pos]
  rw [List.all_eq_true]
  intro x hx
  obtain ⟨y, hy, rfl⟩ := List.mem_map.1 hx
  have := h4 y hy
  have e : ((2 ^ n : Nat) : Int) = 2 ^ n := by simp
  simp; omega
theorem Right.one {L : List Nat} {n x : Nat} (h : Right L n) (hx : x < 2 ^ n) : oneF (ofs L) (Int.ofNat n) (Int.ofNat x) = 0 := by
  unfold oneF
  rw [if_neg, h.check]
  rintro ⟨_, hn⟩
  apply hn
  have e : ((2 ^ n : Nat) : Int) = 2 ^ n := by simp
  simp; omega
theorem Ext.lowx {m0 m m' : Mem} {b : Nat} (h : Ext m0 m) (hx : LowX m.size b m m') (hb : m0.size ≤ b) : Ext m0 m' :=
  ⟨Nat.le_trans h.1 hx.1, fun c hc => (hx.2 c (by have := h.1; omega) (by omega)).trans (h.2 c hc)⟩
theorem Ext.only {m0 m m' : Mem} {b : Nat} (h : Ext m0 m) (hx : Only b m m') (hb : m0.size ≤ b) : Ext m0 m' := h.lowx hx.x hb
theorem OwnF.lowx {N b : Nat} {m m' : Mem} {v : Value} {l : List Int} (h : OwnF N m v l) (hx : LowX m.size b m m') (hb : b < N) : OwnF N m' v l := h.up fun c h1 h2 => hx.2 c h2 (by omega)
theorem StoreAt.ext {N0 N : Nat} {m m' : Mem} {b k : Nat} (h : StoreAt N0 N m b k) (hN0 : N0 ≤ b) (he : Ext m m') : StoreAt N0 N m' b k := h.keep hN0 he.1 fun c _ hc => he.2 c (by have := h.2.2.1; omega)
theorem StoreAt.lowx {N0 N : Nat} {m m' : Mem} {b k c : Nat} (h : StoreAt N0 N m b k) (hN0 : N0 ≤ b) (hx : LowX m.size c m m') (hc : c < N0 ∨ N ≤ c) : StoreAt N0 N m' b k :=
  h.keep hN0 hx.1 fun d h1 h2 => hx.2 d (by have := h.2.2.1; omega) (by omega)
theorem StoreAt.only {N0 N : Nat} {m m' : Mem} {b k c : Nat} (h : StoreAt N0 N m b k) (hN0 : N0 ≤ b) (hx : Only c m m') (hc : c < N0 ∨ N ≤ c) : StoreAt N0 N m' b k := h.lowx hN0 hx.x hc
theorem StoreAt.lt {N0 N : Nat} {m : Mem} {b k : Nat} (h : StoreAt N0 N m b k) : b < N ∧ N ≤ m.size := ⟨h.2.1, h.2.2.1⟩
end Go.AM

/-! ### P1 -/
namespace Go.AM
open Go.Proofs
set_option maxRecDepth 100000
set_option linter.unusedVariables false
set_option linter.unusedSimpArgs false
theorem okf28 : okF Tryd.prog H0 28 26 = true := by kernel_rfl
theorem spec_Equal {m : Mem} {a b : Value} {l r : List Int} (ha : IntsAt m a l) (hb : IntsAt m b r) (hl : l.length < 4611686018427387904) : ACalls Tryd.prog 28 #[a, b] m (.bool (decide (l = r))) m := by
  suffices h : ∃ v m', ACalls Tryd.prog 28 #[a, b] m v m' ∧ (v = .bool (decide (l = r)) ∧ m' = m) by
    obtain ⟨v, m', h, rfl, rfl⟩ := h; exact h
  obtain ⟨qa, ca, rfl⟩ := ha.len
  obtain ⟨qb, cb, rfl⟩ := hb.len
  refine wpF (args := [_, _]) mixed okf28 (fn := Tryd.f28) rfl rfl rfl (by simp) ?_
  refine cSeq (cRegion ?_)
  refine sAs (v := .bool _) rfl ?_
  refine sNil (kSeqN (cSeq ?_))
  refine cSeq (cRegion ?_)
  refine sMv (v := .slice _ _ _) rfl ?_
  refine sLen T22 rfl ?_
  refine sMv (v := .slice _ _ _) rfl ?_
  refine sLen T22 rfl ?_
  refine sBin rfl rfl aInt_neq ?_
  refine sNil (kSeqN ?_)
  refine cCond rfl (fun hc => ?_) (fun hc => ?_)
  · refine cSeq (cRegion ?_)
    refine sAs (v := .bool _) rfl ?_
    refine sNil (kSeqN (cRet ?_))
    refine ⟨.inr rfl, _, rfl, ?_, rfl⟩
    have : l ≠ r := fun e => hc (by rw [e])
    simp [oneOf, this, updO]
  have hlen : l.length = r.length := Decidable.not_not.1 hc
  refine cSkip (kSeqN (cSeq ?_))
  refine cSeq (cRegion ?_)
  refine sMv (v := .slice _ _ _) rfl ?_
  refine sLen T22 rfl ?_
  refine sMv (v := nv _) rfl ?_
  refine sNil (kSeqN (cBlock ?_))
  refine wpC_loop (fun k ρ m' => ∃ i, k = l.length - i ∧ i ≤ l.length ∧ m' = m ∧ (∀ j, j < i → l[j]? = r[j]?) ∧ Has ρ [(0, .slice qa l.length ca), (1, .slice qb r.length cb), (12, nv l.length), (13, nv i)]) ⟨0, rfl, by omega, rfl, by omega, rfl, rfl, rfl, rfl, trivial⟩ ?_
  rintro k ρ _ ⟨i, rfl, hi, rfl, hj, hh⟩
  rw [hh.env]; clear hh
  refine cSeq (cRegion ?_)
  refine sBin rfl rfl aInt_lss ?_
  refine sNil (kSeqN (cSeq ?_))
  refine cCond rfl (fun hc => ?_) (fun hc => ?_)
  rotate_left
  · have hil : i = l.length := by omega
    subst hil
    have he : l = r := by
      apply List.ext_getElem? fun j => ?_
      by_cases h : j < l.length
      · exact hj j h
      · rw [List.getElem?_eq_none (by omega), List.getElem?_eq_none (by omega)]
    refine cExit (kSeqE (kSeqE (kBlkS (kSeqN (cSeq (cRegion ?_))))))
    refine sAs (v := .bool _) rfl ?_
    refine sNil (kSeqN (cRet ?_))
    exact ⟨.inr rfl, _, rfl, by simp [oneOf, he, updO], rfl⟩
  refine cSkip (kSeqN (cSeq (cBlock ?_)))
  obtain ⟨b1, o1, p1, r1, c1, e1, g1, x1⟩ := ha.at (by omega)
  obtain ⟨b2, o2, p2, r2, c2, e2, g2, x2⟩ := hb.at (by omega)
  cases e1; cases e2
  refine cSeq (cRegion ?_)
  refine sMv (v := nv _) rfl ?_
  refine sAs (v := nv _) rfl ?_
  refine sNil (kSeqN (cSeq (cDraw rfl ?_)))
  refine sMv (v := .slice _ _ _) rfl ?_
  refine sMv (v := nv _) rfl ?_
  refine sIx T22 S3 rfl rfl (by omega) ?_
  refine sLd A3 rfl g1 (x1 i l[i] (by simp)) ?_
  refine sMv (v := .slice _ _ _) rfl ?_
  refine sMv (v := nv _) rfl ?_
  refine sIx T22 S3 rfl rfl (by omega) ?_
  refine sLd A3 rfl g2 (x2 i (r[i]'(by omega)) (by simp)) ?_
  refine sBinI rfl rfl aInt_neqI ?_
  refine sNil (kSeqN ?_)
  refine cCond rfl (fun hd => ?_) (fun hd => ?_)
  · refine cSeq (cRegion ?_)
    refine sAs (v := .bool _) rfl ?_
    refine sNil (kSeqN (cRet (kBlkR (kSeqR (kSeqR (kBlkR (kSeqR ?_)))))))
    have : l ≠ r := fun e => hd (by subst e; rfl)
    exact ⟨.inr rfl, _, rfl, by simp [oneOf, this, updO], rfl⟩
  refine cSkip (kBlkN (kSeqN (cRegion ?_)))
  refine sBin rfl rfl (aInt_add (b := 1) (by omega)) ?_
  refine sMv (v := nv _) rfl ?_
  refine sNil (kSeqN ⟨_, ?_, i + 1, rfl, by omega, rfl, ?_, rfl, rfl, rfl, rfl, trivial⟩)
  · omega
  · intro j hji
    by_cases h : j < i
    · exact hj j h
    · obtain rfl : j = i := by omega
      rw [List.getElem?_eq_getElem (by omega), List.getElem?_eq_getElem (by omega), Decidable.not_not.1 hd]
theorem okf138 : okF Tryd.prog H0 138 19 = true := by kernel_rfl
theorem spec_IndexFunc {m : Mem} {a : Value} {l : List Int} {g : FuncId} {cp : Array Value} {p : Int → Bool} (ha : IntsAt m a l) (hl : l.length < 4611686018427387904) (hk : callable Tryd.prog g = true)
    (hp : ∀ x, x ∈ l → ACalls Tryd.prog g (#[.int .i64 x] ++ cp) m (.bool (p x)) m) : ∃ i : Int, ACalls Tryd.prog 138 #[a, .func (.func g) #[] cp] m (.int .i64 i) m ∧ (0 ≤ i ↔ l.any p = true) := by
  suffices h : ∃ v m', ACalls Tryd.prog 138 #[a, .func (.func g) #[] cp] m v m' ∧ (∃ i : Int, v = .int .i64 i ∧ m' = m ∧ (0 ≤ i ↔ l.any p = true)) by
    obtain ⟨v, m', h, i, rfl, rfl, h2⟩ := h; exact ⟨i, h, h2⟩
  obtain ⟨q, cap, rfl⟩ := ha.len
  refine wpF (args := [_, _]) mixed okf138 (fn := Tryd.f138) rfl rfl rfl (by simp) ?_
  refine cSeq ?_
  refine cRegion ?_
  refine sAs (v := nv _) rfl ?_
  refine sNil (kSeqN ?_)
  refine cSeq ?_
  refine cSeq ?_
  refine cRegion ?_
  refine sMv (v := .slice _ _ _) rfl ?_
  refine sLen T22 rfl ?_
  refine sMv (v := nv _) rfl ?_
  refine sNil (kSeqN ?_)
  refine cBlock ?_   -- 0
  refine wpC_loop (fun k ρ m' => ∃ i, k = l.length - i ∧ i ≤ l.length ∧ (∀ j x, j < i → l[j]? = some x → p x = false) ∧ m' = m ∧ Has ρ [(0, .slice q l.length cap), (1, .func (.func g) #[] cp), (7, nv l.length), (8, nv i)]) ⟨0, rfl, by omega, by omega, rfl, rfl, rfl, rfl, rfl, trivial⟩ ?_
  rintro k ρ _ ⟨i, rfl, hi, hj, rfl, hh⟩
  rw [hh.env]; clear hh
  refine cSeq ?_
  refine cRegion ?_
  refine sBin rfl rfl (aInt_lss) ?_
  refine sNil (kSeqN ?_)
  refine cSeq ?_
  refine cCond rfl (fun hc => ?_) (fun hc => ?_)
  · refine cSkip (kSeqN ?_)
    obtain ⟨b1, o1, p1, r1, c1, e1, g1, x1⟩ := ha.at (by omega)
    cases e1
    refine cSeq ?_
    refine cBlock ?_   -- 1
    refine cSeq ?_
    refine cRegion ?_
    refine sMv (v := nv _) rfl ?_
    refine sAs (v := nv _) rfl ?_
    refine sNil (kSeqN ?_)
    refine cSeq ?_
    refine cRegion ?_
    refine sMv (v := .func _ _ _) rfl ?_
    refine sMv (v := .slice _ _ _) rfl ?_
    refine sMv (v := nv _) rfl ?_
    refine sIx T22 S3 rfl rfl (by omega) ?_
    refine sLd A3 rfl g1 (x1 i l[i] (by simp)) ?_
    refine sCall rfl hk (by simpa [evR, updO] using hp l[i] (by simp)) ?_
    refine sNil (kSeqN ?_)
    refine cCond (p := p l[i] = true) (by simp [evR, updO]) (fun hd => ?_) (fun hd => ?_)
    · refine cSeq ?_
      refine cRegion ?_
      refine sMv (v := nv _) rfl ?_
      refine sAs (v := nv _) rfl ?_
      refine sNil (kSeqN ?_)
      refine cRet (kBlkR (kSeqR (kSeqR (kBlkR (kSeqR ?_)))))
      refine ⟨.inr rfl, _, rfl, Int.ofNat i, by simp [oneOf, updO], rfl, ?_⟩
      have : l.any p = true := List.any_eq_true.2 ⟨l[i], by simp, hd⟩
      simp [this]
    · refine cSkip (kBlkN (kSeqN ?_))
      refine cRegion ?_
      refine sBin rfl rfl (aInt_add (b := 1) (by omega)) ?_
      refine sMv (v := nv _) rfl ?_
      refine sNil (kSeqN ?_)   -- END
      refine ⟨_, ?_, i + 1, rfl, by omega, ?_, rfl, rfl, rfl, rfl, rfl, trivial⟩
      · omega
      · intro j x hji hx
        by_cases h : j < i
        · exact hj j x h hx
        · obtain rfl : j = i := by omega
          rw [List.getElem?_eq_getElem (by omega)] at hx
          cases hx
          simpa using hd
  · refine cExit (kSeqE (kSeqE (kBlkS (kSeqN ?_))))
    refine cSeq ?_
    refine cRegion ?_
    refine sAs (v := .int _ _) rfl ?_
    refine sNil (kSeqN ?_)
    refine cRet ?_   -- END
    refine ⟨.inr rfl, _, rfl, Int.negSucc 0, rfl, rfl, ?_⟩
    have : l.any p = false := by
      rw [Bool.eq_false_iff]
      intro h
      obtain ⟨x, hx, hpx⟩ := List.any_eq_true.1 h
      obtain ⟨j, hjl, rfl⟩ := List.getElem_of_mem hx
      have := hj j l[j] (by omega) (by simp)
      rw [this] at hpx; cases hpx
    simp [this]
theorem okf107 : okF Tryd.prog H0 107 9 = true := by kernel_rfl
theorem spec_ContainsFunc {m : Mem} {a : Value} {l : List Int} {g : FuncId} {cp : Array Value} {p : Int → Bool} (ha : IntsAt m a l) (hl : l.length < 4611686018427387904) (hk : callable Tryd.prog g = true)
    (hp : ∀ x, x ∈ l → ACalls Tryd.prog g (#[.int .i64 x] ++ cp) m (.bool (p x)) m) : ACalls Tryd.prog 107 #[a, .func (.func g) #[] cp] m (.bool (l.any p)) m := by
  suffices h : ∃ v m', ACalls Tryd.prog 107 #[a, .func (.func g) #[] cp] m v m' ∧ (v = .bool (l.any p) ∧ m' = m) by
    obtain ⟨v, m', h, rfl, rfl⟩ := h; exact h
  obtain ⟨i, hi, hi2⟩ := spec_IndexFunc ha hl hk hp
  obtain ⟨q, cap, rfl⟩ := ha.len
  refine wpF (args := [_, _]) mixed okf107 (fn := Tryd.f107) rfl rfl rfl (by simp) ?_
  refine cSeq ?_
  refine cRegion ?_
  refine sAs (v := .bool _) rfl ?_
  refine sNil (kSeqN ?_)
  refine cSeq ?_
  refine cRegion ?_
  refine sMv (v := .slice _ _ _) rfl ?_
  refine sMv (v := .func _ _ _) rfl ?_
  refine sCall rfl call138 (by simpa [evR, updO] using hi) ?_
  refine sP (v := .bool (l.any p)) ?_ ?_
  · have : (decide (i ≥ 0)) = l.any p := by rw [Bool.eq_iff_iff, ← hi2]; simp
    simp [aPure, evR, updO, aBin, aInt]
    simpa using this
  refine sAs (v := .bool _) rfl ?_
  refine sNil (kSeqN ?_)
  refine cRet ?_   -- END
  exact ⟨.inr rfl, _, rfl, rfl, rfl⟩
end Go.AM

/-! ### P2 -/
namespace Go.AM
open Go.Proofs
set_option maxRecDepth 100000
set_option linter.unusedVariables false
set_option linter.unusedSimpArgs false
theorem eq22 {q : Option Addr} {n c : Nat} : aBin Tryd.prog .eql 22 (.slice q n c) (.slice none 0 0) = some (.bool (decide (q = none))) := by
  cases q <;> kernel_rfl
theorem okf15 : okF Tryd.prog H0 15 8 = true := by kernel_rfl
theorem spec_Clone {m : Mem} {a : Value} {l : List Int} (ha : IntsAt m a l) (hl : l.length ≤ 1000000) : ∃ v m', ACalls Tryd.prog 15 #[a] m v m' ∧ (OwnF m.size m' v l ∧ Ext m m') := by
  obtain ⟨q, cap, rfl⟩ := ha.len
  refine wpF (args := [_]) mixed okf15 (fn := Tryd.f15) rfl rfl rfl (by simp) ?_
  refine cSeq ?_
  refine cRegion ?_
  refine sAs (v := .slice _ _ _) rfl ?_
  refine sNil (kSeqN ?_)
  refine cSeq ?_   -- seq 1
  refine cSeq ?_
  refine cRegion ?_
  refine sMv (v := .slice _ _ _) rfl ?_
  refine sP (v := .bool (decide (q = none))) eq22 ?_
  refine sNil (kSeqN ?_)
  refine cCond rfl (fun c0 => ?_) (fun c0 => ?_)
  ·
    refine cSeq ?_
    refine cRegion ?_
    refine sAs (v := .slice _ _ _) rfl ?_
    refine sNil (kSeqN ?_)
    refine cRet (kSeqR ?_)
    subst c0
    have : l = [] := by
      rcases ha with ⟨h, _⟩ | ⟨b, o, cp, r, c, h, _⟩
      · exact h
      · cases h
    subst this
    exact ⟨.inr rfl, _, rfl, .nil _ _, .refl _⟩
  ·
    refine cSkip (kSeqN ?_)
    refine cSeq ?_
    refine cRegion ?_
    refine sBuildS (c := #[]) T22 S3 Z3 (by decide) (by decide) (by decide) (by kernel_rfl) rfl rfl ?_
    refine sMv (v := .slice _ _ _) rfl ?_
    refine sApp App22 rfl rfl (N := m.size) (p := []) (.inr ⟨m.size, 0, #[], rfl, Nat.le_refl _, gP rfl, by simp, by simp, by simp⟩) (ha.ext (.push _ _)) (by simp) (by simp; omega) fun v3 m3 hO3 hL3 => ?_
    rw [List.nil_append] at hO3
    obtain ⟨q3, cp3, rfl⟩ := hO3.ints.len
    refine sAs (v := .slice _ _ _) rfl ?_
    refine sNil (kSeqN ?_)
    refine cRet ?_
    exact ⟨.inr rfl, _, rfl, hO3, hL3.to_ext (.push _ _) (Nat.le_refl _)⟩
end Go.AM

/-! ### M20 -/
namespace Go.AM
set_option linter.unusedVariables false
set_option linter.unusedSimpArgs false
/-- A right graph in whole numbers that are not below 0. -/
structure Dag (N : List (List Nat)) : Prop where
  one : 1 ≤ N.length
  ten : N.length ≤ 10
  two : ∀ g ∈ N, g.length ≤ 2
  less : ∀ (i : Nat) (g : List Nat), N[i]? = some g → ∀ k ∈ g, k < i
  rise : ∀ g ∈ N, g.Pairwise (· < ·)
/-- Some nodes as a position. -/
def posFrom (x : Nat) (l : List Nat) : Nat := l.foldl (fun x n => x ||| 2 ^ n) x
def posM (l : List Nat) : Nat := posFrom 0 l
theorem posFrom_bit (i : Nat) : ∀ (l : List Nat) (x : Nat), (posFrom x l).testBit i = (x.testBit i || decide (i ∈ l))
  | [], x => by simp [posFrom]
  | n :: l, x => by
    rw [posFrom, List.foldl_cons]
    rw [show l.foldl (fun x n => x ||| 2 ^ n) (x ||| 2 ^ n) = posFrom (x ||| 2 ^ n) l from rfl, posFrom_bit i l, Nat.testBit_or, Nat.testBit_two_pow]
    by_cases h : n = i
    · subst h; simp
    · have h' : ¬ i = n := fun e => h e.symm
      simp [h, h']
theorem posM_bit (i : Nat) (l : List Nat) : (posM l).testBit i = decide (i ∈ l) := by rw [posM, posFrom_bit]; simp
theorem posFrom_lt {n : Nat} : ∀ {l : List Nat} {x : Nat}, x < 2 ^ n → (∀ k ∈ l, k < n) → posFrom x l < 2 ^ n
  | [], x, hx, _ => hx
  | k :: l, x, hx, h => by
    rw [posFrom, List.foldl_cons]
    exact posFrom_lt (Nat.or_lt_two_pow hx (Nat.pow_lt_pow_right (by omega) (h k (by simp)))) fun j hj => h j (by simp [hj])
theorem posM_lt {n : Nat} {l : List Nat} (h : ∀ k ∈ l, k < n) : posM l < 2 ^ n := posFrom_lt (Nat.two_pow_pos n) h
/-- What the nodes need, as positions. -/
def needsM (N : List (List Nat)) : List Nat := N.map posM
@[simp] theorem needsM_length (N : List (List Nat)) : (needsM N).length = N.length := by simp [needsM]
theorem Dag.needs_lt {N : List (List Nat)} (h : Dag N) {i x : Nat} (hi : (needsM N)[i]? = some x) : x < 2 ^ i := by
  simp only [needsM, List.getElem?_map, Option.map_eq_some_iff] at hi
  obtain ⟨g, hg, rfl⟩ := hi
  exact posM_lt (h.less i g hg)
structure Goals (n : Nat) (gs : List Nat) : Prop where
  pos : 0 < gs.length
  lt : ∀ g ∈ gs, g < n
  rise : gs.Pairwise (· < ·)
end Go.AM

/-! ### P3 -/
namespace Go.AM
open Go.Proofs
set_option maxRecDepth 100000
set_option linter.unusedVariables false
set_option linter.unusedSimpArgs false
end Go.AM

/-! ### G3 -/
namespace Go.AM
set_option linter.unusedVariables false
set_option linter.unusedSimpArgs false
theorem resRs_agg2 {P : Program} {ρ : Env} {m : Mem} {a ty b s t : Nat} {r : Bool} {c : Array Value} (ht : isAggT P ty = some true) (hs : szOf P ty = some s) (hx : ρ a = .pointer (some ⟨b, 0, none⟩)) (hb : Mem.get m b = .cells r c) (hc : c.size = s) :
    resRs P ρ m [.cell a ty, .tmp t] = some [.agg c, ρ t] := by
  have : aLoad P m ty (ρ a) = some (.agg c) := by
    simp only [aLoad, hx, hb, ht, hs]
    rw [if_pos (by omega), Nat.zero_add, ← hc, Array.extract_size]
  simp only [resRs, resR, this]
theorem Low.le {N N' : Nat} {m m' : Mem} (h : Low N m m') (hN : N' ≤ N) : Low N' m m' := ⟨h.1, fun b hb => h.2 b (by omega)⟩
section
variable {P : Program} {n : Nat} {ρ : Env} {m m' : Mem} {K : List Ent → Env → Mem → Prop} {ops : Array Oper} {l : List Oper} {log : List Ent}
  {d : Option Nat} {i : Nat} {op : Op} {ty t tz : TypeId} {pos : String} {af : Array Edge} {v : Value} {x y : Operand}
theorem readLdA {m : Mem} {bl s : Nat} {rw_ : Bool} {c : Array Value} (ht : isAggT P t = some true) (hs : szOf P t = some s) (hx : evR ρ x = .pointer (some ⟨bl, 0, none⟩)) (hb : Mem.get m bl = .cells rw_ c) (hc : c.size = s) : aRead P m (evR ρ) (.load t x) = some (.agg c) := by
  simp only [aRead, aLoad, hx, hb, ht, hs]
  rw [if_pos (by omega), Nat.zero_add, ← hc, Array.extract_size]
theorem lStepLdA {bl s : Nat} {rw_ : Bool} {c : Array Value} (ht : isAggT P t = some true) (hs : szOf P t = some s) (hx : evR ρ x = .pointer (some ⟨bl, 0, none⟩)) (hb : Mem.get m bl = .cells rw_ c) (hc : c.size = s)
    (hk : ∀ e : Ent, e.m = m → e.v = .agg c → (∀ M r, Mem.get M bl = .cells r c → aRead P M (evR e.ρ) (.load t x) = some (.agg c)) → wpLog P ops K l (log ++ [e]) (updO ρ d (.agg c)) m) :
    wpLog P ops K (⟨d, .load t x, ty, pos, af, none⟩ :: l) log ρ m := by
  refine ⟨fun hw => ?_, fun hn => absurd trivial hn⟩
  refine wpOp_opF (v := .agg c) (m' := m) (opF_read rfl (readLdA ht hs hx hb hc)) ?_
  exact hk ⟨ρ, m, .agg c⟩ rfl rfl fun M r h1 => readLdA ht hs hx h1 hc
theorem lStepLen {e : TypeId} {q : Option Addr} {len cap : Nat} {tys : TypeId} (ht : undOf P tys = some (.slice e)) (hx : evR ρ x = .slice q len cap)
    (hk : ∀ e : Ent, e.m = m → e.v = nv len → aPure P (evR e.ρ) (.call ⟨.builtin .len, ⟨[x]⟩, ⟨[tys]⟩⟩) = some (nv len) → wpLog P ops K l (log ++ [e]) (updO ρ d (nv len)) m) :
    wpLog P ops K (⟨d, .call ⟨.builtin .len, ⟨[x]⟩, ⟨[tys]⟩⟩, ty, pos, af, none⟩ :: l) log ρ m := by
  have h : aPure P (evR ρ) (.call ⟨.builtin .len, ⟨[x]⟩, ⟨[tys]⟩⟩) = some (nv len) := by
    simp only [aPure, hx, aLen, ht]; rfl
  refine ⟨fun hw => ?_, fun hn => absurd trivial hn⟩
  exact wpOp_opF (v := nv len) (m' := m) (opF_pure h) (hk ⟨ρ, m, nv len⟩ rfl rfl h)
theorem lG {j : Nat} {q : Bool} {dj : Nat} (hd : (ops.toList[j]?).bind (·.dst) = some dj) (hq : ρ dj = .bool q) (h : wpLog P ops K (⟨d, op, ty, pos, af, none⟩ :: l) log ρ m) :
    wpLog P ops K (⟨d, op, ty, pos, af, some (j, q)⟩ :: l) log ρ m :=
  ⟨fun _ => h.1 trivial, fun hn => absurd (by unfold wantR; simp only [hd]; exact hq) hn⟩
theorem lGno {j : Nat} {q q' : Bool} {dj : Nat} (hd : (ops.toList[j]?).bind (·.dst) = some dj) (hq : ρ dj = .bool q') (hne : q' ≠ q) (h : ∀ e : Ent, e.m = m → e.ρ dj = .bool q' → wpLog P ops K l (log ++ [e]) (updO ρ d Go.undef) m) :
    wpLog P ops K (⟨d, op, ty, pos, af, some (j, q)⟩ :: l) log ρ m :=
  ⟨fun hw => absurd hw (by unfold wantR; simp only [hd]; rw [hq]; simpa using hne), fun _ => h ⟨ρ, m, Go.undef⟩ rfl hq⟩
end
theorem obl_no {P : Program} {l : List Oper} {log : List Ent} {m' : Mem} {i k : Nat} {hs : List (Nat × Nat)} {e : Ent} {o : Oper} {v : Value} {j dj : Nat} {q : Bool} (h1 : log[i]? = some e) (h2 : l[i]? = some o) (hg : o.guard = some (j, q)) (hd : (l[j]?).bind (·.dst) = some dj) (hv : e.ρ dj = v) (hne : v ≠ .bool q)
    (hr : obl P ⟨l⟩ log m' hs) : obl P ⟨l⟩ log m' ((i, k) :: hs) := by
  refine ⟨?_, hr⟩
  have h2' : (Array.mk l).toList[i]? = some o := h2
  rw [h1, h2']
  intro hw
  have hd' : ((Array.mk l).toList[j]?).bind (·.dst) = some dj := hd
  simp only [wantR, hg, hd', hv] at hw
  exact absurd hw hne
/-! ### Maps -/
section
variable {P : Program} {ρ : Env} {m m' : Mem} {K : Env → Mem → Prop} {ops : Array Oper} {l : List Oper}
  {d : Option Nat} {ty t : TypeId} {pos : String} {af : Array Edge} {v : Value} {x y z : Operand}
theorem MapAt.ext {m m' : Mem} {b : Nat} {es : List (Nat × Nat)} (h : MapAt m b es) (he : Ext m m') : MapAt m' b es := by
  unfold MapAt at *
  rw [he.2 b (Mem.lt_of_live (by rw [h]; rfl)), h]
theorem MapAt.lt {m : Mem} {b : Nat} {es : List (Nat × Nat)} (h : MapAt m b es) : b < m.size := Mem.lt_of_live (by rw [h]; rfl)
theorem sMkMap (hk : wpOps P ops K l (updO ρ d (.map (some m.size))) (m.push (.map true []))) : wpOps P ops K (⟨d, .makeMap t none, ty, pos, af, none⟩ :: l) ρ m :=
  sO (opF_eff rfl rfl (by simp only [aEff, aMakeMap, Option.map_none])) hk
structure MapT (P : Program) (t : TypeId) : Prop where
  e : ∃ kt et, undOf P t = some (.map kt et) ∧ undOf P kt = some (.int .i64) ∧ zeroOf P et = some (nv 0)
end
/-! ### Rows whose elements are several cells -/
structure ElemT (P : Program) (t xt : TypeId) (w : Nat) : Prop where
  e : ∃ e ux z k, undOf P t = some (.slice e) ∧ undOf P xt = some ux ∧ isIntT ux = false ∧ szOf P e = some w ∧ zeroOf P e = some z ∧ z.cells.size = w ∧ bytesOf' P e = some k ∧ k ≤ 1000 ∧ 0 < w
/-- A slice of one's own with n elements of w cells. -/
def OwnC (N : Nat) (m : Mem) (v : Value) (w n : Nat) (cs : Array Value) : Prop :=
  (v = .slice none 0 0 ∧ n = 0 ∧ cs = #[]) ∨ ∃ b cap c, v = .slice (some ⟨b, 0, some w⟩) n cap ∧ N ≤ b ∧ Mem.get m b = .cells true c ∧ n ≤ cap ∧ c.size = cap * w ∧ cs.size = n * w ∧ ∀ i, i < n * w → c[i]? = cs[i]?
theorem OwnC.nil (N : Nat) (m : Mem) (w : Nat) : OwnC N m (.slice none 0 0) w 0 #[] := .inl ⟨rfl, rfl, rfl⟩
theorem OwnC.len {N : Nat} {m : Mem} {v : Value} {w n : Nat} {cs : Array Value} (h : OwnC N m v w n cs) : ∃ q cap, v = .slice q n cap := by
  rcases h with ⟨rfl, rfl, _⟩ | ⟨b, cap, c, rfl, _⟩ <;> exact ⟨_, _, rfl⟩
theorem OwnC.size {N : Nat} {m : Mem} {v : Value} {w n : Nat} {cs : Array Value} (h : OwnC N m v w n cs) : cs.size = n * w := by
  rcases h with ⟨rfl, rfl, rfl⟩ | ⟨b, cap, c, rfl, _, _, _, _, h, _⟩
  · simp
  · exact h
theorem OwnC.up {N : Nat} {m m' : Mem} {v : Value} {w n : Nat} {cs : Array Value} (h : OwnC N m v w n cs) (hu : ∀ b, N ≤ b → b < m.size → Mem.get m' b = Mem.get m b) : OwnC N m' v w n cs := by
  rcases h with h | ⟨b, cap, c, h1, h2, h3, h4⟩
  · exact .inl h
  · exact .inr ⟨b, cap, c, h1, h2, by rw [hu b h2 (live h3), h3], h4⟩
theorem OwnC.ext {N : Nat} {m m' : Mem} {v : Value} {w n : Nat} {cs : Array Value} (h : OwnC N m v w n cs) (he : Ext m m') : OwnC N m' v w n cs := h.up fun b _ hb => he.2 b hb
theorem OwnC.mono {N N' : Nat} {m : Mem} {v : Value} {w n : Nat} {cs : Array Value} (h : OwnC N m v w n cs) (hN : N' ≤ N) : OwnC N' m v w n cs := by
  rcases h with h | ⟨b, cap, c, h1, h2, h3⟩
  · exact .inl h
  · exact .inr ⟨b, cap, c, h1, by omega, h3⟩
theorem OwnC.at {N : Nat} {m : Mem} {v : Value} {w n : Nat} {cs : Array Value} (h : OwnC N m v w n cs) (hn : 0 < n) : ∃ b cap c, v = .slice (some ⟨b, 0, some w⟩) n cap ∧ N ≤ b ∧ Mem.get m b = .cells true c ∧ n * w ≤ c.size ∧ ∀ i, i < n * w → c[i]? = cs[i]? := by
  rcases h with ⟨rfl, rfl, _⟩ | ⟨b, cap, c, h1, h2, h3, h4, h5, h6, h7⟩
  · omega
  · exact ⟨b, cap, c, h1, h2, h3, by rw [h5]; exact Nat.mul_le_mul_right w h4, h7⟩
/-- The block of a slice. -/
def blkOf : Value → Option Nat
  | .slice (some q) _ _ => some q.block
  | _ => none
/-- Behind an append: what another block held is as it was; the slice is where it was, or new. -/
def Grew (m : Mem) (v : Value) (m' : Mem) (v' : Value) : Prop := m.size ≤ m'.size ∧ (∀ b, b < m.size → blkOf v ≠ some b → Mem.get m' b = Mem.get m b) ∧ (blkOf v' = blkOf v ∨ ∃ b, blkOf v' = some b ∧ m.size ≤ b)
theorem ownC_append {P : Program} {t xt : TypeId} {N : Nat} {m : Mem} {v : Value} {w n bx k : Nat} {rx : Bool} {cs d : Array Value} (hT : ElemT P t xt w) (h : OwnC N m v w n cs) (hx : Mem.get m bx = .cells rx d) (hd : d.size = w) (h1 : d.all Value.oneCell' = true) (hN : N ≤ m.size) (hn : n ≤ 1000000) :
    ∃ v' m', aAppend P m t xt v (.slice (some ⟨bx, 0, some w⟩) 1 k) = some (v', m') ∧ OwnC N m' v' w (n + 1) (cs ++ d) ∧ Low N m m' ∧ Grew m v m' v' := by
  obtain ⟨e, ux, z, kb, t1, t2, t3, t4, t5, t6, t7, t8, t9⟩ := hT.e
  have hf : aFirst m w 1 (.slice (some ⟨bx, 0, some w⟩) 1 k) = some d := by
    unfold aFirst
    simp only [hx]
    rw [if_neg (by omega), if_pos (by omega)]
    congr 1
    have : 0 + 1 * w = d.size := by omega
    rw [this, Array.extract_size]
  have hl : aLenOf (.slice (some ⟨bx, 0, some w⟩) 1 k) = some 1 := rfl
  unfold aAppend
  simp only [t1, t2, t3, t4, t5, t7, hl, hf]
  rw [if_pos ⟨t9, t6, by omega, h1⟩]
  rcases h with ⟨rfl, rfl, rfl⟩ | ⟨b, cap, c, rfl, g2, g3, g4, g5, g6, g7⟩
  · simp only [if_neg (show ¬ (1 = 0) by decide)]
    rw [if_pos ⟨by omega, by omega⟩]
    exact ⟨_, _, rfl, .inr ⟨m.size, 1, d, rfl, hN, gP rfl, by omega, by omega, by simp; omega, fun i _ => by simp⟩, .push N hN _, by simp, fun b hb _ => gPn hb, .inr ⟨m.size, rfl, Nat.le_refl _⟩⟩
  · have hb := live g3
    simp only [if_true, g3, if_neg (show ¬ (1 = 0) by decide)]
    have e1 : n * w + w = (n + 1) * w := by rw [Nat.add_mul, Nat.one_mul]
    by_cases hc : n + 1 ≤ cap
    · have hcw : (n + 1) * w ≤ cap * w := Nat.mul_le_mul_right w hc
      rw [if_pos hc, if_pos (by omega)]
      refine ⟨_, _, rfl, .inr ⟨b, cap, lay c (0 + n * w) d, rfl, g2, gS rfl hb, hc, by rw [lay_size]; exact g5, by rw [Array.size_append]; omega, fun i hi => ?_⟩, .set g2 _, by simp, fun b' _ hne => gSn (fun e => hne (by rw [← e]; rfl)), .inl rfl⟩
      rw [lay_get', hd]
      by_cases hil : i < n * w
      · rw [if_neg (by omega), g7 i hil, Array.getElem?_append_left (by omega)]
      · rw [if_pos (by omega), Array.getElem?_append_right (by omega)]
        congr 1; omega
    · rw [if_neg hc]
      have hle : n * w ≤ c.size := by rw [g5]; exact Nat.mul_le_mul_right w g4
      have hbb : (n + 1) * kb ≤ 70368744177664 := Nat.le_trans (Nat.mul_le_mul (show n + 1 ≤ 1000001 by omega) t8) (by decide)
      rw [if_pos ⟨trivial, hle, by omega, hbb⟩]
      refine ⟨_, _, rfl, .inr ⟨m.size, n + 1, _, rfl, hN, gP (by simp), Nat.le_refl _, ?_, by rw [Array.size_append]; omega, fun i hi => ?_⟩, .push' (.set g2 _) (by simpa using hN) _, by simp, fun b' hb' hne => by rw [gPn (by simpa using hb'), gSn (fun e => hne (by rw [← e]; rfl))], .inr ⟨m.size, rfl, Nat.le_refl _⟩⟩
      · simp only [Array.size_append, Array.size_extract]; omega
      · by_cases hil : i < n * w
        · rw [Array.getElem?_append_left (by simp; omega), Array.getElem?_append_left (by omega), Array.getElem?_extract, if_pos (by omega)]
          simpa using g7 i hil
        · rw [Array.getElem?_append_right (by simp; omega), Array.getElem?_append_right (by omega)]
          congr 1
          simp; omega
theorem sAppC {P : Program} {ρ : Env} {m : Mem} {K : Env → Mem → Prop} {ops : Array Oper} {l : List Oper} {dd : Option Nat} {ty : TypeId} {pos : String} {af : Array Edge} {x y : Operand} {t xt : TypeId} {N : Nat} {v : Value} {w n bx k : Nat} {rx : Bool} {cs d : Array Value}
    (hT : ElemT P t xt w) (hx : evR ρ x = v) (hy : evR ρ y = .slice (some ⟨bx, 0, some w⟩) 1 k) (h : OwnC N m v w n cs) (hb : Mem.get m bx = .cells rx d) (hd : d.size = w) (h1 : d.all Value.oneCell' = true) (hN : N ≤ m.size) (hn : n ≤ 1000000)
    (hk : ∀ v' m', OwnC N m' v' w (n + 1) (cs ++ d) → Low N m m' → Grew m v m' v' → wpOps P ops K l (updO ρ dd v') m') : wpOps P ops K (⟨dd, .call ⟨.builtin .append, ⟨[x, y]⟩, ⟨[t, xt]⟩⟩, ty, pos, af, none⟩ :: l) ρ m := by
  obtain ⟨v', m', e1, h2, h3, h4⟩ := ownC_append (k := k) hT h hb hd h1 hN hn
  refine sO (opF_eff rfl rfl ?_) (hk v' m' h2 h3 h4)
  simp only [aEff, hx, hy, e1]
/-- Rows of one's own: each row in a place of its own. -/
def OwnR (N : Nat) (m : Mem) (v : Value) (cs : Array Value) (G : List (List Int)) : Prop :=
  OwnC N m v 1 G.length cs ∧ ∀ (i : Nat) (g : List Int), G[i]? = some g → ∃ s, cs[i]? = some s ∧ OwnF N m s g ∧ ∀ b, blkOf s = some b → blkOf v ≠ some b
theorem OwnC.lt {N : Nat} {m : Mem} {v : Value} {w n b : Nat} {cs : Array Value} (h : OwnC N m v w n cs) (hb : blkOf v = some b) : N ≤ b ∧ b < m.size := by
  rcases h with ⟨rfl, _⟩ | ⟨b', cap, c, rfl, h2, h3, _⟩
  · cases hb
  · obtain rfl : b' = b := Option.some.inj hb
    exact ⟨h2, live h3⟩
theorem OwnF.lt {N : Nat} {m : Mem} {v : Value} {l : List Int} {b : Nat} (h : OwnF N m v l) (hb : blkOf v = some b) : N ≤ b ∧ b < m.size := by
  rcases h with ⟨rfl, rfl⟩ | ⟨b', cap, c, rfl, h2, h3, _⟩
  · cases hb
  · obtain rfl : b' = b := Option.some.inj hb
    exact ⟨h2, live h3⟩
theorem OwnF.keep {N : Nat} {m m' : Mem} {v : Value} {l : List Int} (h : OwnF N m v l) (hu : ∀ b, blkOf v = some b → Mem.get m' b = Mem.get m b) : OwnF N m' v l := by
  rcases h with h | ⟨b, cap, c, rfl, h2, h3, h4⟩
  · exact .inl h
  · exact .inr ⟨b, cap, c, rfl, h2, by rw [hu b rfl, h3], h4⟩
theorem OwnR.rows {N : Nat} {m : Mem} {v : Value} {cs : Array Value} {G : List (List Int)} (h : OwnR N m v cs G) : RowsAt m v G := by
  rcases h with ⟨⟨rfl, h1, _⟩ | ⟨b, cap, c, rfl, h2, h3, h4, h5, h6, h7⟩, hr⟩
  · exact .inl ⟨List.length_eq_zero_iff.1 h1, .inl rfl⟩
  · refine .inr ⟨b, 0, cap, true, c, rfl, h3, fun i g hi => ?_⟩
    obtain ⟨s, hs, ho, _⟩ := hr i g hi
    have hl := (List.getElem?_eq_some_iff.1 hi).1
    refine ⟨s, ?_, ho.ints⟩
    rw [Nat.zero_add, Nat.mul_one, h7 i (by omega), hs]
theorem OwnR.up {N : Nat} {m m' : Mem} {v : Value} {cs : Array Value} {G : List (List Int)} (h : OwnR N m v cs G) (hu : ∀ b, N ≤ b → b < m.size → Mem.get m' b = Mem.get m b) : OwnR N m' v cs G :=
  ⟨h.1.up hu, fun i g hi => by
    obtain ⟨s, hs, ho, hb⟩ := h.2 i g hi
    exact ⟨s, hs, ho.up hu, hb⟩⟩
theorem OwnR.ext {N : Nat} {m m' : Mem} {v : Value} {cs : Array Value} {G : List (List Int)} (h : OwnR N m v cs G) (he : Ext m m') : OwnR N m' v cs G := h.up fun b _ hb => he.2 b hb
theorem OwnR.only {N b : Nat} {m m' : Mem} {v : Value} {cs : Array Value} {G : List (List Int)} (h : OwnR N m v cs G) (ho : Only b m m') (hb : b < N) : OwnR N m' v cs G := h.up fun c hc _ => ho.2 c (by omega)
theorem OwnR.mono {N N' : Nat} {m : Mem} {v : Value} {cs : Array Value} {G : List (List Int)} (h : OwnR N m v cs G) (hN : N' ≤ N) : OwnR N' m v cs G :=
  ⟨h.1.mono hN, fun i g hi => by
    obtain ⟨s, hs, ho, hb⟩ := h.2 i g hi
    exact ⟨s, hs, ho.mono hN, hb⟩⟩
theorem OwnR.nil (N : Nat) (m : Mem) : OwnR N m (.slice none 0 0) #[] [] := ⟨.nil _ _ _, fun i g h => by cases i <;> cases h⟩
/-- One row more. -/
theorem OwnR.grew {N : Nat} {m m' : Mem} {v v' s : Value} {cs : Array Value} {G : List (List Int)} {g : List Int} (h : OwnR N m v cs G) (hs : OwnF N m s g) (hap : ∀ b, blkOf s = some b → blkOf v ≠ some b) (hg : Grew m v m' v') (hc : OwnC N m' v' 1 (G.length + 1) (cs ++ #[s])) : OwnR N m' v' (cs ++ #[s]) (G ++ [g]) := by
  have hsz := h.1.size
  have hkeep : ∀ {u : Value} {l : List Int}, OwnF N m u l → (∀ b, blkOf u = some b → blkOf v ≠ some b) → OwnF N m' u l ∧ ∀ b, blkOf u = some b → blkOf v' ≠ some b := fun ho ha =>
    ⟨ho.keep fun b hb => hg.2.1 b (ho.lt hb).2 (ha b hb), fun b hb e => by
      rcases hg.2.2 with h1 | ⟨b', h1, h2⟩
      · exact ha b hb (by rw [← h1, e])
      · rw [h1] at e
        obtain rfl := Option.some.inj e
        have := (ho.lt hb).2; omega⟩
  refine ⟨by rw [List.length_append]; exact hc, fun i x hi => ?_⟩
  by_cases hil : i < G.length
  · rw [List.getElem?_append_left hil] at hi
    obtain ⟨u, hu, ho, hb⟩ := h.2 i x hi
    obtain ⟨k1, k2⟩ := hkeep ho hb
    exact ⟨u, by rw [Array.getElem?_append_left (by omega), hu], k1, k2⟩
  · rw [List.getElem?_append_right (by omega)] at hi
    have h1 := (List.getElem?_eq_some_iff.1 hi).1
    have h0 : i - G.length = 0 := by simp at h1; omega
    rw [h0] at hi
    obtain rfl : g = x := by simpa using hi
    obtain ⟨k1, k2⟩ := hkeep hs hap
    refine ⟨s, ?_, k1, k2⟩
    rw [Array.getElem?_append_right (by omega)]
    have : i - cs.size = 0 := by omega
    rw [this]; rfl
end Go.AM

/-! ### P4 -/
namespace Go.AM
open Go.Proofs
set_option maxRecDepth 100000
set_option linter.unusedVariables false
set_option linter.unusedSimpArgs false
def BoardAt (m : Mem) (v : Value) (N : List (List Nat)) : Prop := ∃ q n c q2 n2 c2, v = .agg #[.slice q n c, .slice q2 n2 c2, nv (2 ^ N.length - 1)] ∧ RowsAt m (.slice q n c) (ofs2 N) ∧ IntsAt m (.slice q2 n2 c2) (ofs (needsM N))
theorem BoardAt.ext {m m' : Mem} {v : Value} {N : List (List Nat)} (h : BoardAt m v N) (he : Ext m m') : BoardAt m' v N := by
  obtain ⟨q, n, c, q2, n2, c2, h1, h2, h3⟩ := h
  exact ⟨q, n, c, q2, n2, c2, h1, h2.ext he, h3.ext he⟩
def BoardOwn (M : Nat) (m : Mem) (s : Value) (vs : Array Value) (N : List (List Nat)) : Prop := ∃ q2 n2 c2, vs = #[s, .slice q2 n2 c2, nv (2 ^ N.length - 1)] ∧ OwnF M m (.slice q2 n2 c2) (ofs (needsM N))
theorem BoardOwn.at {M : Nat} {m : Mem} {s : Value} {vs : Array Value} {N : List (List Nat)} (h : BoardOwn M m s vs N) (hr : RowsAt m s (ofs2 N)) : BoardAt m (.agg vs) N := by
  obtain ⟨q2, n2, c2, rfl, hO⟩ := h
  obtain ⟨q, cap, rfl⟩ := hr.len
  exact ⟨_, _, _, _, _, _, rfl, hr, hO.ints⟩
theorem BoardOwn.up {M : Nat} {m m' : Mem} {s : Value} {vs : Array Value} {N : List (List Nat)} (h : BoardOwn M m s vs N) (hu : ∀ b, M ≤ b → b < m.size → Mem.get m' b = Mem.get m b) : BoardOwn M m' s vs N := by
  obtain ⟨q2, n2, c2, rfl, hO⟩ := h
  exact ⟨q2, n2, c2, rfl, hO.up hu⟩
end Go.AM

/-! ### P5 -/
namespace Go.AM
open Go.Proofs
set_option maxRecDepth 100000
set_option linter.unusedVariables false
set_option linter.unusedSimpArgs false
end Go.AM

/-! ### M21 -/
namespace Go.AM
set_option linter.unusedVariables false
set_option linter.unusedSimpArgs false
def nodesUp (x n : Nat) : List Nat := (List.range n).filter fun i => x.testBit i
theorem nodesUp_succ (x n : Nat) : nodesUp x (n + 1) = nodesUp x n ++ (if x.testBit n then [n] else []) := by
  rw [nodesUp, List.range_succ, List.filter_append, nodesUp]
  congr 1
  by_cases h : x.testBit n = true
  · simp [h]
  · simp [h]
theorem nodesUp_len (x n : Nat) : (nodesUp x n).length ≤ n := by
  have := List.length_filter_le (fun i => x.testBit i) (List.range n)
  rwa [List.length_range] at this
def mayM (P : List Nat) (x n : Nat) : Bool := decide (x &&& P.getD n 0 = P.getD n 0)
def natsG (G : List (List Int)) : List (List Nat) := G.map nats
@[simp] theorem natsG_ofs2 (N : List (List Nat)) : natsG (ofs2 N) = N := by
  simp only [natsG, ofs2, List.map_map]
  conv => rhs; rw [← List.map_id N]
  exact List.map_congr_left fun x _ => nats_ofs x
end Go.AM

/-! ### P6 -/
namespace Go.AM
open Go.Proofs
set_option maxRecDepth 100000
set_option linter.unusedVariables false
set_option linter.unusedSimpArgs false
end Go.AM

/-! ### M22 -/
namespace Go.AM
set_option linter.unusedVariables false
set_option linter.unusedSimpArgs false
/-- The nodes of one position that are not in another one. -/
def offM (x y : Nat) : Nat := x &&& (x ^^^ y)
end Go.AM

/-! ### P7 -/
namespace Go.AM
open Go.Proofs
set_option maxRecDepth 100000
set_option linter.unusedVariables false
set_option linter.unusedSimpArgs false
theorem aInt_andNot {a b : Nat} (h : a < 9223372036854775808 ∧ b < 9223372036854775808) : aInt .andNot .i64 (Int.ofNat a) (Int.ofNat b) = some (nv (offM a b)) := by
  have e : (BitVec.ofInt 64 (Int.ofNat a) &&& ~~~ BitVec.ofInt 64 (Int.ofNat b)).toNat = offM a b := by
    apply Nat.eq_of_testBit_eq
    intro i
    rw [BitVec.testBit_toNat, BitVec.getLsbD_and, BitVec.getLsbD_not, ← BitVec.testBit_toNat, ← BitVec.testBit_toNat, bvN h.1, bvN h.2, offM, Nat.testBit_and, Nat.testBit_xor]
    by_cases hi : i < 64
    · rw [decide_eq_true hi]; cases a.testBit i <;> cases b.testBit i <;> rfl
    · rw [Nat.testBit_lt_two_pow (Nat.lt_of_lt_of_le h.1 (Nat.pow_le_pow_right (n := 2) (by decide) (show 63 ≤ i by omega)))]; rfl
  have hl : offM a b < 9223372036854775808 := Nat.lt_of_le_of_lt Nat.and_le_left h.1
  show some (Value.int .i64 (IntKind.i64.wrap (BitVec.ofInt 64 (Int.ofNat a) &&& ~~~ BitVec.ofInt 64 (Int.ofNat b)).toNat)) = _
  rw [e]
  exact congrArg (fun z => some (Value.int .i64 z)) (wrapN hl)
section
variable {P : Program} {n : Nat} {ρ : Env} {m m' : Mem} {K : Env → Mem → Prop} {ops : Array Oper} {l : List Oper}
  {d : Option Nat} {i : Nat} {op : Op} {ty t xt e : TypeId} {pos : String} {af : Array Edge} {v : Value} {x y : Operand}
end
end Go.AM

/-! ### M23 -/
namespace Go.AM
set_option linter.unusedVariables false
set_option linter.unusedSimpArgs false
theorem offM_le (x y : Nat) : offM x y ≤ x := Nat.and_le_left
def lineAt (n i : Nat) : List (List Nat) := (List.range n).map fun j => if 1 ≤ j ∧ j < i then [j - 1] else []
def treeAt (n i : Nat) : List (List Nat) := (List.range (2 * n - 1)).map fun j => if n ≤ j ∧ j < n + i then [2 * (j - n), 2 * (j - n) + 1] else []
@[simp] theorem lineAt_length (n i : Nat) : (lineAt n i).length = n := by simp [lineAt]
@[simp] theorem treeAt_length (n i : Nat) : (treeAt n i).length = 2 * n - 1 := by simp [treeAt]
theorem lineAt_set {n i : Nat} (h : i < n) (h1 : 1 ≤ i) : lineAt n (i + 1) = (lineAt n i).set i [i - 1] := by
  refine List.ext_getElem? fun k => ?_
  rw [List.getElem?_set, lineAt_length]
  simp only [lineAt, List.getElem?_map, List.getElem?_range']
  by_cases hk : i = k
  · subst hk
    rw [if_pos rfl, if_pos h, List.getElem?_range h]
    simp only [Option.map_some]
    rw [if_pos ⟨h1, by omega⟩]
  · rw [if_neg hk]
    by_cases hn : k < n
    · rw [List.getElem?_range hn]
      simp only [Option.map_some]
      congr 1
      by_cases hc : 1 ≤ k ∧ k < i
      · rw [if_pos hc, if_pos (by omega)]
      · rw [if_neg hc, if_neg (by omega)]
    · rw [List.getElem?_eq_none (by simp; omega)]; rfl
end Go.AM

/-! ### P8 -/
namespace Go.AM
open Go.Proofs
set_option maxRecDepth 100000
set_option linter.unusedVariables false
set_option linter.unusedSimpArgs false
end Go.AM

/-! ### P9 -/
namespace Go.AM
open Go.Proofs
set_option maxRecDepth 100000
set_option linter.unusedVariables false
set_option linter.unusedSimpArgs false
theorem bytes22 : bytesOf' Tryd.prog 22 = some 24 := by kernel_rfl
end Go.AM

/-! ### M24 -/
namespace Go.AM
set_option linter.unusedVariables false
set_option linter.unusedSimpArgs false
def wayB (P : List Nat) (k x n : Nat) : Bool := mayM P x n && decide (popc (x ^^^ 2 ^ n) ≤ k)
def stepE (d y : Nat) (es : List (Nat × Nat)) : List (Nat × Nat) := if lookE es y = none then es ++ [(y, d)] else es
def roundE (P : List Nat) (k x d : Nat) : Nat → List (Nat × Nat) → List (Nat × Nat)
  | 0, es => es
  | n + 1, es => if wayB P k x n then stepE (d + 1) (x ^^^ 2 ^ n) (roundE P k x d n es) else roundE P k x d n es
def farF (P : List Nat) (k : Nat) : Nat → Nat → List (Nat × Nat) → List (Nat × Nat)
  | 0, _, es => es
  | f + 1, i, es => match es[i]? with
    | none => es
    | some p => farF P k f (i + 1) (roundE P k p.1 p.2 P.length es)
theorem findE_shift (k : Nat) : ∀ (es : List (Nat × Nat)) (i j : Nat), (findE es k i).map (·.2) = (findE es k j).map (·.2)
  | [], _, _ => rfl
  | p :: es, i, j => by
    rw [findE, findE]
    split
    · rfl
    · exact findE_shift k es (i + 1) (j + 1)
theorem lookE_cons (p : Nat × Nat) (es : List (Nat × Nat)) (k : Nat) : lookE (p :: es) k = if k = p.1 then some p.2 else lookE es k := by
  unfold lookE
  rw [findE]
  split
  · rfl
  · exact findE_shift k es 1 0
theorem lookE_nil (k : Nat) : lookE [] k = none := rfl
theorem lookE_append (es fs : List (Nat × Nat)) (k : Nat) : lookE (es ++ fs) k = (lookE es k).or (lookE fs k) := by
  induction es with
  | nil => rfl
  | cons p es ih =>
    rw [List.cons_append, lookE_cons, lookE_cons, ih]
    split <;> rfl
theorem lookE_mem {es : List (Nat × Nat)} {k d : Nat} (h : lookE es k = some d) : (k, d) ∈ es := by
  induction es with
  | nil => cases h
  | cons p es ih =>
    rw [lookE_cons] at h
    split at h
    · rename_i e
      obtain rfl := Option.some.inj h
      rw [e]; simp
    · exact List.mem_cons_of_mem _ (ih h)
theorem lookE_none {es : List (Nat × Nat)} {k : Nat} : lookE es k = none ↔ k ∉ es.map (·.1) := by
  induction es with
  | nil => simp [lookE_nil]
  | cons p es ih =>
    rw [lookE_cons, List.map_cons, List.mem_cons]
    split
    · rename_i e; simp [e]
    · rename_i e; rw [ih]; simp [e]
/-- What holds of entries: keys once, below 2^n; distances below the places. -/
structure GoodE (n : Nat) (es : List (Nat × Nat)) : Prop where
  once : (es.map (·.1)).Nodup
  lt : ∀ p ∈ es, p.1 < 2 ^ n
  low : ∀ (i : Nat) (p : Nat × Nat), es[i]? = some p → p.2 ≤ i
theorem GoodE.length {n : Nat} {es : List (Nat × Nat)} (h : GoodE n es) : es.length ≤ 2 ^ n := by
  have h1 : (es.map (·.1)).length ≤ (List.range (2 ^ n)).length := by
    refine h.once.length_le_of_subset fun x hx => ?_
    obtain ⟨p, hp, rfl⟩ := List.mem_map.1 hx
    exact List.mem_range.2 (h.lt p hp)
  rwa [List.length_map, List.length_range] at h1
theorem GoodE.step {n d y : Nat} {es : List (Nat × Nat)} (h : GoodE n es) (hd : d ≤ es.length) (hy : y < 2 ^ n) : GoodE n (stepE d y es) := by
  unfold stepE
  split
  · rename_i hl
    rw [lookE_none] at hl
    refine ⟨?_, fun p hp => ?_, fun i p hi => ?_⟩
    · rw [List.map_append, List.nodup_append]
      refine ⟨h.once, by simp, fun a ha b hb e => ?_⟩
      simp at hb
      subst hb; subst e
      exact hl ha
    · rcases List.mem_append.1 hp with hp | hp
      · exact h.lt p hp
      · rw [List.mem_singleton.1 hp]; exact hy
    · by_cases hil : i < es.length
      · rw [List.getElem?_append_left hil] at hi
        exact h.low i p hi
      · rw [List.getElem?_append_right (by omega)] at hi
        have := (List.getElem?_eq_some_iff.1 hi).1
        have h0 : i - es.length = 0 := by simp at this; omega
        rw [h0] at hi
        obtain rfl : (y, d) = p := by simpa using hi
        show d ≤ i
        omega
  · exact h
theorem stepE_len (d y : Nat) (es : List (Nat × Nat)) : es.length ≤ (stepE d y es).length := by
  unfold stepE; split <;> simp
theorem roundE_len (P : List Nat) (k x d : Nat) (es : List (Nat × Nat)) : ∀ n, es.length ≤ (roundE P k x d n es).length
  | 0 => Nat.le_refl _
  | n + 1 => by
    rw [roundE]
    split
    · exact Nat.le_trans (roundE_len P k x d es n) (stepE_len _ _ _)
    · exact roundE_len P k x d es n
theorem stepE_get {d y i : Nat} {es : List (Nat × Nat)} {p : Nat × Nat} (h : es[i]? = some p) : (stepE d y es)[i]? = some p := by
  unfold stepE; split
  · rw [List.getElem?_append_left (List.getElem?_eq_some_iff.1 h).1]; exact h
  · exact h
theorem roundE_get {P : List Nat} {k x d i : Nat} {es : List (Nat × Nat)} {p : Nat × Nat} (h : es[i]? = some p) : ∀ n, (roundE P k x d n es)[i]? = some p
  | 0 => h
  | n + 1 => by
    rw [roundE]
    split
    · exact stepE_get (roundE_get h n)
    · exact roundE_get h n
theorem GoodE.round {N : Nat} {P : List Nat} {k x d : Nat} {es : List (Nat × Nat)} (h : GoodE N es) (hx : x < 2 ^ N) (hd : d < es.length) : ∀ n, n ≤ N → GoodE N (roundE P k x d n es)
  | 0, _ => h
  | n + 1, hn => by
    rw [roundE]
    have ih := GoodE.round (P := P) (k := k) h hx hd n (by omega)
    split
    · have := roundE_len P k x d es n
      exact ih.step (by omega) (Nat.xor_lt_two_pow hx (Nat.pow_lt_pow_right (by omega) (by omega)))
    · exact ih
theorem GoodE.one {n x : Nat} (hx : x < 2 ^ n) : GoodE n [(x, 0)] := by
  refine ⟨by simp, by simpa using hx, fun i p hi => ?_⟩
  cases i with
  | zero => simp at hi; subst hi; exact Nat.le_refl _
  | succ i => simp at hi
theorem GoodE.nil (n : Nat) : GoodE n [] := ⟨by simp, by simp, by simp⟩
end Go.AM

/-! ### P10 -/
namespace Go.AM
open Go.Proofs
set_option maxRecDepth 100000
set_option linter.unusedVariables false
set_option linter.unusedSimpArgs false
/-- What 'ways' is asked about: a graph, a position, how many pebbles. -/
def WaysAt (m : Mem) (p1 p2 p3 : Nat) (N : List (List Nat)) (x k : Nat) : Prop := ∃ r1 r2 r3 vs, Mem.get m p1 = .cells r1 vs ∧ BoardAt m (.agg vs) N ∧ Mem.get m p2 = .cells r2 #[nv x] ∧ Mem.get m p3 = .cells r3 #[nv k]
theorem WaysAt.ext {m m' : Mem} {p1 p2 p3 : Nat} {N : List (List Nat)} {x k : Nat} (h : WaysAt m p1 p2 p3 N x k) (he : Ext m m') : WaysAt m' p1 p2 p3 N x k := by
  obtain ⟨r1, r2, r3, vs, h1, h2, h3, h4⟩ := h
  exact ⟨r1, r2, r3, vs, he.cells h1, h2.ext he, he.cells h3, he.cells h4⟩
end Go.AM

/-! ### P11 -/
namespace Go.AM
open Go.Proofs
set_option maxRecDepth 100000
set_option linter.unusedVariables false
set_option linter.unusedSimpArgs false
abbrev keysE (es : List (Nat × Nat)) : List Nat := es.map (·.1)
/-- Far at work: entries, the list of positions v, how far the list is done. -/
structure FarV (m0 : Mem) (vs : Array Value) (c9 i : Nat) (es : List (Nat × Nat)) (v : Value) (m' : Mem) : Prop where
  low : Low (m0.size + 1) (m0.push (.cells true vs)) m'
  gm : Mem.get m' (m0.size + 2) = .cells true #[.map (some (m0.size + 1))]
  map : MapAt m' (m0.size + 1) es
  g9 : Mem.get m' c9 = .cells true #[nv i]
  gl : Mem.get m' (m0.size + 4) = .cells true #[v]
  own : OwnC (m0.size + 1) m' v 1 es.length (cellsN (keysE es))
  o2 : blkOf v ≠ some (m0.size + 2)
  o4 : blkOf v ≠ some (m0.size + 4)
  o9 : blkOf v ≠ some c9
theorem FarV.ext {m0 : Mem} {vs : Array Value} {c9 i : Nat} {es : List (Nat × Nat)} {v : Value} {m' m'' : Mem} (h : FarV m0 vs c9 i es v m') (he : Ext m' m'') : FarV m0 vs c9 i es v m'' :=
  ⟨h.low.trans_ext he (by have := h.map.lt; omega), he.cells h.gm, h.map.ext he, he.cells h.g9, he.cells h.gl, h.own.ext he, h.o2, h.o4, h.o9⟩
theorem OwnC.keep {N : Nat} {m m' : Mem} {v : Value} {w n : Nat} {cs : Array Value} (h : OwnC N m v w n cs) (hu : ∀ b, blkOf v = some b → Mem.get m' b = Mem.get m b) : OwnC N m' v w n cs := by
  rcases h with h | ⟨b, cap, c, rfl, h2, h3, h4⟩
  · exact .inl h
  · exact .inr ⟨b, cap, c, rfl, h2, by rw [hu b rfl, h3], h4⟩
theorem OwnC.live {N : Nat} {m : Mem} {v : Value} {w n b : Nat} {cs : Array Value} (h : OwnC N m v w n cs) (hb : blkOf v = some b) : ∃ c, Mem.get m b = .cells true c := by
  rcases h with ⟨rfl, _⟩ | ⟨b', cap, c, rfl, h2, h3, h4⟩
  · cases hb
  · obtain rfl : b' = b := Option.some.inj hb
    exact ⟨c, h3⟩
structure FarJ (m0 : Mem) (vs : Array Value) (c9 i p1 lp x k : Nat) (X : ALoop) (es : List (Nat × Nat)) (v : Value) (m' : Mem) : Prop where
  far : FarV m0 vs c9 i es v m'
  w1 : Mem.get m' p1 = .cells true vs
  w2 : Mem.get m' (p1 + 1) = .cells true #[nv x]
  w3 : Mem.get m' (p1 + 2) = .cells true #[nv k]
  lp : Mem.get m' lp = .loop X
  q1 : blkOf v ≠ some p1
  q2 : blkOf v ≠ some (p1 + 1)
  q3 : blkOf v ≠ some (p1 + 2)
theorem FarJ.ext {m0 : Mem} {vs : Array Value} {c9 i p1 lp x k : Nat} {X : ALoop} {es : List (Nat × Nat)} {v : Value} {m' m'' : Mem} (h : FarJ m0 vs c9 i p1 lp x k X es v m') (he : Ext m' m'') : FarJ m0 vs c9 i p1 lp x k X es v m'' :=
  ⟨h.far.ext he, he.cells h.w1, he.cells h.w2, he.cells h.w3, by rw [he.2 lp (Mem.lt_of_live (by rw [h.lp]; rfl)), h.lp], h.q1, h.q2, h.q3⟩
theorem cellsN_snoc (es : List (Nat × Nat)) (y d : Nat) : cellsN (keysE (es ++ [(y, d)])) = cellsN (keysE es) ++ #[nv y] := by
  simp [cellsN, keysE]
theorem Grew.off {m m' : Mem} {v v' : Value} {b : Nat} (h : Grew m v m' v') (hv : blkOf v ≠ some b) (hb : b < m.size) : blkOf v' ≠ some b := by
  rcases h.2.2 with e | ⟨c, e, hc⟩
  · rw [e]; exact hv
  · rw [e]; intro e2; have := Option.some.inj e2; omega
/-- One entry more: it is set in the map, appended to the list, and the list is put back. -/
theorem FarJ.add {m0 : Mem} {vs : Array Value} {c9 i p1 lp x k y d : Nat} {X : ALoop} {es : List (Nat × Nat)} {v v' : Value} {M M4 : Mem} (h : FarJ m0 vs c9 i p1 lp x k X es v M) (h9 : m0.size + 5 ≤ c9) (hp : c9 < p1) (hlp : p1 + 2 < lp)
    (hO : OwnC (m0.size + 1) M4 v' 1 (es.length + 1) (cellsN (keysE es) ++ #[nv y])) (hL : Low (m0.size + 1) ((M.setIfInBounds (m0.size + 1) (.map true ((es ++ [(y, d)]).map fun p => (nv p.1, nv p.2)))).push (.cells true #[nv y])) M4)
    (hG : Grew ((M.setIfInBounds (m0.size + 1) (.map true ((es ++ [(y, d)]).map fun p => (nv p.1, nv p.2)))).push (.cells true #[nv y])) v M4 v') :
    FarJ m0 vs c9 i p1 lp x k X (es ++ [(y, d)]) v' (M4.setIfInBounds (m0.size + 4) (.cells true #[v'])) ∧ ∀ c, c < M.size → c ≠ m0.size + 1 → c ≠ m0.size + 4 → blkOf v ≠ some c → Mem.get (M4.setIfInBounds (m0.size + 4) (.cells true #[v'])) c = Mem.get M c := by
  have hlm : lp < M.size := Mem.lt_of_live (by rw [h.lp]; rfl)
  have hvl : blkOf v ≠ some lp := fun e => by
    obtain ⟨c, hc⟩ := h.far.own.live e
    have := h.lp; rw [hc] at this; cases this
  have hvm : blkOf v ≠ some (m0.size + 1) := fun e => by
    obtain ⟨c, hc⟩ := h.far.own.live e
    have := h.far.map; unfold MapAt at this; rw [hc] at this; cases this
  have hM4 : ∀ c, c < M.size → c ≠ m0.size + 1 → blkOf v ≠ some c → Mem.get M4 c = Mem.get M c := fun c hc h1 hv => by
    rw [hG.2.1 c (by simp; omega) hv, gPn (by simpa using hc), gSn (fun e => h1 e.symm)]
  have hM : ∀ c, c < M.size → c ≠ m0.size + 1 → c ≠ m0.size + 4 → blkOf v ≠ some c → Mem.get (M4.setIfInBounds (m0.size + 4) (.cells true #[v'])) c = Mem.get M c := fun c hc h1 h2 hv => by
    rw [gSn (fun e => h2 e.symm), hM4 c hc h1 hv]
  have hsz : M.size + 1 ≤ M4.size := by have := hG.1; simpa using this
  have hoff : ∀ {b : Nat}, b < M.size → blkOf v ≠ some b → blkOf v' ≠ some b := fun hb hv => hG.off hv (by simp; omega)
  refine ⟨⟨⟨?_, ?_, ?_, ?_, ?_, ?_, hoff (by omega) h.far.o2, hoff (by omega) h.far.o4, hoff (by omega) h.far.o9⟩, ?_, ?_, ?_, ?_, hoff (by omega) h.q1, hoff (by omega) h.q2, hoff (by omega) h.q3⟩, hM⟩
  · exact ((h.far.low.trans (.set (Nat.le_refl _) _)).trans (.push _ (by simp; omega) _)).trans (hL.trans (.set (by omega) _))
  · rw [hM _ (by omega) (by omega) (by omega) h.far.o2]; exact h.far.gm
  · unfold MapAt
    rw [gSn (by omega), hG.2.1 _ (by simp; omega) hvm, gPn (by simp; omega), gS rfl (by omega)]
  · rw [hM _ (by omega) (by omega) (by omega) h.far.o9]; exact h.far.g9
  · exact gS rfl (by omega)
  · rw [List.length_append, cellsN_snoc]
    refine hO.keep fun b hb => gSn fun e => ?_
    subst e
    exact hoff (by omega) h.far.o4 hb
  · rw [hM _ (by omega) (by omega) (by omega) h.q1]; exact h.w1
  · rw [hM _ (by omega) (by omega) (by omega) h.q2]; exact h.w2
  · rw [hM _ (by omega) (by omega) (by omega) h.q3]; exact h.w3
  · rw [hM _ (by omega) (by omega) (by omega) hvl]; exact h.lp
end Go.AM

/-! ### M25 -/
namespace Go.AM
set_option linter.unusedVariables false
set_option linter.unusedSimpArgs false
structure Bfs (P : List Nat) (k g : Nat) (es : List (Nat × Nat)) : Prop where
  good : GoodE P.length es
  zero : ∀ p ∈ es, p.2 = 0 → p.1 = g
  root : (g, 0) ∈ es
  par : ∀ p ∈ es, 0 < p.2 → ∃ n x, n < P.length ∧ (x, p.2 - 1) ∈ es ∧ p.1 = x ^^^ 2 ^ n ∧ wayB P k x n = true
  pop : ∀ p ∈ es, popc p.1 ≤ k
theorem Bfs.step {P : List Nat} {k g x d n : Nat} {es : List (Nat × Nat)} (h : Bfs P k g es) (hx : (x, d) ∈ es) (hn : n < P.length) (hw : wayB P k x n = true) (hd : d ≤ es.length) (hd' : d + 1 ≤ es.length) : Bfs P k g (stepE (d + 1) (x ^^^ 2 ^ n) es) := by
  have hg := h.good.step (d := d + 1) hd' (y := x ^^^ 2 ^ n) (Nat.xor_lt_two_pow (h.good.lt _ hx) (Nat.pow_lt_pow_right (by omega) hn))
  have hpo : popc (x ^^^ 2 ^ n) ≤ k := by
    unfold wayB at hw
    rw [Bool.and_eq_true] at hw
    exact of_decide_eq_true hw.2
  unfold stepE at *
  split
  · rename_i hl
    rw [if_pos hl] at hg
    refine ⟨hg, ?_, List.mem_append_left _ h.root, ?_, ?_⟩
    · intro p hp h0
      rcases List.mem_append.1 hp with hp | hp
      · exact h.zero p hp h0
      · rw [List.mem_singleton.1 hp] at h0; cases h0
    · intro p hp h0
      rcases List.mem_append.1 hp with hp | hp
      · obtain ⟨n', x', a1, a2, a3⟩ := h.par p hp h0
        exact ⟨n', x', a1, List.mem_append_left _ a2, a3⟩
      · rw [List.mem_singleton.1 hp]
        exact ⟨n, x, hn, List.mem_append_left _ hx, rfl, hw⟩
    · intro p hp
      rcases List.mem_append.1 hp with hp | hp
      · exact h.pop p hp
      · rw [List.mem_singleton.1 hp]; exact hpo
  · exact h
theorem stepE_mem {d y : Nat} {es : List (Nat × Nat)} {p : Nat × Nat} (h : p ∈ es) : p ∈ stepE d y es := by
  unfold stepE; split
  · exact List.mem_append_left _ h
  · exact h
theorem roundE_mem {P : List Nat} {k x d : Nat} {es : List (Nat × Nat)} {p : Nat × Nat} (h : p ∈ es) : ∀ n, p ∈ roundE P k x d n es
  | 0 => h
  | n + 1 => by
    rw [roundE]; split
    · exact stepE_mem (roundE_mem h n)
    · exact roundE_mem h n
theorem Bfs.round {P : List Nat} {k g x d : Nat} {es : List (Nat × Nat)} (h : Bfs P k g es) (hx : (x, d) ∈ es) (hd : d < es.length) : ∀ n, n ≤ P.length → Bfs P k g (roundE P k x d n es)
  | 0, _ => h
  | n + 1, hn => by
    rw [roundE]
    have ih := Bfs.round h hx hd n (by omega)
    split
    · rename_i hw
      have := roundE_len P k x d es n
      exact ih.step (roundE_mem hx n) (by omega) hw (by omega) (by omega)
    · exact ih
theorem Bfs.far {P : List Nat} {k g : Nat} : ∀ (f i : Nat) {es : List (Nat × Nat)}, Bfs P k g es → Bfs P k g (farF P k f i es)
  | 0, _, _, h => h
  | f + 1, i, es, h => by
    rw [farF]
    split
    · exact h
    · rename_i p hp
      have h1 := h.good.low i p hp
      have h2 := (List.getElem?_eq_some_iff.1 hp).1
      exact Bfs.far f (i + 1) (h.round (x := p.1) (d := p.2) (List.mem_of_getElem? hp) (by omega) _ (Nat.le_refl _))
end Go.AM

/-! ### P12 -/
namespace Go.AM
open Go.Proofs
set_option maxRecDepth 100000
set_option linter.unusedVariables false
set_option linter.unusedSimpArgs false
/-- The shortest game at work: its moves L in the list v, where it is (a, y). -/
structure ShV (M : Mem) (c13 : Nat) (a : Int) (y mb : Nat) (L : List Nat) (v : Value) (m' : Mem) : Prop where
  low : Low M.size M m'
  g9 : Mem.get m' M.size = .cells true #[.map (some mb)]
  gl : Mem.get m' (M.size + 1) = .cells true #[v]
  gw : Mem.get m' c13 = .cells true #[.int .i64 a, nv y]
  own : OwnC M.size m' v 1 L.length (cellsN L)
  o0 : blkOf v ≠ some M.size
  o1 : blkOf v ≠ some (M.size + 1)
  o3 : blkOf v ≠ some c13
theorem ShV.ext {M : Mem} {c13 : Nat} {a : Int} {y mb : Nat} {L : List Nat} {v : Value} {m' m'' : Mem} (h : ShV M c13 a y mb L v m') (he : Ext m' m'') : ShV M c13 a y mb L v m'' :=
  ⟨h.low.trans_ext he (by have := live h.g9; omega), he.cells h.g9, he.cells h.gl, he.cells h.gw, h.own.ext he, h.o0, h.o1, h.o3⟩
structure ShJ (M : Mem) (vs : Array Value) (c13 p1 lp k : Nat) (X : ALoop) (a : Int) (y mb : Nat) (L : List Nat) (v : Value) (m' : Mem) : Prop where
  sh : ShV M c13 a y mb L v m'
  w1 : Mem.get m' p1 = .cells true vs
  w2 : Mem.get m' (p1 + 1) = .cells true #[nv y]
  w3 : Mem.get m' (p1 + 2) = .cells true #[nv k]
  lp : Mem.get m' lp = .loop X
theorem ShJ.ext {M : Mem} {vs : Array Value} {c13 p1 lp k : Nat} {X : ALoop} {a : Int} {y mb : Nat} {L : List Nat} {v : Value} {m' m'' : Mem} (h : ShJ M vs c13 p1 lp k X a y mb L v m') (he : Ext m' m'') : ShJ M vs c13 p1 lp k X a y mb L v m'' :=
  ⟨h.sh.ext he, he.cells h.w1, he.cells h.w2, he.cells h.w3, by rw [he.2 lp (Mem.lt_of_live (by rw [h.lp]; rfl)), h.lp]⟩
/-- One move more: it is appended to the list, the list and the place are put back. -/
theorem ShV.hit {M : Mem} {c13 : Nat} {a : Int} {y mb n z : Nat} {L : List Nat} {v v' : Value} {m' M4 : Mem} (h : ShV M c13 a y mb L v m') (h13 : M.size + 2 ≤ c13) (hO : OwnC M.size M4 v' 1 (L.length + 1) (cellsN L ++ #[nv n])) (hL : Low M.size (m'.push (.cells true #[nv n])) M4) (hG : Grew (m'.push (.cells true #[nv n])) v M4 v') :
    ShV M c13 (Int.ofNat n) z mb (L ++ [n]) v' ((M4.setIfInBounds (M.size + 1) (.cells true #[v'])).setIfInBounds c13 (.cells true #[nv n, nv z])) ∧
    ∀ c, c < m'.size → c ≠ M.size + 1 → c ≠ c13 → blkOf v ≠ some c → Mem.get ((M4.setIfInBounds (M.size + 1) (.cells true #[v'])).setIfInBounds c13 (.cells true #[nv n, nv z])) c = Mem.get m' c := by
  have hl0 := live h.g9
  have hl1 := live h.gl
  have hl3 := live h.gw
  have hsz : m'.size + 1 ≤ M4.size := by have := hG.1; simpa using this
  have hM4 : ∀ c, c < m'.size → blkOf v ≠ some c → Mem.get M4 c = Mem.get m' c := fun c hc hv => by
    rw [hG.2.1 c (by simp; omega) hv, gPn hc]
  have hM : ∀ c, c < m'.size → c ≠ M.size + 1 → c ≠ c13 → blkOf v ≠ some c → Mem.get ((M4.setIfInBounds (M.size + 1) (.cells true #[v'])).setIfInBounds c13 (.cells true #[nv n, nv z])) c = Mem.get m' c := fun c hc h1 h2 hv => by
    rw [gSn (fun e => h2 e.symm), gSn (fun e => h1 e.symm), hM4 c hc hv]
  have hoff : ∀ {b : Nat}, b < m'.size → blkOf v ≠ some b → blkOf v' ≠ some b := fun hb hv => hG.off hv (by simp; omega)
  refine ⟨⟨?_, ?_, ?_, ?_, ?_, hoff hl0 h.o0, hoff hl1 h.o1, hoff hl3 h.o3⟩, hM⟩
  · exact (h.low.trans (.push _ (by omega) _)).trans (hL.trans ((Low.set (by omega) _).trans (.set (by omega) _)))
  · rw [hM _ hl0 (by omega) (by omega) h.o0]; exact h.g9
  · rw [gSn (by omega)]; exact gS rfl (by omega)
  · exact gS rfl (by simp; omega)
  · have e : cellsN (L ++ [n]) = cellsN L ++ #[nv n] := by simp [cellsN]
    rw [List.length_append, e]
    refine hO.keep fun b hb => ?_
    rw [gSn (fun e => by subst e; exact hoff hl3 h.o3 hb), gSn (fun e => by subst e; exact hoff hl1 h.o1 hb)]
end Go.AM

/-! ### M26 -/
namespace Go.AM
set_option linter.unusedVariables false
set_option linter.unusedSimpArgs false
def cellsP (r : List (Nat × Nat)) : Array Value := (r.flatMap fun p => [nv p.1, nv p.2]).toArray
theorem flat2_len (r : List (Nat × Nat)) : (r.flatMap fun p => [nv p.1, nv p.2]).length = r.length * 2 := by
  induction r with
  | nil => rfl
  | cons p r ih => rw [List.flatMap_cons, List.length_append, ih]; simp; omega
@[simp] theorem cellsP_size (r : List (Nat × Nat)) : (cellsP r).size = r.length * 2 := by
  rw [cellsP, List.size_toArray]; exact flat2_len r
end Go.AM

/-! ### P13 -/
namespace Go.AM
open Go.Proofs
set_option maxRecDepth 100000
set_option linter.unusedVariables false
set_option linter.unusedSimpArgs false
end Go.AM

/-! ### M27 -/
namespace Go.AM
set_option linter.unusedVariables false
set_option linter.unusedSimpArgs false
def kindM : Nat → Nat
  | 0 => 1
  | 1 => 9
  | _ => 12
end Go.AM

/-! ### P14 -/
namespace Go.AM
open Go.Proofs
set_option maxRecDepth 100000
set_option linter.unusedVariables false
set_option linter.unusedSimpArgs false
theorem bytes49 : ∃ k, bytesOf' Tryd.prog 49 = some k ∧ k ≤ 1000 := by
  have h : (match bytesOf' Tryd.prog 49 with
    | some k => decide (k ≤ 1000)
    | none => false) = true := by kernel_rfl
  split at h
  · rename_i k e; exact ⟨k, e, of_decide_eq_true h⟩
  · cases h
theorem El55 : ElemT Tryd.prog 28 28 4 := by
  obtain ⟨k, h1, h2⟩ := bytes49
  exact ⟨_, _, _, k, T28, T28, rfl, S49, Z49, rfl, h1, h2, by decide⟩
theorem B57_0 : aBuild Tryd.prog 30 [] = some (.agg #[nv 0, nv 0, .slice none 0 0]) := by kernel_rfl
theorem B57_1 {n : Nat} : aBuild Tryd.prog 30 [(0, nv n)] = some (.agg #[nv n, nv 0, .slice none 0 0]) := by kernel_rfl
theorem B105k : aBuild Tryd.prog 139 [(0, nv 1), (1, nv 9), (2, nv 12)] = some (.agg #[nv 1, nv 9, nv 12]) := by kernel_rfl
theorem B76 {k n c : Nat} {q : Option Addr} : aBuild Tryd.prog 49 [(0, nv k), (1, .slice q n c)] = some (.agg #[nv k, .slice q n c, nv 0, nv 0]) := by kernel_rfl
theorem fillA4 {k n c : Nat} {q : Option Addr} : Instr.fill (fun i => some (i * 4, 4)) (if 1 * 4 = 0 then #[] else (Array.range (1 * 4)).map ((Value.agg #[nv 0, .slice none 0 0, nv 0, nv 0]).cells[· % (Value.agg #[nv 0, .slice none 0 0, nv 0, nv 0]).cells.size]!)) [(0, .agg #[nv k, .slice q n c, nv 0, nv 0])] = some #[nv k, .slice q n c, nv 0, nv 0] := by kernel_rfl
theorem idx105_0 : aIndex Tryd.prog 139 (.agg #[nv 1, nv 9, nv 12]) (nv 0) = some (nv 1) := by kernel_rfl
theorem idx105_1 : aIndex Tryd.prog 139 (.agg #[nv 1, nv 9, nv 12]) (nv 1) = some (nv 9) := by kernel_rfl
theorem idx105_2 : aIndex Tryd.prog 139 (.agg #[nv 1, nv 9, nv 12]) (nv 2) = some (nv 12) := by kernel_rfl
theorem idx105 {j : Nat} (h : j ≤ 2) : aIndex Tryd.prog 139 (.agg #[nv 1, nv 9, nv 12]) (nv j) = some (nv (kindM j)) := by
  have : j = 0 ∨ j = 1 ∨ j = 2 := by omega
  rcases this with rfl | rfl | rfl
  · exact idx105_0
  · exact idx105_1
  · exact idx105_2
/-- Gates of one's own: each one's wires in a place of their own. -/
def OwnG (N : Nat) (m : Mem) (v : Value) (cs : Array Value) (Gs : List (Nat × List Nat)) : Prop :=
  OwnC N m v 4 Gs.length cs ∧ ∀ (i : Nat) (g : Nat × List Nat), Gs[i]? = some g → ∃ s, cs[i * 4]? = some (nv g.1) ∧ cs[i * 4 + 1]? = some s ∧ cs[i * 4 + 2]? = some (nv 0) ∧ cs[i * 4 + 3]? = some (nv 0) ∧ OwnF N m s (ofs g.2) ∧ ∀ b, blkOf s = some b → blkOf v ≠ some b
theorem OwnG.nil (N : Nat) (m : Mem) : OwnG N m (.slice none 0 0) #[] [] := ⟨.nil _ _ _, fun i g h => by cases i <;> cases h⟩
theorem OwnG.up {N : Nat} {m m' : Mem} {v : Value} {cs : Array Value} {Gs : List (Nat × List Nat)} (h : OwnG N m v cs Gs) (hu : ∀ b, N ≤ b → b < m.size → Mem.get m' b = Mem.get m b) : OwnG N m' v cs Gs :=
  ⟨h.1.up hu, fun i g hi => by
    obtain ⟨s, h1, h2, h3, h4, ho, hb⟩ := h.2 i g hi
    exact ⟨s, h1, h2, h3, h4, ho.up hu, hb⟩⟩
theorem OwnG.ext {N : Nat} {m m' : Mem} {v : Value} {cs : Array Value} {Gs : List (Nat × List Nat)} (h : OwnG N m v cs Gs) (he : Ext m m') : OwnG N m' v cs Gs := h.up fun b _ hb => he.2 b hb
theorem OwnG.only {N b : Nat} {m m' : Mem} {v : Value} {cs : Array Value} {Gs : List (Nat × List Nat)} (h : OwnG N m v cs Gs) (ho : Only b m m') (hb : b < N) : OwnG N m' v cs Gs := h.up fun c hc _ => ho.2 c (by omega)
theorem OwnG.mono {N N' : Nat} {m : Mem} {v : Value} {cs : Array Value} {Gs : List (Nat × List Nat)} (h : OwnG N m v cs Gs) (hN : N' ≤ N) : OwnG N' m v cs Gs :=
  ⟨h.1.mono hN, fun i g hi => by
    obtain ⟨s, h1, h2, h3, h4, ho, hb⟩ := h.2 i g hi
    exact ⟨s, h1, h2, h3, h4, ho.mono hN, hb⟩⟩
theorem OwnG.grew {N : Nat} {m m' : Mem} {v v' s : Value} {cs : Array Value} {Gs : List (Nat × List Nat)} {k : Nat} {w : List Nat} (h : OwnG N m v cs Gs) (hs : OwnF N m s (ofs w)) (hap : ∀ b, blkOf s = some b → blkOf v ≠ some b) (hg : Grew m v m' v') (hc : OwnC N m' v' 4 (Gs.length + 1) (cs ++ #[nv k, s, nv 0, nv 0])) : OwnG N m' v' (cs ++ #[nv k, s, nv 0, nv 0]) (Gs ++ [(k, w)]) := by
  have hsz := h.1.size
  have hkeep : ∀ {u : Value} {l : List Int}, OwnF N m u l → (∀ b, blkOf u = some b → blkOf v ≠ some b) → OwnF N m' u l ∧ ∀ b, blkOf u = some b → blkOf v' ≠ some b := fun ho ha =>
    ⟨ho.keep fun b hb => hg.2.1 b (ho.lt hb).2 (ha b hb), fun b hb => hg.off (ha b hb) (ho.lt hb).2⟩
  refine ⟨by rw [List.length_append]; exact hc, fun i x hi => ?_⟩
  by_cases hil : i < Gs.length
  · rw [List.getElem?_append_left hil] at hi
    obtain ⟨u, h1, h2, h3, h4, ho, hb⟩ := h.2 i x hi
    obtain ⟨k1, k2⟩ := hkeep ho hb
    exact ⟨u, by rw [Array.getElem?_append_left (by omega), h1], by rw [Array.getElem?_append_left (by omega), h2], by rw [Array.getElem?_append_left (by omega), h3], by rw [Array.getElem?_append_left (by omega), h4], k1, k2⟩
  · rw [List.getElem?_append_right (by omega)] at hi
    have h1 := (List.getElem?_eq_some_iff.1 hi).1
    have h0 : i = Gs.length := by simp at h1; omega
    rw [h0, Nat.sub_self] at hi
    obtain rfl : (k, w) = x := by simpa using hi
    obtain ⟨k1, k2⟩ := hkeep hs hap
    refine ⟨s, ?_, ?_, ?_, ?_, k1, k2⟩
    · rw [Array.getElem?_append_right (by omega), show i * 4 - cs.size = 0 by rw [h0]; omega]; rfl
    · rw [Array.getElem?_append_right (by omega), show i * 4 + 1 - cs.size = 1 by rw [h0]; omega]; rfl
    · rw [Array.getElem?_append_right (by omega), show i * 4 + 2 - cs.size = 2 by rw [h0]; omega]; rfl
    · rw [Array.getElem?_append_right (by omega), show i * 4 + 3 - cs.size = 3 by rw [h0]; omega]; rfl
end Go.AM

/-! ### M28 -/
namespace Go.AM
set_option linter.unusedVariables false
set_option linter.unusedSimpArgs false
def marksM (ps : List Nat) : List Bool := (List.range 1024).map fun i => decide (i ∈ ps)
@[simp] theorem marksM_length (ps : List Nat) : (marksM ps).length = 1024 := by simp [marksM]
theorem marksM_get {ps : List Nat} {i : Nat} (h : i < 1024) : (marksM ps)[i]? = some (decide (i ∈ ps)) := by simp [marksM, h]
end Go.AM

/-! ### P15 -/
namespace Go.AM
open Go.Proofs
set_option maxRecDepth 100000
set_option linter.unusedVariables false
set_option linter.unusedSimpArgs false
theorem call157 : callable Tryd.prog 157 = true := by kernel_rfl
theorem okf157 : okF Tryd.prog H0 157 61 = true := by kernel_rfl
/-! ### Marks -/
def cellsM (ps : List Nat) : Array Value := ((marksM ps).map Value.bool).toArray
@[simp] theorem cellsM_size (ps : List Nat) : (cellsM ps).size = 1024 := by simp [cellsM]
theorem cellsM_get {ps : List Nat} {i : Nat} (h : i < 1024) : (cellsM ps)[i]? = some (.bool (decide (i ∈ ps))) := by
  simp only [cellsM, List.getElem?_toArray, List.getElem?_map, marksM_get h]; rfl
end Go.AM

/-! ### P16 -/
namespace Go.AM
open Go.Proofs
set_option maxRecDepth 100000
set_option linter.unusedVariables false
set_option linter.unusedSimpArgs false
structure MkJ (M : Mem) (c : Nat) (acc : List Nat) (vs : Array Value) (p1 lp x k : Nat) (X : ALoop) (m' : Mem) : Prop where
  low : Low c M m'
  gc : Mem.get m' c = .cells true (cellsM acc)
  w1 : Mem.get m' p1 = .cells true vs
  w2 : Mem.get m' (p1 + 1) = .cells true #[nv x]
  w3 : Mem.get m' (p1 + 2) = .cells true #[nv k]
  lp : Mem.get m' lp = .loop X
theorem MkJ.ext {M : Mem} {c : Nat} {acc : List Nat} {vs : Array Value} {p1 lp x k : Nat} {X : ALoop} {m' m'' : Mem} (h : MkJ M c acc vs p1 lp x k X m') (he : Ext m' m'') : MkJ M c acc vs p1 lp x k X m'' :=
  ⟨h.low.trans_ext he (by have := live h.gc; omega), he.cells h.gc, he.cells h.w1, he.cells h.w2, he.cells h.w3, by rw [he.2 lp (Mem.lt_of_live (by rw [h.lp]; rfl)), h.lp]⟩
end Go.AM

/-! ### P17 -/
namespace Go.AM
open Go.Proofs
set_option maxRecDepth 100000
set_option linter.unusedVariables false
set_option linter.unusedSimpArgs false
end Go.AM

/-! ### P18 -/
namespace Go.AM
open Go.Proofs
set_option maxRecDepth 100000
set_option linter.unusedVariables false
set_option linter.unusedSimpArgs false
/-- A slice of pairs that may be read. -/
def TwosAt (m : Mem) (v : Value) (r : List (Nat × Nat)) : Prop := (r = [] ∧ v = .slice none 0 0) ∨ ∃ b cap rw_ c, v = .slice (some ⟨b, 0, some 2⟩) r.length cap ∧ Mem.get m b = .cells rw_ c ∧ ∀ (i : Nat) (p : Nat × Nat), r[i]? = some p → c[i * 2]? = some (nv p.1) ∧ c[i * 2 + 1]? = some (nv p.2)
theorem TwosAt.len {m : Mem} {v : Value} {r : List (Nat × Nat)} (h : TwosAt m v r) : ∃ q cap, v = .slice q r.length cap := by
  rcases h with ⟨rfl, rfl⟩ | ⟨b, cap, rw_, c, rfl, _⟩ <;> exact ⟨_, _, rfl⟩
theorem TwosAt.ext {m m' : Mem} {v : Value} {r : List (Nat × Nat)} (h : TwosAt m v r) (he : Ext m m') : TwosAt m' v r := by
  rcases h with h | ⟨b, cap, rw_, c, h1, h2, h3⟩
  · exact .inl h
  · exact .inr ⟨b, cap, rw_, c, h1, he.cells h2, h3⟩
theorem TwosAt.at {m : Mem} {v : Value} {r : List (Nat × Nat)} (h : TwosAt m v r) (h0 : 0 < r.length) : ∃ b cap rw_ c, v = .slice (some ⟨b, 0, some 2⟩) r.length cap ∧ Mem.get m b = .cells rw_ c ∧ ∀ (i : Nat) (p : Nat × Nat), r[i]? = some p → c[i * 2]? = some (nv p.1) ∧ c[i * 2 + 1]? = some (nv p.2) := by
  rcases h with ⟨rfl, _⟩ | h
  · cases h0
  · exact h
theorem extract4 {c : Array Value} {o : Nat} {x y z w : Value} (hx : c[o]? = some x) (hy : c[o + 1]? = some y) (hz : c[o + 2]? = some z) (hw : c[o + 3]? = some w) : c.extract o (o + 4) = #[x, y, z, w] := by
  have h1 := (Array.getElem?_eq_some_iff.1 hw).1
  apply Array.ext_getElem?
  intro i
  rw [Array.getElem?_extract]
  match i with
  | 0 => rw [if_pos (by omega)]; simpa using hx
  | 1 => rw [if_pos (by omega)]; simpa using hy
  | 2 => rw [if_pos (by omega)]; simpa using hz
  | 3 => rw [if_pos (by omega)]; simpa using hw
  | i + 4 => rw [if_neg (by omega)]; simp
end Go.AM

/-! ### P19 -/
namespace Go.AM
open Go.Proofs
set_option maxRecDepth 100000
set_option linter.unusedVariables false
set_option linter.unusedSimpArgs false
/-- A gate as it is compared: kind, wires, two numbers. -/
abbrev GateV := Int × List Int × Int × Int
theorem oneGate {k a b : Int} {q : Option Addr} {n c : Nat} : (#[.int .i64 k, .slice q n c, .int .i64 a, .int .i64 b] : Array Value).all Value.oneCell' = true := by kernel_rfl
def GateAt (m : Mem) (vs : Array Value) (g : GateV) : Prop := ∃ s, vs = #[.int .i64 g.1, s, .int .i64 g.2.2.1, .int .i64 g.2.2.2] ∧ IntsAt m s g.2.1
theorem GateAt.ext {m m' : Mem} {vs : Array Value} {g : GateV} (h : GateAt m vs g) (he : Ext m m') : GateAt m' vs g := by
  obtain ⟨s, h1, h2⟩ := h; exact ⟨s, h1, h2.ext he⟩
def GatesAt (m : Mem) (v : Value) (Gs : List GateV) : Prop :=
  (Gs = [] ∧ v = .slice none 0 0) ∨ ∃ b cap r c, v = .slice (some ⟨b, 0, some 4⟩) Gs.length cap ∧ Mem.get m b = .cells r c ∧ ∀ (i : Nat) (g : GateV), Gs[i]? = some g → GateAt m (c.extract (i * 4) (i * 4 + 4)) g ∧ i * 4 + 4 ≤ c.size
theorem GatesAt.len {m : Mem} {v : Value} {Gs : List GateV} (h : GatesAt m v Gs) : ∃ q cap, v = .slice q Gs.length cap := by
  rcases h with ⟨rfl, rfl⟩ | ⟨b, cap, rw_, c, rfl, _⟩ <;> exact ⟨_, _, rfl⟩
theorem GatesAt.ext {m m' : Mem} {v : Value} {Gs : List GateV} (h : GatesAt m v Gs) (he : Ext m m') : GatesAt m' v Gs := by
  rcases h with h | ⟨b, cap, rw_, c, h1, h2, h3⟩
  · exact .inl h
  · exact .inr ⟨b, cap, rw_, c, h1, he.cells h2, fun i g hi => ⟨(h3 i g hi).1.ext he, (h3 i g hi).2⟩⟩
theorem GatesAt.at {m : Mem} {v : Value} {Gs : List GateV} (h : GatesAt m v Gs) (h0 : 0 < Gs.length) : ∃ b cap r c, v = .slice (some ⟨b, 0, some 4⟩) Gs.length cap ∧ Mem.get m b = .cells r c ∧ ∀ (i : Nat) (g : GateV), Gs[i]? = some g → GateAt m (c.extract (i * 4) (i * 4 + 4)) g ∧ i * 4 + 4 ≤ c.size := by
  rcases h with ⟨rfl, _⟩ | h
  · cases h0
  · exact h
def gvM (g : Nat × List Nat) : GateV := (Int.ofNat g.1, ofs g.2, 0, 0)
theorem OwnG.gates {N : Nat} {m : Mem} {v : Value} {cs : Array Value} {Gs : List (Nat × List Nat)} (h : OwnG N m v cs Gs) : GatesAt m v (Gs.map gvM) := by
  have hsz := h.1.size
  rcases h with ⟨⟨rfl, h, _⟩ | ⟨b, cap, c, rfl, h2, h3, h4, h5, h6, h7⟩, hr⟩
  · obtain rfl := List.length_eq_zero_iff.1 h
    exact .inl ⟨rfl, rfl⟩
  · refine .inr ⟨b, cap, true, c, by rw [List.length_map], h3, fun i g hi => ?_⟩
    simp only [List.getElem?_map, Option.map_eq_some_iff] at hi
    obtain ⟨g', hi, rfl⟩ := hi
    have hl := (List.getElem?_eq_some_iff.1 hi).1
    obtain ⟨s, e1, e2, e3, e4, ho, _⟩ := hr i g' hi
    have hcap : Gs.length * 4 ≤ cap * 4 := Nat.mul_le_mul_right 4 h4
    refine ⟨⟨s, ?_, ho.ints⟩, by omega⟩
    exact extract4 (by rw [h7 _ (by omega)]; exact e1) (by rw [h7 _ (by omega)]; exact e2) (by rw [h7 _ (by omega)]; exact e3) (by rw [h7 _ (by omega)]; exact e4)
theorem okf84 : okF Tryd.prog H0 84 31 = true := by kernel_rfl
theorem spec_SameGate {m : Mem} {u w : Array Value} {g h : GateV} (hu : GateAt m u g) (hw : GateAt m w h) (hl : g.2.1.length < 4611686018427387904) : ∃ v m', ACalls Tryd.prog 84 #[.agg u, .agg w] m v m' ∧ (v = .bool (decide (g = h)) ∧ Ext m m') := by
  obtain ⟨k1, l1, a1, b1⟩ := g
  obtain ⟨k2, l2, a2, b2⟩ := h
  obtain ⟨s1, rfl, h1⟩ := hu
  obtain ⟨s2, rfl, h2⟩ := hw
  simp only at h1 h2 hl ⊢
  have h22 := spec_Equal (m := (m.push (.cells true #[.int .i64 k1, s1, .int .i64 a1, .int .i64 b1])).push (.cells true #[.int .i64 k2, s2, .int .i64 a2, .int .i64 b2])) ((h1.ext (.push _ _)).ext (.push _ _)) ((h2.ext (.push _ _)).ext (.push _ _)) hl
  obtain ⟨q1, c1, rfl⟩ := h1.len
  obtain ⟨q2, c2, rfl⟩ := h2.len
  have hE : Ext m ((m.push (.cells true #[.int .i64 k1, .slice q1 l1.length c1, .int .i64 a1, .int .i64 b1])).push (.cells true #[.int .i64 k2, .slice q2 l2.length c2, .int .i64 a2, .int .i64 b2])) := (Ext.push _ _).trans (.push _ _)
  refine wpF (args := [_, _]) mixed okf84 (fn := Tryd.f84) rfl rfl rfl (by simp) ?_
  refine cSeq ?_
  refine cRegion ?_
  refine sBox (v := .agg _) rfl ?_
  refine sBox (v := .agg _) rfl ?_
  refine sAs (v := .bool _) rfl ?_
  refine sNil (kSeqN ?_)
  refine cSeq ?_
  refine cRegion ?_
  refine sFA F49_0 rfl ?_
  refine sLd (v := .int _ _) A3 rfl (by simp (disch := first | omega | (simp only [Array.size_push, Array.size_setIfInBounds]; done) | (simp only [Array.size_push, Array.size_setIfInBounds]; omega)) only [gP, gPn, gS, gSn]; try rfl) rfl ?_
  refine sFA F49_0 rfl ?_
  refine sLd (v := .int _ _) A3 rfl (by simp (disch := first | omega | (simp only [Array.size_push, Array.size_setIfInBounds]; done) | (simp only [Array.size_push, Array.size_setIfInBounds]; omega)) only [gP, gPn, gS, gSn]; try rfl) rfl ?_
  refine sBinI rfl rfl aInt_eqlI ?_
  refine sMv (v := .bool _) rfl ?_
  by_cases e1 : k1 = k2
  ·
    rw [decide_eq_true e1]
    refine sG rfl rfl ?_
    refine sFA F49_2 rfl ?_
    refine sG rfl rfl ?_
    refine sLd (v := .int _ _) A3 rfl (by simp (disch := first | omega | (simp only [Array.size_push, Array.size_setIfInBounds]; done) | (simp only [Array.size_push, Array.size_setIfInBounds]; omega)) only [gP, gPn, gS, gSn]; try rfl) rfl ?_
    refine sG rfl rfl ?_
    refine sFA F49_2 rfl ?_
    refine sG rfl rfl ?_
    refine sLd (v := .int _ _) A3 rfl (by simp (disch := first | omega | (simp only [Array.size_push, Array.size_setIfInBounds]; done) | (simp only [Array.size_push, Array.size_setIfInBounds]; omega)) only [gP, gPn, gS, gSn]; try rfl) rfl ?_
    refine sG rfl rfl ?_
    refine sBinI rfl rfl aInt_eqlI ?_
    refine sP (v := .bool _) rfl ?_   -- t16 pick ['t10', 't15', '(bool false)']
    refine sMv (v := .bool _) rfl ?_
    by_cases e2 : a1 = a2
    ·
      rw [decide_eq_true e2]
      refine sG rfl rfl ?_
      refine sFA F49_3 rfl ?_
      refine sG rfl rfl ?_
      refine sLd (v := .int _ _) A3 rfl (by simp (disch := first | omega | (simp only [Array.size_push, Array.size_setIfInBounds]; done) | (simp only [Array.size_push, Array.size_setIfInBounds]; omega)) only [gP, gPn, gS, gSn]; try rfl) rfl ?_
      refine sG rfl rfl ?_
      refine sFA F49_3 rfl ?_
      refine sG rfl rfl ?_
      refine sLd (v := .int _ _) A3 rfl (by simp (disch := first | omega | (simp only [Array.size_push, Array.size_setIfInBounds]; done) | (simp only [Array.size_push, Array.size_setIfInBounds]; omega)) only [gP, gPn, gS, gSn]; try rfl) rfl ?_
      refine sG rfl rfl ?_
      refine sBinI rfl rfl aInt_eqlI ?_
      refine sP (v := .bool _) rfl ?_   -- t23 pick ['t17', 't22', '(bool false)']
      refine sMv (v := .bool _) rfl ?_
      by_cases e3 : b1 = b2
      ·
        rw [decide_eq_true e3]
        refine sG rfl rfl ?_
        refine sFA F49_1 rfl ?_
        refine sG rfl rfl ?_
        refine sLd A22 rfl (by simp (disch := first | omega | (simp only [Array.size_push, Array.size_setIfInBounds]; done) | (simp only [Array.size_push, Array.size_setIfInBounds]; omega)) only [gP, gPn, gS, gSn]; try rfl) rfl ?_
        refine sG rfl rfl ?_
        refine sFA F49_1 rfl ?_
        refine sG rfl rfl ?_
        refine sLd A22 rfl (by simp (disch := first | omega | (simp only [Array.size_push, Array.size_setIfInBounds]; done) | (simp only [Array.size_push, Array.size_setIfInBounds]; omega)) only [gP, gPn, gS, gSn]; try rfl) rfl ?_
        refine sG rfl rfl ?_
        refine sCall2 rfl call28 rfl rfl h22 ?_
        refine sP (v := .bool _) rfl ?_
        refine sAs (v := .bool _) rfl ?_
        refine sNil (kSeqN ?_)
        refine cRet ?_
        refine ⟨.inr rfl, _, rfl, congrArg Value.bool (decide_eq_decide.2 ?_), hE⟩
        subst e1; subst e2; subst e3
        simp
      ·
        rw [decide_eq_false e3]
        refine sGno (q' := false) rfl rfl (by simp) ?_
        refine sGno (q' := false) rfl rfl (by simp) ?_
        refine sGno (q' := false) rfl rfl (by simp) ?_
        refine sGno (q' := false) rfl rfl (by simp) ?_
        refine sGno (q' := false) rfl rfl (by simp) ?_
        refine sP (v := .bool _) rfl ?_
        refine sAs (v := .bool _) rfl ?_
        refine sNil (kSeqN ?_)
        refine cRet ?_
        refine ⟨.inr rfl, _, rfl, congrArg Value.bool (decide_eq_false ?_).symm, hE⟩
        intro e; simp at e; exact e3 e.2.2.2
    ·
      rw [decide_eq_false e2]
      refine sGno (q' := false) rfl rfl (by simp) ?_
      refine sGno (q' := false) rfl rfl (by simp) ?_
      refine sGno (q' := false) rfl rfl (by simp) ?_
      refine sGno (q' := false) rfl rfl (by simp) ?_
      refine sGno (q' := false) rfl rfl (by simp) ?_
      refine sP (v := .bool _) rfl ?_   -- t23 pick ['t17', 't22', '(bool false)']
      refine sMv (v := .bool _) rfl ?_
      refine sGno (q' := false) rfl rfl (by simp) ?_
      refine sGno (q' := false) rfl rfl (by simp) ?_
      refine sGno (q' := false) rfl rfl (by simp) ?_
      refine sGno (q' := false) rfl rfl (by simp) ?_
      refine sGno (q' := false) rfl rfl (by simp) ?_
      refine sP (v := .bool _) rfl ?_
      refine sAs (v := .bool _) rfl ?_
      refine sNil (kSeqN ?_)
      refine cRet ?_
      refine ⟨.inr rfl, _, rfl, congrArg Value.bool (decide_eq_false ?_).symm, hE⟩
      intro e; simp at e; exact e2 e.2.2.1
  ·
    rw [decide_eq_false e1]
    refine sGno (q' := false) rfl rfl (by simp) ?_
    refine sGno (q' := false) rfl rfl (by simp) ?_
    refine sGno (q' := false) rfl rfl (by simp) ?_
    refine sGno (q' := false) rfl rfl (by simp) ?_
    refine sGno (q' := false) rfl rfl (by simp) ?_
    refine sP (v := .bool _) rfl ?_   -- t16 pick ['t10', 't15', '(bool false)']
    refine sMv (v := .bool _) rfl ?_
    refine sGno (q' := false) rfl rfl (by simp) ?_
    refine sGno (q' := false) rfl rfl (by simp) ?_
    refine sGno (q' := false) rfl rfl (by simp) ?_
    refine sGno (q' := false) rfl rfl (by simp) ?_
    refine sGno (q' := false) rfl rfl (by simp) ?_
    refine sP (v := .bool _) rfl ?_   -- t23 pick ['t17', 't22', '(bool false)']
    refine sMv (v := .bool _) rfl ?_
    refine sGno (q' := false) rfl rfl (by simp) ?_
    refine sGno (q' := false) rfl rfl (by simp) ?_
    refine sGno (q' := false) rfl rfl (by simp) ?_
    refine sGno (q' := false) rfl rfl (by simp) ?_
    refine sGno (q' := false) rfl rfl (by simp) ?_
    refine sP (v := .bool _) rfl ?_
    refine sAs (v := .bool _) rfl ?_
    refine sNil (kSeqN ?_)
    refine cRet ?_
    refine ⟨.inr rfl, _, rfl, congrArg Value.bool (decide_eq_false ?_).symm, hE⟩
    intro e; simp at e; exact e1 e.1
theorem okf83 : okF Tryd.prog H0 83 32 = true := by kernel_rfl
theorem spec_EqualG {m : Mem} {a b : Value} {l r : List GateV} (ha : GatesAt m a l) (hb : GatesAt m b r) (hl : l.length < 4611686018427387904) (hw : ∀ g ∈ l, g.2.1.length < 4611686018427387904) : ∃ v m', ACalls Tryd.prog 83 #[a, b, .func (.func 84) #[] #[]] m v m' ∧ (v = .bool (decide (l = r)) ∧ Ext m m') := by
  obtain ⟨q, cap, rfl⟩ := ha.len
  obtain ⟨q2, cap2, rfl⟩ := hb.len
  refine wpF (args := [_, _, _]) mixed okf83 (fn := Tryd.f83) rfl rfl rfl (by simp) ?_
  refine cSeq ?_
  refine cRegion ?_
  refine sAs (v := .bool _) rfl ?_
  refine sNil (kSeqN ?_)
  refine cSeq ?_   -- seq 1
  refine cSeq ?_
  refine cRegion ?_
  refine sMv (v := .slice _ _ _) rfl ?_
  refine sLen T28 rfl ?_
  refine sMv (v := .slice _ _ _) rfl ?_
  refine sLen T28 rfl ?_
  refine sBin (a := l.length) (b := r.length) rfl rfl aInt_neq ?_
  refine sNil (kSeqN ?_)
  refine cCond rfl (fun c0 => ?_) (fun c0 => ?_)
  ·
    refine cSeq ?_
    refine cRegion ?_
    refine sAs (v := .bool _) rfl ?_
    refine sNil (kSeqN ?_)
    refine cRet (kSeqR ?_)
    have hGH : ¬ (l = r) := fun e => c0 (by rw [e])
    exact ⟨.inr rfl, _, rfl, by rw [decide_eq_false hGH]; rfl, .refl _⟩
  ·
    have hlen : l.length = r.length := Decidable.not_not.1 c0
    refine cSkip (kSeqN ?_)
    refine cSeq ?_
    refine cSeq ?_
    refine cRegion ?_
    refine sMv (v := .slice _ _ _) rfl ?_
    refine sLen T28 rfl ?_
    refine sMv (v := nv 0) rfl ?_
    refine sNil (kSeqN ?_)
    refine cBlock ?_
    refine wpC_loop (fun k ρ m' => ∃ i, k = l.length - i ∧ i ≤ l.length ∧ Ext m m' ∧ (∀ j, j < i → l[j]? = r[j]?) ∧ Has ρ [(0, .slice q l.length cap), (1, .slice q2 r.length cap2), (2, .func (.func 84) #[] #[]), (15, .slice q l.length cap), (16, nv l.length), (17, nv i)]) ⟨0, rfl, by omega, .refl _, by omega, rfl, rfl, rfl, rfl, rfl, rfl, trivial⟩ ?_
    rintro k ρ m' ⟨i, rfl, hi, hE, hj, hh⟩
    rw [hh.env]; clear hh
    refine cSeq ?_
    refine cRegion ?_
    refine sBin rfl rfl (aInt_lss) ?_
    refine sNil (kSeqN ?_)
    refine cSeq ?_   -- seq 7
    refine cCond rfl (fun c1 => ?_) (fun c1 => ?_)
    ·
      obtain ⟨b1, p1, r1, cc1, e1, g1, x1⟩ := (ha.ext hE).at (by omega)
      obtain ⟨b2, p2, r2, cc2, e2, g2, x2⟩ := (hb.ext hE).at (by omega)
      cases e1
      cases e2
      have hir : i < r.length := by omega
      obtain ⟨y1, z1⟩ := x1 i l[i] (by simp)
      obtain ⟨y2, z2⟩ := x2 i r[i] (by simp)
      have hs1 : (cc1.extract (i * 4) (i * 4 + 4)).size = 4 := by simp; omega
      have hs2 : (cc2.extract (i * 4) (i * 4 + 4)).size = 4 := by simp; omega
      have ho1 : (cc1.extract (i * 4) (i * 4 + 4)).all Value.oneCell' = true := by
        obtain ⟨s, e, hi⟩ := y1
        obtain ⟨_, _, rfl⟩ := hi.len
        rw [e]; exact oneGate
      have ho2 : (cc2.extract (i * 4) (i * 4 + 4)).all Value.oneCell' = true := by
        obtain ⟨s, e, hi⟩ := y2
        obtain ⟨_, _, rfl⟩ := hi.len
        rw [e]; exact oneGate
      refine cSkip (kSeqN ?_)
      refine cSeq ?_
      refine cBlock ?_
      refine cSeq ?_
      refine cRegion ?_
      refine sMv (v := nv _) rfl ?_
      refine sIx T28 S49 rfl rfl c1 ?_
      refine sLdA A49 S49 rfl g1 (by omega) ?_
      rw [Nat.zero_add]
      refine sAlloc Z49 (by kernel_rfl) ?_
      refine sAs (v := nv _) rfl ?_
      refine sStNA S49 rfl rfl rfl hs1 ho1 ?_
      refine sNil (kSeqN ?_)
      refine cSeq ?_
      refine cRegion ?_
      refine sMv (v := .slice _ _ _) rfl ?_
      refine sMv (v := nv _) rfl ?_
      refine sIx T28 S49 rfl rfl hir ?_
      refine sLdA A49 S49 rfl ((gPn (live g2)).trans g2) (by omega) ?_
      rw [Nat.zero_add]
      refine sAlloc Z49 (by kernel_rfl) ?_
      refine sStNA S49 rfl rfl rfl hs2 ho2 ?_
      refine sNil (kSeqN ?_)
      refine cSeq ?_
      refine cRegion ?_
      refine sMv (v := .func _ _ _) rfl ?_
      refine sLdAll A49 S49 rfl (by rw [gPn (by simp), gP rfl]) hs1 ?_
      refine sLdAll A49 S49 rfl (gP rfl) hs2 ?_
      obtain ⟨v29, m29, h29, rfl, e29⟩ := spec_SameGate (m := (m'.push (.cells true (cc1.extract (i * 4) (i * 4 + 4)))).push (.cells true (cc2.extract (i * 4) (i * 4 + 4)))) ((y1.ext (.push _ _)).ext (.push _ _)) ((y2.ext (.push _ _)).ext (.push _ _)) (hw _ (List.getElem_mem c1))
      refine sCall2 rfl call84 rfl rfl h29 ?_
      refine sP (v := .bool (!decide (l[i] = r[i]))) rfl ?_
      refine sNil (kSeqN ?_)
      refine cCond (p := l[i] ≠ r[i]) (by show Value.bool _ = Value.bool _; rw [← decide_not]) (fun c2 => ?_) (fun c2 => ?_)
      ·
        refine cSeq ?_
        refine cRegion ?_
        refine sAs (v := .bool _) rfl ?_
        refine sNil (kSeqN ?_)
        refine cRet (kBlkR (kSeqR (kSeqR (kBlkR (kSeqR ?_)))))
        refine ⟨.inr rfl, _, rfl, ?_, hE.trans (((Ext.push _ _).trans (.push _ _)).trans e29)⟩
        have : ¬ (l = r) := fun e => c2 (by subst e; rfl)
        rw [decide_eq_false this]; rfl
      ·
        refine cSkip (kBlkN (kSeqN ?_))
        refine cRegion ?_
        refine sBin rfl rfl (aInt_add (b := 1) (by omega)) ?_
        refine sMv (v := nv _) rfl ?_
        refine sNil (kSeqN ?_)
        refine ⟨_, ?_, i + 1, rfl, by omega, hE.trans (((Ext.push _ _).trans (.push _ _)).trans e29), fun j hji => ?_, rfl, rfl, rfl, rfl, rfl, rfl, trivial⟩
        · omega
        · by_cases h : j < i
          · exact hj j h
          · obtain rfl : j = i := by omega
            rw [List.getElem?_eq_getElem c1, List.getElem?_eq_getElem hir, Decidable.not_not.1 c2]
    ·
      refine cExit (kSeqE (kSeqE (kBlkS (kSeqN ?_))))
      refine cSeq ?_
      refine cRegion ?_
      refine sAs (v := .bool _) rfl ?_
      refine sNil (kSeqN ?_)
      refine cRet ?_
      obtain rfl : i = l.length := by omega
      have he : l = r := by
        apply List.ext_getElem? fun j => ?_
        by_cases h : j < l.length
        · exact hj j h
        · rw [List.getElem?_eq_none (by omega), List.getElem?_eq_none (by omega)]
      exact ⟨.inr rfl, _, rfl, by rw [decide_eq_true he]; rfl, hE⟩
theorem okf20 : okF Tryd.prog H0 20 24 = true := by kernel_rfl
theorem spec_Same {m : Mem} {a b : Value} {W B W' B' : Nat} {l r : List GateV} (ha : GatesAt m a l) (hb : GatesAt m b r) (hl : l.length < 4611686018427387904) (hw : ∀ g ∈ l, g.2.1.length < 4611686018427387904) : ∃ v m', ACalls Tryd.prog 20 #[.agg #[nv W, nv B, a], .agg #[nv W', nv B', b]] m v m' ∧ (v = .bool (decide (W = W' ∧ B = B' ∧ l = r)) ∧ Ext m m') := by
  have hE : Ext m ((m.push (.cells true #[nv W, nv B, a])).push (.cells true #[nv W', nv B', b])) := (Ext.push _ _).trans (.push _ _)
  obtain ⟨v22, m22, h22, rfl, e22⟩ := spec_EqualG (ha.ext hE) (hb.ext hE) hl hw
  obtain ⟨q1, c1, rfl⟩ := ha.len
  obtain ⟨q2, c2, rfl⟩ := hb.len
  refine wpF (args := [_, _]) mixed okf20 (fn := Tryd.f20) rfl rfl rfl (by simp) ?_
  refine cSeq ?_
  refine cRegion ?_
  refine sBox (v := .agg _) rfl ?_
  refine sBox (v := .agg _) rfl ?_
  refine sAs (v := .bool _) rfl ?_
  refine sNil (kSeqN ?_)
  refine cSeq ?_
  refine cRegion ?_
  refine sFA F30_0 rfl ?_
  refine sLd A3 rfl (by simp (disch := first | omega | (simp only [Array.size_push, Array.size_setIfInBounds]; done) | (simp only [Array.size_push, Array.size_setIfInBounds]; omega)) only [gP, gPn, gS, gSn]; try rfl) rfl ?_
  refine sFA F30_0 rfl ?_
  refine sLd A3 rfl (by simp (disch := first | omega | (simp only [Array.size_push, Array.size_setIfInBounds]; done) | (simp only [Array.size_push, Array.size_setIfInBounds]; omega)) only [gP, gPn, gS, gSn]; try rfl) rfl ?_
  refine sBin (a := W) (b := W') rfl rfl aInt_eql ?_
  refine sMv (v := .bool _) rfl ?_
  by_cases e1 : W = W'
  ·
    rw [decide_eq_true e1]
    refine sG rfl rfl ?_
    refine sFA F30_1 rfl ?_
    refine sG rfl rfl ?_
    refine sLd A3 rfl (by simp (disch := first | omega | (simp only [Array.size_push, Array.size_setIfInBounds]; done) | (simp only [Array.size_push, Array.size_setIfInBounds]; omega)) only [gP, gPn, gS, gSn]; try rfl) rfl ?_
    refine sG rfl rfl ?_
    refine sFA F30_1 rfl ?_
    refine sG rfl rfl ?_
    refine sLd A3 rfl (by simp (disch := first | omega | (simp only [Array.size_push, Array.size_setIfInBounds]; done) | (simp only [Array.size_push, Array.size_setIfInBounds]; omega)) only [gP, gPn, gS, gSn]; try rfl) rfl ?_
    refine sG rfl rfl ?_
    refine sBin (a := B) (b := B') rfl rfl aInt_eql ?_
    refine sP (v := .bool _) rfl ?_   -- t16 pick ['t10', 't15', '(bool false)']
    refine sMv (v := .bool _) rfl ?_
    by_cases e2 : B = B'
    ·
      rw [decide_eq_true e2]
      refine sG rfl rfl ?_
      refine sFA F30_2 rfl ?_
      refine sG rfl rfl ?_
      refine sLd A28 rfl (by simp (disch := first | omega | (simp only [Array.size_push, Array.size_setIfInBounds]; done) | (simp only [Array.size_push, Array.size_setIfInBounds]; omega)) only [gP, gPn, gS, gSn]; try rfl) rfl ?_
      refine sG rfl rfl ?_
      refine sFA F30_2 rfl ?_
      refine sG rfl rfl ?_
      refine sLd A28 rfl (by simp (disch := first | omega | (simp only [Array.size_push, Array.size_setIfInBounds]; done) | (simp only [Array.size_push, Array.size_setIfInBounds]; omega)) only [gP, gPn, gS, gSn]; try rfl) rfl ?_
      refine sG rfl rfl ?_
      refine sCall3 rfl call83 rfl rfl rfl h22 ?_
      refine sP (v := .bool _) rfl ?_
      refine sAs (v := .bool _) rfl ?_
      refine sNil (kSeqN ?_)
      refine cRet ?_
      refine ⟨.inr rfl, _, rfl, congrArg Value.bool (decide_eq_decide.2 ?_), hE.trans e22⟩
      exact ⟨fun h => ⟨e1, e2, h⟩, fun h => h.2.2⟩
    ·
      rw [decide_eq_false e2]
      refine sGno (q' := false) rfl rfl (by simp) ?_
      refine sGno (q' := false) rfl rfl (by simp) ?_
      refine sGno (q' := false) rfl rfl (by simp) ?_
      refine sGno (q' := false) rfl rfl (by simp) ?_
      refine sGno (q' := false) rfl rfl (by simp) ?_
      refine sP (v := .bool _) rfl ?_
      refine sAs (v := .bool _) rfl ?_
      refine sNil (kSeqN ?_)
      refine cRet ?_
      exact ⟨.inr rfl, _, rfl, congrArg Value.bool (decide_eq_false fun h => e2 h.2.1).symm, hE⟩
  ·
    rw [decide_eq_false e1]
    refine sGno (q' := false) rfl rfl (by simp) ?_
    refine sGno (q' := false) rfl rfl (by simp) ?_
    refine sGno (q' := false) rfl rfl (by simp) ?_
    refine sGno (q' := false) rfl rfl (by simp) ?_
    refine sGno (q' := false) rfl rfl (by simp) ?_
    refine sP (v := .bool _) rfl ?_   -- t16 pick ['t10', 't15', '(bool false)']
    refine sMv (v := .bool _) rfl ?_
    refine sGno (q' := false) rfl rfl (by simp) ?_
    refine sGno (q' := false) rfl rfl (by simp) ?_
    refine sGno (q' := false) rfl rfl (by simp) ?_
    refine sGno (q' := false) rfl rfl (by simp) ?_
    refine sGno (q' := false) rfl rfl (by simp) ?_
    refine sP (v := .bool _) rfl ?_
    refine sAs (v := .bool _) rfl ?_
    refine sNil (kSeqN ?_)
    refine cRet ?_
    exact ⟨.inr rfl, _, rfl, congrArg Value.bool (decide_eq_false fun h => e1 h.1).symm, hE⟩
end Go.AM

/-! ### P20t -/
namespace Go.AM
end Go.AM

/-! ### P20 -/
namespace Go.AM
open Go.Proofs
set_option maxRecDepth 100000
set_option linter.unusedVariables false
set_option linter.unusedSimpArgs false
end Go.AM

/-! ### P21 -/
namespace Go.AM
open Go.Proofs
set_option maxRecDepth 100000
set_option linter.unusedVariables false
set_option linter.unusedSimpArgs false
end Go.AM

/-! ### S1 -/
namespace Go.AM
open Go.Proofs Go.Shelf
set_option maxRecDepth 100000
set_option linter.unusedVariables false
end Go.AM

/-! ### S2 -/
namespace Go.AM
open Go.Proofs Go.Shelf
set_option maxRecDepth 100000
set_option linter.unusedVariables false
end Go.AM

/-! ### S3 -/
namespace Go.AM
open Go.Proofs
set_option maxRecDepth 100000
set_option linter.unusedVariables false
set_option linter.unusedSimpArgs false
end Go.AM

/-! ### S4 -/
namespace Go.AM
open Go.Proofs
set_option maxRecDepth 100000
set_option linter.unusedVariables false
set_option linter.unusedSimpArgs false
end Go.AM

/-! ### S5 -/
namespace Go.AM
open Go.Proofs
set_option maxRecDepth 100000
set_option linter.unusedVariables false
set_option linter.unusedSimpArgs false
/-- The row b holds other numbers of the same slice; all else is as it was. -/
def Sorted2 (N : Nat) (v : Value) (L' : List Nat) (m m' : Mem) : Prop := OwnF N m' v (ofs L') ∧ m'.size = m.size ∧ ∀ b, blkOf v ≠ some b → Mem.get m' b = Mem.get m b
end Go.AM

/-! ### P22 -/
namespace Go.AM
open Go.Proofs
set_option maxRecDepth 100000
set_option linter.unusedVariables false
set_option linter.unusedSimpArgs false
theorem El22 : ElemT Tryd.prog 34 34 1 := ⟨_, _, _, 24, T34, T34, rfl, S22, Z22, rfl, bytes22, by decide, by decide⟩
theorem fillV {q : Option Addr} {n c : Nat} : Instr.fill (fun i => some (i * 1, 1)) (if 1 * 1 = 0 then #[] else (Array.range (1 * 1)).map ((Value.slice none 0 0).cells[· % (Value.slice none 0 0).cells.size]!)) [(0, .slice q n c)] = some #[.slice q n c] := by kernel_rfl
theorem OwnR.set {N b : Nat} {m : Mem} {v : Value} {cs : Array Value} {G : List (List Int)} (h : OwnR N m v cs G) (hv : blkOf v ≠ some b) (hr : ∀ (i : Nat) (s : Value), cs[i]? = some s → blkOf s ≠ some b) (o : AObj) : OwnR N (m.setIfInBounds b o) v cs G :=
  ⟨h.1.keep fun c hc => gSn fun e => hv (by rw [e, hc]), fun i g hi => by
    obtain ⟨s, hs, ho, hb⟩ := h.2 i g hi
    exact ⟨s, hs, ho.keep fun c hc => gSn fun e => hr i s hs (by rw [e, hc]), hb⟩⟩
end Go.AM

/-! ### P23 -/
namespace Go.AM
open Go.Proofs
set_option maxRecDepth 100000
set_option linter.unusedVariables false
set_option linter.unusedSimpArgs false
def treeTo (W c : Nat) : List (List Nat) := (treeAt W (W - 1)).take c
structure TreeI (m : Mem) (W c : Nat) (v : Value) (cs : Array Value) (m' : Mem) : Prop where
  low : Low (m.size + 1) (m.push (.cells true #[.slice none 0 0])) m'
  sz : m.size + 2 ≤ m'.size
  g : Mem.get m' (m.size + 1) = .cells true #[v]
  own : OwnR (m.size + 1) m' v cs (ofs2 (treeTo W c))
  off : blkOf v ≠ some (m.size + 1)
  offs : ∀ (j : Nat) (s : Value), cs[j]? = some s → blkOf s ≠ some (m.size + 1)
theorem TreeI.ext {m : Mem} {W c : Nat} {v : Value} {cs : Array Value} {m' m'' : Mem} (h : TreeI m W c v cs m') (he : Ext m' m'') : TreeI m W c v cs m'' :=
  ⟨h.low.trans_ext he (by have := h.sz; omega), by have := h.sz; have := he.1; omega, he.cells h.g, h.own.ext he, h.off, h.offs⟩
theorem TreeI.add {m : Mem} {W c : Nat} {v v' s : Value} {cs : Array Value} {m' M4 : Mem} {row : List Nat} (h : TreeI m W c v cs m') (hs : OwnF (m.size + 2) m' s (ofs row)) (hap : ∀ b, blkOf s = some b → blkOf v ≠ some b) (hrow : treeTo W (c + 1) = treeTo W c ++ [row])
    (hO : OwnC (m.size + 1) M4 v' 1 ((ofs2 (treeTo W c)).length + 1) (cs ++ #[s])) (hL : Low (m.size + 1) (m'.push (.cells true #[s])) M4) (hG : Grew (m'.push (.cells true #[s])) v M4 v') :
    Mem.get M4 (m.size + 1) = .cells true #[v] ∧ TreeI m W (c + 1) v' (cs ++ #[s]) (M4.setIfInBounds (m.size + 1) (.cells true #[v'])) := by
  have hsz := h.sz
  have hM4 := hG.1
  simp only [Array.size_push] at hM4
  have g4 : Mem.get M4 (m.size + 1) = .cells true #[v] := by rw [hG.2.1 _ (by simp; omega) h.off, gPn (by omega), h.g]
  have hgr := (h.own.ext (.push _ (.cells true #[s]))).grew ((hs.mono (Nat.le_succ _)).ext (.push _ _)) hap hG hO
  have hv' := hG.off h.off (by simp; omega)
  have hr' : ∀ (j : Nat) (u : Value), (cs ++ #[s])[j]? = some u → blkOf u ≠ some (m.size + 1) := fun j u hu => by
    by_cases hj : j < cs.size
    · rw [Array.getElem?_append_left hj] at hu; exact h.offs j u hu
    · rw [Array.getElem?_append_right (by omega)] at hu
      match hd : j - cs.size, hu with
      | 0, hu =>
        obtain rfl : s = u := Option.some.inj hu
        intro e; have := (hs.lt e).1; omega
      | d + 1, hu => simp at hu
  refine ⟨g4, ⟨?_, by simp; omega, gS rfl (live g4), ?_, hv', hr'⟩⟩
  · exact h.low.trans ((Low.push _ (by omega) _).trans (hL.trans (.set (Nat.le_refl _) _)))
  · rw [hrow, show ofs2 (treeTo W c ++ [row]) = ofs2 (treeTo W c) ++ [ofs row] by simp [ofs2]]
    exact hgr.set hv' hr' _
end Go.AM

/-! ### M29 -/
namespace Go.AM
set_option linter.unusedVariables false
set_option linter.unusedSimpArgs false
theorem stepE_keep {d y x d' : Nat} {es : List (Nat × Nat)} (h : lookE es x = some d') : lookE (stepE d y es) x = some d' := by
  unfold stepE; split
  · rw [lookE_append, h]; rfl
  · exact h
theorem stepE_has (d y : Nat) (es : List (Nat × Nat)) : ∃ d', lookE (stepE d y es) y = some d' ∧ (d' = d ∨ (y, d') ∈ es) := by
  unfold stepE; split
  · rename_i h
    exact ⟨d, by rw [lookE_append, h, lookE_cons, if_pos rfl]; rfl, .inl rfl⟩
  · rename_i h
    match h1 : lookE es y with
    | none => exact absurd h1 h
    | some d' => exact ⟨d', rfl, .inr (lookE_mem h1)⟩
theorem roundE_keep {P : List Nat} {k x d y d' : Nat} {es : List (Nat × Nat)} (h : lookE es y = some d') : ∀ n, lookE (roundE P k x d n es) y = some d'
  | 0 => h
  | n + 1 => by
    rw [roundE]; split
    · exact stepE_keep (roundE_keep h n)
    · exact roundE_keep h n
structure Bd (D : Nat) (es : List (Nat × Nat)) : Prop where
  sort : es.Pairwise fun p q => p.2 ≤ q.2
  top : ∀ q ∈ es, q.2 ≤ D + 1
theorem Bd.step {D y : Nat} {es : List (Nat × Nat)} (h : Bd D es) : Bd D (stepE (D + 1) y es) := by
  unfold stepE; split
  · refine ⟨List.pairwise_append.2 ⟨h.sort, List.pairwise_singleton _ _, fun p hp q hq => ?_⟩, fun q hq => ?_⟩
    · rw [List.mem_singleton.1 hq]; exact h.top p hp
    · rcases List.mem_append.1 hq with hq | hq
      · exact h.top q hq
      · rw [List.mem_singleton.1 hq]; exact Nat.le_refl _
  · exact h
theorem Bd.round {P : List Nat} {k x D : Nat} {es : List (Nat × Nat)} (h : Bd D es) : ∀ n, Bd D (roundE P k x D n es)
  | 0 => h
  | n + 1 => by
    rw [roundE]; split
    · exact (Bd.round h n).step
    · exact Bd.round h n
theorem roundE_has {P : List Nat} {k x D : Nat} {es : List (Nat × Nat)} (h : Bd D es) : ∀ n m, m < n → wayB P k x m = true → ∃ d', lookE (roundE P k x D n es) (x ^^^ 2 ^ m) = some d' ∧ d' ≤ D + 1
  | 0, m, hm, _ => by omega
  | n + 1, m, hm, hw => by
    rw [roundE]
    by_cases e : m = n
    · subst e
      rw [if_pos hw]
      obtain ⟨d', h1, h2⟩ := stepE_has (D + 1) (x ^^^ 2 ^ m) (roundE P k x D m es)
      refine ⟨d', h1, ?_⟩
      rcases h2 with rfl | h2
      · exact Nat.le_refl _
      · exact (h.round m).top _ h2
    · obtain ⟨d', h1, h2⟩ := roundE_has h n m (by omega) hw
      refine ⟨d', ?_, h2⟩
      split
      · exact stepE_keep h1
      · exact h1
/-- The entries ahead of a place have all their neighbours; the entries rise. -/
structure Que (P : List Nat) (k i : Nat) (es : List (Nat × Nat)) : Prop where
  sort : es.Pairwise fun p q => p.2 ≤ q.2
  top : ∀ p, es[i]? = some p → ∀ q ∈ es, q.2 ≤ p.2 + 1
  done : ∀ (j : Nat) (p : Nat × Nat), j < i → es[j]? = some p → ∀ n, n < P.length → wayB P k p.1 n = true → ∃ d, lookE es (p.1 ^^^ 2 ^ n) = some d ∧ d ≤ p.2 + 1
theorem Que.far {P : List Nat} {k : Nat} (hP : P.length ≤ 10) : ∀ (f i : Nat) {es : List (Nat × Nat)}, GoodE P.length es → Que P k i es → f + i = 1025 → i ≤ es.length → Que P k (farF P k f i es).length (farF P k f i es)
  | 0, i, es, hg, hq, hf, hi => by
    have := hg.length
    have := Nat.pow_le_pow_right (n := 2) (by omega) hP
    omega
  | f + 1, i, es, hg, hq, hf, hi => by
    rw [farF]
    split
    · rename_i hn
      have : es.length = i := by rw [List.getElem?_eq_none_iff] at hn; omega
      subst this
      exact hq
    · rename_i p hp
      have hil := (List.getElem?_eq_some_iff.1 hp).1
      have hb : Bd p.2 es := ⟨hq.sort, hq.top p hp⟩
      have hb' := hb.round (P := P) (k := k) (x := p.1) P.length
      have hp2 : p.2 < es.length := by have := hg.low i p hp; omega
      refine Que.far hP f (i + 1) (hg.round (hg.lt p (List.mem_of_getElem? hp)) hp2 _ (Nat.le_refl _)) ⟨hb'.sort, fun p' hp' q hq' => ?_, fun j r hj hr n hn hw => ?_⟩ (by omega) (by have := roundE_len P k p.1 p.2 es P.length; omega)
      · have h1 := hb'.top q hq'
        have h2 := roundE_get (P := P) (k := k) (x := p.1) (d := p.2) hp P.length
        obtain ⟨hl, he⟩ := List.getElem?_eq_some_iff.1 hp'
        obtain ⟨hl2, he2⟩ := List.getElem?_eq_some_iff.1 h2
        have h3 := List.pairwise_iff_getElem.1 hb'.sort i (i + 1) hl2 hl (by omega)
        rw [he, he2] at h3
        omega
      · by_cases e : j = i
        · subst e
          have h2 := roundE_get (P := P) (k := k) (x := p.1) (d := p.2) hp P.length
          rw [h2] at hr
          obtain rfl := Option.some.inj hr
          exact roundE_has hb P.length n hn hw
        · have h0 : es[j]? = some r := by
            have h2 := roundE_get (P := P) (k := k) (x := p.1) (d := p.2) (List.getElem?_eq_getElem (show j < es.length by omega)) P.length
            rw [h2] at hr
            rw [List.getElem?_eq_getElem (by omega)]; exact hr
          obtain ⟨d, h1, h3⟩ := hq.done j r (by omega) h0 n hn hw
          exact ⟨d, roundE_keep h1 _, h3⟩
end Go.AM

/-! ### G4 -/
namespace Go.AM
open Go.Proofs
set_option maxRecDepth 100000
set_option linter.unusedVariables false
set_option linter.unusedSimpArgs false
theorem bitB (x u : Nat) : decide (x >>> u &&& 1 = 1) = x.testBit u := by
  by_cases h : x.testBit u = true
  · rw [h, decide_eq_true ((bit_one x u).2 h)]
  · rw [Bool.eq_false_iff.2 h, decide_eq_false (fun e => h ((bit_one x u).1 e))]
end Go.AM

/-! ### S6 -/
namespace Go.AM
open Go.Proofs
set_option maxRecDepth 100000
set_option linter.unusedVariables false
set_option linter.unusedSimpArgs false
theorem cut_own {N : Nat} {m : Mem} {v : Value} {L : List Nat} {k : Nat} (h : OwnF N m v (ofs L)) (hk : k ≤ L.length) : ∃ v2, aSlice Tryd.prog m 22 v none (some (nv k)) none = some v2 ∧ OwnF N m v2 (ofs (L.take k)) ∧ (∃ q c, v2 = .slice q (L.take k).length c) := by
  rcases h with ⟨h1, rfl⟩ | ⟨b, cap, c, rfl, h2, h3, h4, h5, h6⟩
  · obtain rfl : L = [] := by cases L with
      | nil => rfl
      | cons a r => simp [ofs] at h1
    obtain rfl : k = 0 := by simpa using hk
    exact ⟨.slice none 0 0, by simp only [aSlice, T22, S3, aBounds]; rfl, .nil _ _, _, _, rfl⟩
  · have hkc : k ≤ cap := by rw [ofs_length] at h4; omega
    refine ⟨_, aSlice_hi T22 S3 hkc, .inr ⟨b, cap, c, by rw [ofs_length, List.length_take, Nat.min_eq_left hk], h2, h3, by rw [ofs_length, List.length_take]; omega, h5, fun i x hx => h6 i x ?_⟩, _, _, by rw [List.length_take, Nat.min_eq_left hk]⟩
    simp only [ofs, List.map_take, List.getElem?_take] at hx
    split at hx
    · exact hx
    · cases hx
theorem Sorted2.low {N : Nat} {v : Value} {L : List Nat} {m m' : Mem} (h : Sorted2 N v L m m') : Low N m m' := ⟨by rw [h.2.1]; exact Nat.le_refl _, fun c hc => h.2.2 c fun e => by have := (h.1.lt e).1; omega⟩
theorem OwnR.lowx {N b : Nat} {m m' : Mem} {v : Value} {cs : Array Value} {G : List (List Int)} (h : OwnR N m v cs G) (hx : LowX m.size b m m') (hb : b < N) : OwnR N m' v cs G := h.up fun c h1 h2 => hx.2 c h2 (by omega)
/-- A graph that can be read whatever is done to a store. -/
def Steady (m : Mem) (b : Nat) (s : Value) (G : List (List Int)) : Prop := ∀ m', LowX m.size b m m' → RowsAt m' s G
theorem Steady.next {m m2 : Mem} {b : Nat} {s : Value} {G : List (List Int)} (h : Steady m b s G) (hx : LowX m.size b m m2) : Steady m2 b s G := fun m' h' => h m' (hx.trans ⟨h'.1, fun c h1 h2 => h'.2 c (by have := hx.1; omega) h2⟩)
end Go.AM

/-! ### P24 -/
namespace Go.AM
open Go.Proofs
set_option maxRecDepth 100000
set_option linter.unusedVariables false
set_option linter.unusedSimpArgs false
/-- What wiping leaves. -/
def Wipe (N M : Nat) (m m' : Mem) : Prop := m'.size = m.size ∧ (∀ b, b < N ∨ M ≤ b → Mem.get m' b = Mem.get m b) ∧ ∀ b c, Mem.get m b = .cells true c → ∃ c', Mem.get m' b = .cells true c' ∧ c'.size = c.size
theorem Wipe.refl (N M : Nat) (m : Mem) : Wipe N M m m := ⟨rfl, fun _ _ => rfl, fun b c h => ⟨c, h, rfl⟩⟩
theorem Wipe.trans {N M : Nat} {a b c : Mem} (h : Wipe N M a b) (h' : Wipe N M b c) : Wipe N M a c := ⟨h'.1.trans h.1, fun i hi => (h'.2.1 i hi).trans (h.2.1 i hi), fun i x hx => by
  obtain ⟨y, hy, e⟩ := h.2.2 i x hx
  obtain ⟨z, hz, e'⟩ := h'.2.2 i y hy
  exact ⟨z, hz, e'.trans e⟩⟩
theorem Wipe.low {N M : Nat} {m m' : Mem} (h : Wipe N M m m') : Low N m m' := ⟨by rw [h.1]; exact Nat.le_refl _, fun b hb => h.2.1 b (.inl hb)⟩
end Go.AM

/-! ### P27 -/
namespace Go.AM
open Go.Proofs
set_option maxRecDepth 100000
set_option linter.unusedVariables false
set_option linter.unusedSimpArgs false
end Go.AM

/-! ### P28 -/
namespace Go.AM
open Go.Proofs
set_option maxRecDepth 100000
set_option linter.unusedVariables false
set_option linter.unusedSimpArgs false
end Go.AM

/-! ### P28L -/
namespace Go.AM
open Go.Proofs
set_option maxRecDepth 100000
end Go.AM

/-! ### P34 -/
namespace Go.AM
open Go.Proofs
set_option maxRecDepth 100000
set_option linter.unusedVariables false
set_option linter.unusedSimpArgs false
end Go.AM

/-! ### P35 -/
namespace Go.AM
open Go.Proofs
set_option maxRecDepth 100000
set_option linter.unusedVariables false
set_option linter.unusedSimpArgs false
end Go.AM

/-! ### P36 -/
namespace Go.AM
open Go.Proofs
set_option maxRecDepth 100000
set_option linter.unusedVariables false
set_option linter.unusedSimpArgs false
/-- What holds while gates are spoiled. -/
def SpI (N : Nat) (v : Value) (m m' : Mem) : Prop := (m.size + 1 ≤ m'.size ∧ ∀ b, b < N → Mem.get m' b = Mem.get m b) ∧ (∀ b, blkOf v = some b → Mem.get m' b = Mem.get m b) ∧ ∀ b c, b < m.size → Mem.get m b = .cells true c → ∃ c', Mem.get m' b = .cells true c' ∧ c'.size = c.size
theorem SpI.next {N : Nat} {v : Value} {m m' m2 : Mem} {o : AObj} (h : SpI N v m m') (hN : N ≤ m.size) (hv : ∀ b, blkOf v = some b → b < m.size) (hw : Wipe N m.size (m'.push o) m2) (hk : ∀ b, blkOf v = some b → Mem.get m2 b = Mem.get (m'.push o) b) : SpI N v m m2 := by
  obtain ⟨⟨h1, h2⟩, h3, h4⟩ := h
  refine ⟨⟨by rw [hw.1]; simp; omega, fun b hb => ?_⟩, fun b hb => ?_, fun b c hb hc => ?_⟩
  · rw [hw.2.1 b (.inl hb), gPn (by omega)]; exact h2 b hb
  · have := hv b hb
    rw [hk b hb, gPn (by omega)]; exact h3 b hb
  · obtain ⟨c1, hc1, e1⟩ := h4 b c hb hc
    obtain ⟨c2, hc2, e2⟩ := hw.2.2 b c1 ((gPn (by omega)).trans hc1)
    exact ⟨c2, hc2, e2.trans e1⟩
end Go.AM

/-! ### Q0 -/
namespace Go.AM
open Go.Proofs
set_option maxRecDepth 100000
set_option linter.unusedVariables false
theorem nodup_le {l : List Nat} {n : Nat} (h : l.Nodup) (hl : ∀ x ∈ l, x < n) : l.length ≤ n := by
  have := h.length_le_of_subset (l₂ := List.range n) fun x hx => List.mem_range.2 (hl x hx)
  rwa [List.length_range] at this
theorem T129 : undOf Tryd.prog 129 = some (.map 3 127) := by kernel_rfl
theorem Z127 : zeroOf Tryd.prog 127 = some (.agg #[nv 0, .nilFunc]) := by kernel_rfl
theorem S127 : szOf Tryd.prog 127 = some 2 := by kernel_rfl
theorem A129 : isAggT Tryd.prog 129 = some false := by kernel_rfl
theorem F157_0 {b o : Nat} : aFieldAddr Tryd.prog 157 (.pointer (some ⟨b, o, none⟩)) 0 = some (.pointer (some ⟨b, o, none⟩)) := by kernel_rfl
theorem B140 {a b c d : Nat} {q : Option Addr} : aBuild Tryd.prog 157 [(0, .agg #[nv a, nv b, .slice q c d])] = some (.agg #[nv a, nv b, .slice q c d, .nilFunc]) := by kernel_rfl
theorem call155 : callable Tryd.prog 155 = true := by kernel_rfl
theorem call39 : callable Tryd.prog 39 = true := by kernel_rfl
theorem call46 : callable Tryd.prog 46 = true := by kernel_rfl
theorem call73 : callable Tryd.prog 73 = true := by kernel_rfl
theorem call45 : callable Tryd.prog 45 = true := by kernel_rfl
theorem call97 : callable Tryd.prog 97 = true := by kernel_rfl
theorem call102 : callable Tryd.prog 102 = true := by kernel_rfl
theorem call103 : callable Tryd.prog 103 = true := by kernel_rfl
theorem call104 : callable Tryd.prog 104 = true := by kernel_rfl
theorem call100 : callable Tryd.prog 100 = true := by kernel_rfl
theorem call32 : callable Tryd.prog 32 = true := by kernel_rfl
theorem call101 : callable Tryd.prog 101 = true := by kernel_rfl
theorem call137 : callable Tryd.prog 137 = true := by kernel_rfl
theorem call130 : callable Tryd.prog 130 = true := by kernel_rfl
theorem call136 : callable Tryd.prog 136 = true := by kernel_rfl
theorem call93 : callable Tryd.prog 93 = true := by kernel_rfl
theorem call149 : callable Tryd.prog 149 = true := by kernel_rfl
theorem call152 : callable Tryd.prog 152 = true := by kernel_rfl
theorem call153 : callable Tryd.prog 153 = true := by kernel_rfl
theorem call154 : callable Tryd.prog 154 = true := by kernel_rfl
theorem call161 : callable Tryd.prog 161 = true := by kernel_rfl
theorem call76 : callable Tryd.prog 76 = true := by kernel_rfl
theorem call129 : callable Tryd.prog 129 = true := by kernel_rfl
end Go.AM

/-! ### Q1 -/
namespace Go.AM
open Go.Proofs
set_option maxRecDepth 100000
set_option linter.unusedVariables false
set_option linter.unusedSimpArgs false
theorem okf73 : okF Tryd.prog H0 73 19 = true := by kernel_rfl
theorem spec_Index {m : Mem} {a : Value} {l : List Nat} {x : Nat} (ha : IntsAt m a (ofs l)) (hl : l.length < 1000000) : ∃ i : Int, ACalls Tryd.prog 73 #[a, nv x] m (.int .i64 i) m ∧ (0 ≤ i ↔ x ∈ l) := by
  suffices h : ∃ v m', ACalls Tryd.prog 73 #[a, nv x] m v m' ∧ (∃ i : Int, v = .int .i64 i ∧ m' = m ∧ (0 ≤ i ↔ x ∈ l)) by
    obtain ⟨v, m', h, i, rfl, rfl, h2⟩ := h; exact ⟨i, h, h2⟩
  obtain ⟨q, cap, rfl⟩ := ha.lenN
  refine wpF (args := [_, _]) mixed okf73 (fn := Tryd.f73) rfl rfl rfl (by simp) ?_
  refine cSeq ?_
  refine cRegion ?_
  refine sAs (v := nv 0) rfl ?_
  refine sNil (kSeqN ?_)
  refine cSeq ?_
  refine cSeq ?_
  refine cRegion ?_
  refine sMv (v := .slice _ _ _) rfl ?_
  refine sLen T22 rfl ?_
  refine sMv (v := nv 0) rfl ?_
  refine sNil (kSeqN ?_)
  refine cBlock ?_
  refine wpC_loop (fun k ρ m' => ∃ i, k = l.length - i ∧ i ≤ l.length ∧ (∀ j, j < i → l[j]? ≠ some x) ∧ m = m' ∧ Has ρ [(0, .slice q l.length cap), (1, nv x), (7, nv l.length), (8, nv i)]) ⟨0, rfl, by omega, by omega, rfl, rfl, rfl, rfl, rfl, trivial⟩ ?_
  rintro k ρ _ ⟨i, rfl, hi, hr, rfl, hh⟩
  rw [hh.env]; clear hh
  refine cSeq ?_
  refine cRegion ?_
  refine sBin rfl rfl (aInt_lss) ?_
  refine sNil (kSeqN ?_)
  refine cSeq ?_   -- seq 4
  refine cCond rfl (fun c0 => ?_) (fun c0 => ?_)
  ·
    obtain ⟨b1, o1, p1, r1, cc, e1, g1, x1⟩ := ha.atN (by omega)
    cases e1
    refine cSkip (kSeqN ?_)
    refine cSeq ?_
    refine cBlock ?_
    refine cSeq ?_
    refine cRegion ?_
    refine sMv (v := nv _) rfl ?_
    refine sAs (v := nv _) rfl ?_
    refine sNil (kSeqN ?_)
    refine cSeq ?_
    refine cRegion ?_
    refine sMv (v := nv _) rfl ?_
    refine sMv (v := .slice _ _ _) rfl ?_
    refine sMv (v := nv _) rfl ?_
    refine sIx T22 S3 rfl rfl (by omega) ?_
    refine sLd (v := nv l[i]) A3 rfl g1 (x1 i l[i] (by simp)) ?_
    refine sBin (a := x) (b := l[i]) rfl rfl aInt_eql ?_
    refine sNil (kSeqN ?_)
    refine cCond rfl (fun c1 => ?_) (fun c1 => ?_)
    ·
      refine cSeq ?_
      refine cRegion ?_
      refine sMv (v := nv _) rfl ?_
      refine sAs (v := nv _) rfl ?_
      refine sNil (kSeqN ?_)
      refine cRet (kBlkR (kSeqR (kSeqR (kBlkR (kSeqR ?_)))))
      have hm : x ∈ l := by have := List.getElem_mem c0; rwa [← c1] at this
      exact ⟨.inr rfl, _, rfl, Int.ofNat i, rfl, rfl, ⟨fun _ => hm, fun _ => by simp⟩⟩
    ·
      refine cSkip (kBlkN (kSeqN ?_))
      refine cRegion ?_
      refine sBin rfl rfl (aInt_add (b := 1) (by omega)) ?_
      refine sMv (v := nv _) rfl ?_
      refine sNil (kSeqN ?_)
      refine ⟨_, ?_, i + 1, rfl, by omega, fun j hj e => ?_, rfl, rfl, rfl, rfl, rfl, trivial⟩
      · omega
      · by_cases h : j = i
        · subst h
          rw [List.getElem?_eq_getElem c0] at e
          exact c1 (Option.some.inj e).symm
        · exact hr j (by omega) e
  ·
    refine cExit (kSeqE (kSeqE (kBlkS (kSeqN ?_))))
    refine cSeq ?_
    refine cRegion ?_
    refine sAs (v := .int .i64 (-1)) rfl ?_
    refine sNil (kSeqN ?_)
    refine cRet ?_
    have hm : ¬ x ∈ l := fun h => by
      obtain ⟨j, hj, e⟩ := List.getElem_of_mem h
      exact hr j (by omega) (by rw [List.getElem?_eq_getElem hj, e])
    exact ⟨.inr rfl, _, rfl, -1, rfl, rfl, ⟨fun h => by omega, fun h => absurd h hm⟩⟩
theorem okf155 : okF Tryd.prog H0 155 9 = true := by kernel_rfl
theorem spec_Contains {m : Mem} {a : Value} {l : List Nat} {x : Nat} (ha : IntsAt m a (ofs l)) (hl : l.length < 1000000) : ACalls Tryd.prog 155 #[a, nv x] m (.bool (decide (x ∈ l))) m := by
  suffices h : ∃ v m', ACalls Tryd.prog 155 #[a, nv x] m v m' ∧ (v = .bool (decide (x ∈ l)) ∧ m' = m) by
    obtain ⟨v, m', h, rfl, rfl⟩ := h; exact h
  obtain ⟨q, cap, rfl⟩ := ha.lenN
  obtain ⟨i, hi, hm⟩ := spec_Index ha hl (x := x)
  refine wpF (args := [_, _]) mixed okf155 (fn := Tryd.f155) rfl rfl rfl (by simp) ?_
  refine cSeq ?_
  refine cRegion ?_
  refine sAs (v := .bool _) rfl ?_
  refine sNil (kSeqN ?_)
  refine cSeq ?_
  refine cRegion ?_
  refine sMv (v := .slice _ _ _) rfl ?_
  refine sMv (v := nv _) rfl ?_
  refine sCall2 rfl call73 rfl rfl hi ?_
  refine sBinI (v := .bool (decide (x ∈ l))) (a := i) (b := 0) rfl rfl (by rw [aInt_geqI]; congr 2; exact decide_eq_decide.2 hm) ?_
  refine sAs (v := .bool _) rfl ?_
  refine sNil (kSeqN ?_)
  refine cRet ?_
  exact ⟨.inr rfl, _, rfl, rfl, rfl⟩
theorem okf153 : okF Tryd.prog H0 153 20 = true := by kernel_rfl
theorem spec_Arity {m : Mem} {k a : Nat} (h : (k = 1 ∧ a = 1) ∨ (k = 9 ∧ a = 2) ∨ (k = 12 ∧ a = 3)) : ACalls Tryd.prog 153 #[nv k] m (nv a) m := by
  refine ACalls.callee ?_
  refine wpF (args := [_]) mixed okf153 (fn := Tryd.f153) rfl rfl rfl (by simp) ?_
  refine cSeq ?_
  refine cRegion ?_
  refine sAs (v := nv 0) rfl ?_
  refine sNil (kSeqN ?_)
  refine cSeq ?_
  refine cBlock ?_
  refine cSeq ?_
  refine cRegion ?_
  refine sMv (v := nv _) rfl ?_
  refine sBin (b := 12) rfl rfl aInt_eql ?_
  refine sAs (v := .bool _) rfl ?_
  refine sNil (kSeqN ?_)
  refine cCond rfl (fun c0 => ?_) (fun c0 => ?_)
  ·
    obtain rfl : a = 3 := by omega
    refine cSeq ?_
    refine cRegion ?_
    refine sAs (v := nv 3) rfl ?_
    refine sNil (kSeqN ?_)
    refine cRet (kBlkR (kSeqR ?_))
    exact ⟨.inr rfl, _, rfl, rfl, rfl⟩
  ·
    refine cSeq ?_
    refine cRegion ?_
    refine sMv (v := nv _) rfl ?_
    refine sBin (b := 9) rfl rfl aInt_geq ?_
    refine sMv (v := .bool _) rfl ?_
    by_cases h9 : 9 ≤ k
    ·
      rw [decide_eq_true h9]
      have e9 : k = 9 ∧ a = 2 := by omega
      refine sG rfl rfl ?_
      refine sMv (v := nv _) rfl ?_
      refine sG rfl rfl ?_
      refine sBin (v := .bool true) (a := k) (b := 11) rfl rfl (by rw [aInt_leq, decide_eq_true (by omega)]) ?_
      refine sP (v := .bool _) rfl ?_
      refine sAs (v := .bool _) rfl ?_
      refine sNil (kSeqN ?_)
      refine cCondT rfl ?_
      refine cSeq ?_
      refine cRegion ?_
      refine sAs (v := nv 2) rfl ?_
      refine sNil (kSeqN ?_)
      refine cRet (kBlkR (kSeqR ?_))
      exact ⟨.inr rfl, _, rfl, (by rw [e9.2]; rfl), rfl⟩
    ·
      rw [decide_eq_false h9]
      have e1 : k = 1 ∧ a = 1 := by omega
      refine sGno (q' := false) rfl rfl (by simp) ?_
      refine sGno (q' := false) rfl rfl (by simp) ?_
      refine sP (v := .bool _) rfl ?_
      refine sAs (v := .bool _) rfl ?_
      refine sNil (kSeqN ?_)
      refine cCondF rfl ?_
      refine cSeq ?_
      refine cRegion ?_
      refine sMv (v := nv _) rfl ?_
      refine sBin (v := .bool true) (a := k) (b := 1) rfl rfl (by rw [aInt_geq, decide_eq_true (by omega)]) ?_
      refine sMv (v := .bool _) rfl ?_
      refine sG rfl rfl ?_
      refine sMv (v := nv _) rfl ?_
      refine sG rfl rfl ?_
      refine sBin (v := .bool true) (a := k) (b := 14) rfl rfl (by rw [aInt_leq, decide_eq_true (by omega)]) ?_
      refine sP (v := .bool true) rfl ?_
      refine sAs (v := .bool _) rfl ?_
      refine sNil (kSeqN ?_)
      refine cCondT rfl ?_
      refine cSeq ?_
      refine cRegion ?_
      refine sAs (v := nv 1) rfl ?_
      refine sNil (kSeqN ?_)
      refine cRet (kBlkR (kSeqR ?_))
      exact ⟨.inr rfl, _, rfl, (by rw [e1.2]; rfl), rfl⟩
end Go.AM

/-! ### Q2 -/
namespace Go.AM
open Go.Proofs
set_option maxRecDepth 100000
set_option linter.unusedVariables false
set_option linter.unusedSimpArgs false
/-- A right gate of a game's circuit on n wires. -/
structure GateOk (n : Nat) (g : Nat × List Nat) : Prop where
  kind : (g.1 = 1 ∧ g.2.length = 1) ∨ (g.1 = 9 ∧ g.2.length = 2) ∨ (g.1 = 12 ∧ g.2.length = 3)
  lt : ∀ w ∈ g.2, w < n
  once : g.2.Nodup
structure CircOk (n : Nat) (Gs : List (Nat × List Nat)) : Prop where
  one : 1 ≤ n
  ten : n ≤ 10
  few : Gs.length ≤ 120
  all : ∀ g ∈ Gs, GateOk n g
theorem quad_at {c : Array Value} {i : Nat} {a b d e : Value} (h1 : c[i * 4]? = some a) (h2 : c[i * 4 + 1]? = some b) (h3 : c[i * 4 + 2]? = some d) (h4 : c[i * 4 + 3]? = some e) : c.extract (0 + i * 4) (0 + i * 4 + 4) = #[a, b, d, e] := by
  have hs := (Array.getElem?_eq_some_iff.1 h4).1
  apply Array.ext_getElem?
  intro j
  rw [Array.getElem?_extract]
  match j with
  | 0 => rw [if_pos (by omega)]; simpa using h1
  | 1 => rw [if_pos (by omega)]; simpa using h2
  | 2 => rw [if_pos (by omega)]; simpa using h3
  | 3 => rw [if_pos (by omega)]; simpa using h4
  | j + 4 => rw [if_neg (by omega)]; rfl
/-- One gate, where it lies. -/
theorem OwnG.gate {N : Nat} {m : Mem} {v : Value} {cs : Array Value} {Gs : List (Nat × List Nat)} (h : OwnG N m v cs Gs) {i : Nat} {g : Nat × List Nat} (hi : Gs[i]? = some g) :
    ∃ b cap c ws, v = .slice (some ⟨b, 0, some 4⟩) Gs.length cap ∧ Mem.get m b = .cells true c ∧ i * 4 + 4 ≤ c.size ∧ c.extract (0 + i * 4) (0 + i * 4 + 4) = #[nv g.1, ws, nv 0, nv 0] ∧ OwnF N m ws (ofs g.2) := by
  have hl := (List.getElem?_eq_some_iff.1 hi).1
  obtain ⟨b, cap, c, rfl, hN, hb, hsz, hc⟩ := h.1.at (by omega)
  obtain ⟨ws, h1, h2, h3, h4, ho, _⟩ := h.2 i g hi
  rw [← hc _ (by omega)] at h1 h2 h3 h4
  exact ⟨b, cap, c, ws, rfl, hb, by omega, quad_at h1 h2 h3 h4, ho⟩
theorem okf152 : okF Tryd.prog H0 152 13 = true := by kernel_rfl
theorem spec_wire {m : Mem} {p n : Nat} {r : Bool} {a b d : Value} {x : Int} (h : Mem.get m p = .cells r #[nv n, a, b, d]) : ACalls Tryd.prog 152 #[.int .i64 x, .pointer (some ⟨p, 0, none⟩)] m (.bool (decide (0 ≤ x) && decide (x < Int.ofNat n))) m := by
  refine ACalls.callee ?_
  refine wpF (args := [_, _]) mixed okf152 (fn := Tryd.f152) rfl rfl rfl (by simp) ?_
  refine cSeq ?_
  refine cRegion ?_
  refine sAs (v := .bool _) rfl ?_
  refine sNil (kSeqN ?_)
  refine cSeq ?_
  refine cRegion ?_
  refine sMv (v := .int _ _) rfl ?_
  refine sBinI (v := .bool (decide (0 ≤ x))) (b := 0) rfl rfl aInt_geqI ?_
  refine sMv (v := .bool _) rfl ?_
  by_cases h1 : 0 ≤ x
  ·
    rw [decide_eq_true h1]
    refine sG rfl rfl ?_
    refine sMv (v := .int _ _) rfl ?_
    refine sG rfl rfl ?_
    refine sFA F157_0 rfl ?_
    refine sG rfl rfl ?_
    refine sFA F30_0 rfl ?_
    refine sG rfl rfl ?_
    refine sLd (v := nv n) A3 rfl h rfl ?_
    refine sG rfl rfl ?_
    refine sBinI (v := .bool (decide (x < Int.ofNat n))) rfl rfl aInt_lssI ?_
    refine sP (v := .bool _) rfl ?_
    refine sAs (v := .bool _) rfl ?_
    refine sNil (kSeqN ?_)
    refine cRet ?_
    exact ⟨.inr rfl, _, rfl, rfl, rfl⟩
  ·
    rw [decide_eq_false h1]
    refine sGno (q' := false) rfl rfl (by simp) ?_
    refine sGno (q' := false) rfl rfl (by simp) ?_
    refine sGno (q' := false) rfl rfl (by simp) ?_
    refine sGno (q' := false) rfl rfl (by simp) ?_
    refine sGno (q' := false) rfl rfl (by simp) ?_
    refine sP (v := .bool _) rfl ?_
    refine sAs (v := .bool _) rfl ?_
    refine sNil (kSeqN ?_)
    refine cRet ?_
    exact ⟨.inr rfl, _, rfl, rfl, rfl⟩
theorem okf161 : okF Tryd.prog H0 161 8 = true := by kernel_rfl
theorem spec_every1 {m : Mem} {p : Nat} {r : Bool} {g : FuncId} {cp : Array Value} {x : Int} {y : Bool} (h : Mem.get m p = .cells r #[.func (.func g) #[] cp]) (hk : callable Tryd.prog g = true) (hc : ACalls Tryd.prog g (#[.int .i64 x] ++ cp) m (.bool y) m) : ACalls Tryd.prog 161 #[.int .i64 x, .pointer (some ⟨p, 0, none⟩)] m (.bool (!y)) m := by
  refine ACalls.callee ?_
  refine wpF (args := [_, _]) mixed okf161 (fn := Tryd.f161) rfl rfl rfl (by simp) ?_
  refine cSeq ?_
  refine cRegion ?_
  refine sAs (v := .bool _) rfl ?_
  refine sNil (kSeqN ?_)
  refine cSeq ?_
  refine cRegion ?_
  refine sLd (v := .func (.func g) #[] cp) A131 rfl h rfl ?_
  refine sMv (v := .int _ _) rfl ?_
  refine sCall rfl hk (by simpa [evR, updO] using hc) ?_
  refine sP (v := .bool (!y)) rfl ?_
  refine sAs (v := .bool _) rfl ?_
  refine sNil (kSeqN ?_)
  refine cRet ?_
  exact ⟨.inr rfl, _, rfl, rfl, rfl⟩
theorem okf154 : okF Tryd.prog H0 154 9 = true := by kernel_rfl
theorem spec_every {m : Mem} {a : Value} {l : List Int} {g : FuncId} {cp : Array Value} {p : Int → Bool} (ha : IntsAt m a l) (hl : l.length < 1000000) (hk : callable Tryd.prog g = true) (hp : ∀ x ∈ l, ∀ m', Ext m m' → ACalls Tryd.prog g (#[.int .i64 x] ++ cp) m' (.bool (p x)) m') : ∃ v m', ACalls Tryd.prog 154 #[a, .func (.func g) #[] cp] m v m' ∧ (v = .bool (l.all p) ∧ Ext m m') := by
  obtain ⟨q, cap, rfl⟩ := ha.len
  have he : Ext m (m.push (.cells true #[.func (.func g) #[] cp])) := .push _ _
  refine wpF (args := [_, _]) mixed okf154 (fn := Tryd.f154) rfl rfl rfl (by simp) ?_
  refine cSeq ?_
  refine cRegion ?_
  refine sBox (v := .func (.func g) #[] cp) rfl ?_
  change wpOps _ _ _ _ _ (m.push (.cells true #[.func (.func g) #[] cp]))
  refine sAs (v := .bool _) rfl ?_
  refine sNil (kSeqN ?_)
  refine cSeq ?_
  refine cRegion ?_
  refine sMv (v := .slice _ _ _) rfl ?_
  refine sMFc1 rfl ?_
  have h7 := spec_ContainsFunc (m := m.push (.cells true #[.func (.func g) #[] cp])) (p := fun x => !p x) (ha.ext he) (by omega) call161 (cp := #[.pointer (some ⟨m.size, 0, none⟩)]) fun x hx => spec_every1 (gP rfl) hk (hp x hx _ he)
  refine sCall rfl call107 (by simpa [evR, updO] using h7) ?_
  refine sP (v := .bool (!(l.any fun x => !p x))) rfl ?_
  refine sAs (v := .bool _) rfl ?_
  refine sNil (kSeqN ?_)
  refine cRet ?_
  refine ⟨.inr rfl, _, rfl, ?_, he⟩
  have : (!(l.any fun x => !p x)) = l.all p := by rw [List.all_eq_not_any_not]
  rw [← this]; rfl
def H88 : Nat → List (Nat × Nat) := fun id => if id = 4 then [(1,6),(2,6)] else []
theorem okf136 : okF Tryd.prog H88 136 96 = true := by kernel_rfl
theorem spec_gate {m : Mem} {N n : Nat} {sl ws d : Value} {g : Nat × List Nat} (hg : GateOk n g) (hn : n ≤ 10) (hw : OwnF N m ws (ofs g.2)) : ∃ v m', ACalls Tryd.prog 136 #[.agg #[nv n, nv 0, sl, d], .agg #[nv g.1, ws, nv 0, nv 0]] m v m' ∧ (v = nv 0 ∧ Ext m m') := by
  obtain ⟨k, w⟩ := g
  obtain ⟨hk, hlt, hnd⟩ := hg
  simp only at hk hlt hnd hw
  obtain ⟨qw, cw, rfl⟩ := hw.ints.lenN
  have hl : w.length ≤ 3 := by omega
  have ex : Ext m ((m.push (.cells true #[nv n, nv 0, sl, d])).push (.cells true #[nv k, .slice qw w.length cw, nv 0, nv 0])) := (Ext.push _ _).trans (.push _ _)
  have g1 : Mem.get ((m.push (.cells true #[nv n, nv 0, sl, d])).push (.cells true #[nv k, .slice qw w.length cw, nv 0, nv 0])) m.size = .cells true #[nv n, nv 0, sl, d] := by rw [gPn (by simp), gP rfl]
  have g2 : Mem.get ((m.push (.cells true #[nv n, nv 0, sl, d])).push (.cells true #[nv k, .slice qw w.length cw, nv 0, nv 0])) (m.size + 1) = .cells true #[nv k, .slice qw w.length cw, nv 0, nv 0] := gP (by simp)
  refine wpF (args := [_, _]) mixed okf136 (fn := Tryd.f136) rfl rfl rfl (by simp) ?_
  refine cSeq ?_
  refine cRegion ?_
  refine sBox (v := .agg _) rfl ?_
  refine sBoxB (bl := m.size + 1) (v := .agg _) (by simp) rfl ?_
  change wpOps _ _ _ _ _ ((m.push (.cells true #[nv n, nv 0, sl, d])).push (.cells true #[nv k, .slice qw w.length cw, nv 0, nv 0]))
  generalize ((m.push (.cells true #[nv n, nv 0, sl, d])).push (.cells true #[nv k, .slice qw w.length cw, nv 0, nv 0])) = M at *
  refine sAs (v := nv 0) rfl ?_
  refine sNil (kSeqN ?_)
  refine cSeq ?_
  refine cRegion ?_
  refine sMFc1 rfl ?_
  refine sAs (v := .func _ _ _) rfl ?_
  refine sNil (kSeqN ?_)
  refine cSeq ?_
  refine cBlock ?_
  refine cSeq ?_
  refine cRegion ?_
  refine sFA F49_0 rfl ?_
  refine sLd (v := nv k) A3 rfl g2 rfl ?_
  refine sCall1 rfl call153 rfl (spec_Arity hk) ?_
  refine sBin (v := .bool false) (a := w.length) (b := 0) rfl rfl (by rw [aInt_eql, decide_eq_false (by omega)]) ?_
  refine sAs (v := .bool _) rfl ?_
  refine sNil (kSeqN ?_)
  refine cCondF rfl ?_
  refine cSeq ?_
  refine cDrawH (hs := [(1,6),(2,6)]) rfl (by decide) ?_
  refine lStepO (sFA F49_1 rfl (sNil fun e0 hm0 => ?_))
  refine lStepLd (v := .slice qw w.length cw) A22 rfl g2 rfl fun e1 hm1 hv1 hr1 => ?_
  refine lStepLen T22 rfl fun e2 hm2 hv2 hr2 => ?_
  refine lStepO (sFA F49_0 rfl (sNil fun e3 hm3 => ?_))
  refine lStepLd (v := nv k) A3 rfl g2 rfl fun e4 hm4 hv4 hr4 => ?_
  refine lStepO (sCall1 rfl call153 rfl (spec_Arity hk) (sNil fun e5 hm5 => ?_))
  refine lStepO (sBin (v := .bool false) (a := w.length) (b := w.length) rfl rfl (neqF rfl) (sNil fun e6 hm6 => ?_))
  refine lStepO (sAs (v := .bool _) rfl (sNil fun e7 hm7 => ?_))
  refine ⟨?_, (kSeqN ?_)⟩
  ·
    refine obl_atE (e := e1) (e' := e6) (by simp) (by rfl) (by simp) ((hr1 e6.m _ _ (by rw [hm6]; exact g2) (by rfl)).trans (congrArg some hv1.symm)) ?_
    refine obl_pure (e := e2) (by simp) (by rfl) (hr2.trans (congrArg some hv2.symm)) ?_
    trivial
  refine cCondF rfl ?_
  refine cSeq ?_
  refine cRegion ?_
  refine sFA F49_1 rfl ?_
  refine sLd (v := .slice qw w.length cw) A22 rfl g2 rfl ?_
  refine sMv (v := .func _ _ _) rfl ?_
  obtain ⟨v27, m27, h27, hv27, e27⟩ := spec_every (m := M) (p := fun x => decide (0 ≤ x) && decide (x < Int.ofNat n)) (g := 152) (cp := #[.pointer (some ⟨m.size, 0, none⟩)]) (hw.ints.ext ex) (by rw [ofs_length]; omega) call152 fun x _ m' he => spec_wire (he.cells g1)
  have hall : ((ofs w).all fun x => decide (0 ≤ x) && decide (x < Int.ofNat n)) = true := by
    rw [List.all_eq_true]
    intro x hx
    obtain ⟨y, hy, rfl⟩ := List.mem_map.1 hx
    have := hlt y hy
    simp; omega
  rw [hall] at hv27
  subst hv27
  refine sCall2 rfl call154 rfl rfl h27 ?_
  replace g1 := e27.cells g1
  replace g2 := e27.cells g2
  replace ex := ex.trans e27
  refine sP (v := .bool false) rfl ?_
  refine sAs (v := .bool _) rfl ?_
  refine sNil (kSeqN ?_)
  refine cCondF rfl ?_
  refine cSkip (kBlkN (kSeqN ?_))
  refine cSeq ?_
  refine cSeq ?_
  refine cRegion ?_
  refine sFA F49_1 rfl ?_
  refine sLd (v := .slice qw w.length cw) A22 rfl g2 rfl ?_
  refine sLen T22 rfl ?_
  refine sMv (v := nv 0) rfl ?_
  refine sNil (kSeqN ?_)
  refine cBlock ?_
  refine wpC_loop (fun k' ρ m' => ∃ i, k' = w.length - i ∧ i ≤ w.length ∧ Ext m27 m' ∧ Has ρ [(2, .pointer (some ⟨m.size, 0, none⟩)), (3, .pointer (some ⟨m.size + 1, 0, none⟩)), (30, .slice qw w.length cw), (31, nv w.length), (32, nv i)]) ⟨0, rfl, by omega, .refl _, rfl, rfl, rfl, rfl, rfl, trivial⟩ ?_
  rintro k' ρ m' ⟨i, rfl, hi, X, hh⟩
  rw [hh.env]; clear hh
  replace g1 := X.cells g1
  replace g2 := X.cells g2
  replace ex := ex.trans X
  refine cSeq ?_
  refine cRegion ?_
  refine sBin rfl rfl (aInt_lss) ?_
  refine sNil (kSeqN ?_)
  refine cSeq ?_   -- seq 9
  refine cCond rfl (fun c3 => ?_) (fun c3 => ?_)
  ·
    obtain ⟨b1, o1, p1, r1, cc, ee1, gg, x1⟩ := hw.ints.atN (by omega)
    cases ee1
    refine cSkip (kSeqN ?_)
    refine cSeq ?_
    refine cBlock ?_
    refine cSeq ?_
    refine cRegion ?_
    refine sMv (v := nv _) rfl ?_
    refine sIx T22 S3 rfl rfl (by omega) ?_
    refine sLd (v := nv w[i]) A3 rfl (ex.cells gg) (x1 i w[i] (by simp)) ?_
    refine sAs (v := nv _) rfl ?_
    refine sAs (v := nv _) rfl ?_
    refine sNil (kSeqN ?_)
    refine cSeq ?_
    refine cRegion ?_
    refine sFA F49_1 rfl ?_
    refine sLd (v := .slice _ _ _) A22 rfl g2 rfl ?_
    refine sMv (v := nv _) rfl ?_
    obtain ⟨v40, h40, o40, q40, c40, rfl⟩ := cut_own (hw.ext ex) (Nat.le_of_lt c3)
    refine sO (v := .slice q40 (w.take i).length c40) (m' := m') (opF_read rfl h40) ?_
    refine sMv (v := nv _) rfl ?_
    have h42 := spec_Contains o40.ints (by simp; omega) (x := w[i])
    have hni : ¬ w[i] ∈ w.take i := fun hm => by
      obtain ⟨j, hj, e⟩ := List.getElem_of_mem hm
      rw [List.length_take] at hj
      rw [List.getElem_take] at e
      have := (List.getElem_inj hnd).1 e
      omega
    rw [decide_eq_false hni] at h42
    refine sCall2 rfl call155 rfl rfl h42 ?_
    refine sNil (kSeqN ?_)
    refine cCondF rfl ?_
    refine cSkip (kBlkN (kSeqN ?_))
    refine cRegion ?_
    refine sBin rfl rfl (aInt_add (b := 1) (by omega)) ?_
    refine sMv (v := nv _) rfl ?_
    refine sNil (kSeqN ?_)
    refine ⟨_, ?_, i + 1, rfl, by omega, X, rfl, rfl, rfl, rfl, rfl, trivial⟩
    omega
  ·
    refine cExit (kSeqE (kSeqE (kBlkS (kSeqN ?_))))
    refine cSeq ?_
    refine cRegion ?_
    refine sFA F49_0 rfl ?_
    refine sLd (v := nv k) A3 rfl g2 rfl ?_
    refine sBin (v := .bool false) (a := k) (b := 13) rfl rfl (by rw [aInt_eql, decide_eq_false (by omega)]) ?_
    refine sAs (v := .bool false) rfl ?_
    refine sNil (kSeqN ?_)
    refine cSeq ?_
    refine cBlock ?_
    refine cSeq ?_
    refine cRegion ?_
    refine sFA F49_3 rfl ?_
    refine sLd (v := nv 0) A3 rfl g2 rfl ?_
    refine sBin (v := .bool false) (a := 0) (b := 0) rfl rfl rfl ?_
    refine sMv (v := .bool _) rfl ?_
    refine sG rfl rfl ?_
    refine sFA F49_3 rfl ?_
    refine sG rfl rfl ?_
    refine sLd (v := nv 0) A3 rfl g2 rfl ?_
    refine sG rfl rfl ?_
    refine sFA F157_0 rfl ?_
    refine sG rfl rfl ?_
    refine sFA F30_1 rfl ?_
    refine sG rfl rfl ?_
    refine sLd (v := nv 0) A3 rfl g1 rfl ?_
    refine sG rfl rfl ?_
    refine sBin (v := .bool false) (a := 0) (b := 0) rfl rfl rfl ?_
    refine sP (v := .bool false) rfl ?_
    refine sMv (v := .bool _) rfl ?_
    refine sG rfl rfl ?_
    refine sMv (v := .bool false) rfl ?_
    refine sG rfl rfl ?_
    refine sMv (v := .bool false) rfl ?_
    refine sGno (q' := false) rfl rfl (by simp) ?_
    refine sGno (q' := false) rfl rfl (by simp) ?_
    refine sGno (q' := false) rfl rfl (by simp) ?_
    refine sGno (q' := false) rfl rfl (by simp) ?_
    refine sGnoU rfl rfl ?_
    refine sGnoU rfl rfl ?_
    refine sGnoU rfl rfl ?_
    refine sGnoU rfl rfl ?_
    refine sGnoU rfl rfl ?_
    refine sGnoU rfl rfl ?_
    refine sGno (q' := false) rfl rfl (by simp) ?_
    refine sG rfl rfl ?_
    refine sP (v := .bool false) rfl ?_
    refine sP (v := .bool false) rfl ?_
    refine sAs (v := .bool _) rfl ?_
    refine sNil (kSeqN ?_)
    refine cCondF rfl ?_
    refine cSeq ?_
    refine cRegion ?_
    refine sMv (v := .bool false) rfl ?_
    refine sMv (v := .bool _) rfl ?_
    refine sG rfl rfl ?_
    refine sFA F49_0 rfl ?_
    refine sG rfl rfl ?_
    refine sLd (v := nv k) A3 rfl g2 rfl ?_
    refine sG rfl rfl ?_
    refine sBin (v := .bool false) (a := k) (b := 14) rfl rfl (by rw [aInt_eql, decide_eq_false (by omega)]) ?_
    refine sP (v := .bool false) rfl ?_
    refine sMv (v := .bool _) rfl ?_
    refine sGno (q' := false) rfl rfl (by simp) ?_
    refine sGno (q' := false) rfl rfl (by simp) ?_
    refine sGno (q' := false) rfl rfl (by simp) ?_
    refine sP (v := .bool false) rfl ?_
    refine sMv (v := .bool _) rfl ?_
    refine sG rfl rfl ?_
    refine sMv (v := .bool false) rfl ?_
    refine sG rfl rfl ?_
    refine sP (v := .bool true) rfl ?_
    refine sG rfl rfl ?_
    refine sMv (v := .bool true) rfl ?_
    refine sG rfl rfl ?_
    refine sFA F49_2 rfl ?_
    refine sG rfl rfl ?_
    refine sLd (v := nv 0) A3 rfl g2 rfl ?_
    refine sG rfl rfl ?_
    refine sBin (v := .bool false) (a := 0) (b := 0) rfl rfl (neqF rfl) ?_
    refine sG rfl rfl ?_
    refine sP (v := .bool false) rfl ?_
    refine sP (v := .bool false) rfl ?_
    refine sAs (v := .bool _) rfl ?_
    refine sNil (kSeqN ?_)
    refine cCondF rfl ?_
    refine cSkip (kBlkN (kSeqN ?_))
    refine cSeq ?_
    refine cRegion ?_
    refine sAs (v := nv 0) rfl ?_
    refine sNil (kSeqN ?_)
    refine cRet ?_
    exact ⟨.inr rfl, _, rfl, rfl, ex⟩
theorem okf100 : okF Tryd.prog H0 100 48 = true := by kernel_rfl
theorem spec_Check4 {m : Mem} {N n : Nat} {s : Value} {cs : Array Value} {Gs : List (Nat × List Nat)} (hG : OwnG N m s cs Gs) (hc : CircOk n Gs) : ∃ v m', ACalls Tryd.prog 100 #[.agg #[nv n, nv 0, s]] m v m' ∧ (v = nv 0 ∧ Ext m m') := by
  obtain ⟨q, cap, rfl⟩ := hG.1.len
  obtain ⟨h1, h10, hf, hall⟩ := hc
  have e1 : Ext m (m.push (.cells true #[nv n, nv 0, .slice q Gs.length cap])) := .push _ _
  have g1 : Mem.get (m.push (.cells true #[nv n, nv 0, .slice q Gs.length cap])) m.size = .cells true #[nv n, nv 0, .slice q Gs.length cap] := gP rfl
  refine wpF (args := [_]) mixed okf100 (fn := Tryd.f100) rfl rfl rfl (by simp) ?_
  refine cSeq ?_
  refine cRegion ?_
  refine sBox (v := .agg _) rfl ?_
  change wpOps _ _ _ _ _ (m.push (.cells true #[nv n, nv 0, .slice q Gs.length cap]))
  generalize hM : m.push (.cells true #[nv n, nv 0, .slice q Gs.length cap]) = M
  have e1 : Ext m M := by rw [← hM]; exact .push _ _
  have g1 : Mem.get M m.size = .cells true #[nv n, nv 0, .slice q Gs.length cap] := by rw [← hM]; exact gP rfl
  clear hM
  refine sAs (v := nv 0) rfl ?_
  refine sNil (kSeqN ?_)
  refine cSeq ?_
  refine cBlock ?_
  refine cSeq ?_
  refine cRegion ?_
  refine sFA F30_0 rfl ?_
  refine sLd (v := nv n) A3 rfl g1 rfl ?_
  refine sBin (v := .bool false) (a := n) (b := 1) rfl rfl (by rw [aInt_lss, decide_eq_false (by omega)]) ?_
  refine sMv (v := .bool _) rfl ?_
  refine sG rfl rfl ?_
  refine sFA F30_0 rfl ?_
  refine sG rfl rfl ?_
  refine sLd (v := nv n) A3 rfl g1 rfl ?_
  refine sG rfl rfl ?_
  refine sBin (v := .bool false) (a := n) (b := 12) rfl rfl (by rw [aInt_gtr, decide_eq_false (by omega)]) ?_
  refine sP (v := .bool false) rfl ?_
  refine sMv (v := .bool _) rfl ?_
  refine sG rfl rfl ?_
  refine sFA F30_1 rfl ?_
  refine sG rfl rfl ?_
  refine sLd (v := nv 0) A3 rfl g1 rfl ?_
  refine sG rfl rfl ?_
  refine sBin (v := .bool false) (a := 0) (b := 0) rfl rfl rfl ?_
  refine sP (v := .bool false) rfl ?_
  refine sMv (v := .bool _) rfl ?_
  refine sG rfl rfl ?_
  refine sFA F30_1 rfl ?_
  refine sG rfl rfl ?_
  refine sLd (v := nv 0) A3 rfl g1 rfl ?_
  refine sG rfl rfl ?_
  refine sBin (v := .bool false) (a := 0) (b := 8) rfl rfl rfl ?_
  refine sP (v := .bool false) rfl ?_
  refine sAs (v := .bool _) rfl ?_
  refine sNil (kSeqN ?_)
  refine cCondF rfl ?_
  refine cSeq ?_
  refine cRegion ?_
  refine sFA F30_2 rfl ?_
  refine sLd (v := .slice q Gs.length cap) A28 rfl g1 rfl ?_
  refine sLen T28 rfl ?_
  refine sBin (v := .bool false) (a := Gs.length) (b := 120) rfl rfl (by rw [aInt_gtr, decide_eq_false (by omega)]) ?_
  refine sAs (v := .bool _) rfl ?_
  refine sNil (kSeqN ?_)
  refine cCondF rfl ?_
  refine cSkip (kBlkN (kSeqN ?_))
  refine cSeq ?_
  refine cRegion ?_
  refine sLdAll A30 S30 rfl g1 rfl ?_
  refine sBuild B140 ?_
  refine sMFf rfl ?_
  refine sAs (v := .func _ _ _) rfl ?_
  refine sNil (kSeqN ?_)
  refine cSeq ?_
  refine cSeq ?_
  refine cRegion ?_
  refine sFA F30_2 rfl ?_
  refine sLd (v := .slice q Gs.length cap) A28 rfl g1 rfl ?_
  refine sLen T28 rfl ?_
  refine sMv (v := nv 0) rfl ?_
  refine sNil (kSeqN ?_)
  refine cBlock ?_
  refine wpC_loop (fun k' ρ m' => ∃ i, k' = Gs.length - i ∧ i ≤ Gs.length ∧ Ext M m' ∧ Has ρ [(1, .pointer (some ⟨m.size, 0, none⟩)), (3, .func (.func 136) #[.agg #[nv n, nv 0, .slice q Gs.length cap, .nilFunc]] #[]), (35, .slice q Gs.length cap), (36, nv Gs.length), (37, nv i)]) ⟨0, rfl, by omega, .refl _, rfl, rfl, rfl, rfl, rfl, trivial⟩ ?_
  rintro k' ρ m' ⟨i, rfl, hi, X, hh⟩
  rw [hh.env]; clear hh
  replace g1 := X.cells g1
  replace e1 := e1.trans X
  refine cSeq ?_
  refine cRegion ?_
  refine sBin rfl rfl (aInt_lss) ?_
  refine sNil (kSeqN ?_)
  refine cSeq ?_   -- seq 8
  refine cCond rfl (fun c2 => ?_) (fun c2 => ?_)
  ·
    obtain ⟨g, hgi⟩ : ∃ g, Gs[i]? = some g := ⟨_, List.getElem?_eq_getElem c2⟩
    have hgo := hall g (List.mem_of_getElem? hgi)
    obtain ⟨b2, cp2, cc, ws, ee, gb, hcs, hex, hws⟩ := (hG.ext e1).gate hgi
    cases ee
    obtain ⟨qw, cw, rfl⟩ := hws.ints.lenN
    refine cSkip (kSeqN ?_)
    refine cSeq ?_
    refine cBlock ?_
    refine cSeq ?_
    refine cRegion ?_
    refine sIx T28 S49 rfl rfl c2 ?_
    refine sLdA A49 S49 rfl gb (by omega) ?_
    rw [hex]
    refine sAlloc Z49 (by kernel_rfl) ?_
    refine sStNA S49 rfl rfl rfl rfl (by kernel_rfl) ?_
    refine sNil (kSeqN ?_)
    refine cSeq ?_
    refine cRegion ?_
    refine sMv (v := .func _ _ _) rfl ?_
    refine sLdAll A49 S49 rfl (gP rfl) rfl ?_
    obtain ⟨v43, m43, h43, rfl, e43⟩ := spec_gate (m := m'.push (.cells true #[nv g.1, .slice qw g.2.length cw, nv 0, nv 0])) (sl := .slice (some ⟨b2, 0, some 4⟩) Gs.length cap) (d := .nilFunc) hgo h10 (hws.ext (.push _ _))
    refine sCallF1 rfl call136 rfl h43 ?_
    refine sAs (v := nv _) rfl ?_
    refine sNil (kSeqN ?_)
    refine cSeq ?_
    refine cRegion ?_
    refine sMv (v := nv _) rfl ?_
    refine sBin (v := .bool false) (a := 0) (b := 0) rfl rfl (neqF rfl) ?_
    refine sNil (kSeqN ?_)
    refine cCondF rfl ?_
    refine cSkip (kBlkN (kSeqN ?_))
    refine cRegion ?_
    refine sBin rfl rfl (aInt_add (b := 1) (by omega)) ?_
    refine sMv (v := nv _) rfl ?_
    refine sNil (kSeqN ?_)
    refine ⟨_, ?_, i + 1, rfl, by omega, X.trans ((Ext.push _ _).trans e43), rfl, rfl, rfl, rfl, rfl, trivial⟩
    omega
  ·
    refine cExit (kSeqE (kSeqE (kBlkS (kSeqN ?_))))
    refine cSeq ?_
    refine cRegion ?_
    refine sAs (v := nv 0) rfl ?_
    refine sNil (kSeqN ?_)
    refine cRet ?_
    exact ⟨.inr rfl, _, rfl, rfl, e1⟩
end Go.AM

/-! ### Q3 -/
namespace Go.AM
open Go.Proofs
set_option maxRecDepth 100000
set_option linter.unusedVariables false
set_option linter.unusedSimpArgs false
/-- The table of kinds holds X, CX, CCX. -/
def GlobC (m : Mem) : Prop := ∃ r b r2 es, Mem.get m 1 = .cells r #[.map (some b)] ∧ Mem.get m b = .map r2 es ∧ ∀ k, (k = 1 ∨ k = 9 ∨ k = 12) → ∃ i c, aFindNow (.int .i64) (nv k) es 0 = some (some (i, .agg #[nv c, .func (.func 76) #[] #[]]))
theorem GlobC.ext {m m' : Mem} (h : GlobC m) (he : Ext m m') : GlobC m' := by
  obtain ⟨r, b, r2, es, h1, h2, h3⟩ := h
  exact ⟨r, b, r2, es, he.cells h1, by rw [he.2 b (Mem.lt_of_live (by rw [h2]; rfl)), h2], h3⟩
theorem lookC {m : Mem} {b k i c : Nat} {r2 : Bool} {es : List (Value × Value)} {ok : Bool} (h2 : Mem.get m b = .map r2 es) (h3 : aFindNow (.int .i64) (nv k) es 0 = some (some (i, .agg #[nv c, .func (.func 76) #[] #[]]))) :
    aLookup Tryd.prog m 129 (.map (some b)) (nv k) ok = some (if ok then .tuple #[.agg #[nv c, .func (.func 76) #[] #[]], .bool true] else .agg #[nv c, .func (.func 76) #[] #[]]) := by
  have hf : (plainKey (.int .i64) && flat (.agg #[nv 0, .nilFunc])) = true := by kernel_rfl
  simp only [aLookup, T129, U3, Z127, hf, if_true, h2, h3]
theorem kind_in {n : Nat} {g : Nat × List Nat} (h : GateOk n g) : g.1 = 1 ∨ g.1 = 9 ∨ g.1 = 12 := by
  rcases h.kind with h | h | h
  · exact .inl h.1
  · exact .inr (.inl h.1)
  · exact .inr (.inr h.1)
/-- The last wire is turned if all others are 1. -/
def turnM (x : Nat) (w : List Nat) : Nat := if w.dropLast.all (fun c => x.testBit c) then x ^^^ 2 ^ w.getLastD 0 else x
def runM (Gs : List (Nat × List Nat)) (x : Nat) : Nat := Gs.foldl (fun x g => turnM x g.2) x
theorem runM_take {Gs : List (Nat × List Nat)} {i : Nat} {g : Nat × List Nat} (h : Gs[i]? = some g) (x : Nat) : runM (Gs.take (i + 1)) x = turnM (runM (Gs.take i) x) g.2 := by
  rw [List.take_add_one, h, runM, List.foldl_append]; rfl
theorem turnM_lt {n x : Nat} {w : List Nat} (hx : x < 2 ^ n) (hw : ∀ y ∈ w, y < n) (h0 : 0 < w.length) : turnM x w < 2 ^ n := by
  unfold turnM
  split
  · refine Nat.xor_lt_two_pow hx (Nat.pow_lt_pow_right (by omega) (hw _ ?_))
    rw [List.getLastD_eq_getLast?, List.getLast?_eq_getElem?, List.getElem?_eq_getElem (by omega)]
    exact List.getElem_mem _
  · exact hx
theorem runM_lt {n x : Nat} {Gs : List (Nat × List Nat)} (hx : x < 2 ^ n) (hg : ∀ g ∈ Gs, GateOk n g) : runM Gs x < 2 ^ n := by
  induction Gs generalizing x with
  | nil => exact hx
  | cons g Gs ih =>
    have h := hg g (by simp)
    exact ih (turnM_lt hx h.lt (by have := h.kind; omega)) fun g' hg' => hg g' (by simp [hg'])
theorem okf101 : okF Tryd.prog H0 101 19 = true := by kernel_rfl
theorem spec_Check1 {m : Mem} {n : Nat} {g : Nat × List Nat} {ws : Value} (hC : GlobC m) (hg : GateOk n g) (hw : ∃ q l c, ws = .slice q l c) : ∃ v m', ACalls Tryd.prog 101 #[.agg #[nv g.1, ws, nv 0, nv 0]] m v m' ∧ (v = .bool false ∧ Ext m m') := by
  obtain ⟨q, l, c, rfl⟩ := hw
  obtain ⟨r, b, r2, es, h1, h2, h3⟩ := hC
  obtain ⟨i, k, h4⟩ := h3 _ (kind_in hg)
  refine wpF (args := [_]) mixed okf101 (fn := Tryd.f101) rfl rfl rfl (by simp) ?_
  refine cSeq ?_
  refine cRegion ?_
  refine sBox (v := .agg _) rfl ?_
  change wpOps _ _ _ _ _ (m.push (.cells true #[nv g.1, .slice q l c, nv 0, nv 0]))
  have e1 : Ext m (m.push (.cells true #[nv g.1, .slice q l c, nv 0, nv 0])) := .push _ _
  have hm : Mem.get (m.push (.cells true #[nv g.1, .slice q l c, nv 0, nv 0])) b = .map r2 es := by rw [e1.2 b (Mem.lt_of_live (by rw [h2]; rfl)), h2]
  refine sAs (v := .bool _) rfl ?_
  refine sNil (kSeqN ?_)
  refine cSeq ?_
  refine cRegion ?_
  refine sLd (v := .map (some b)) A129 rfl (e1.cells h1) rfl ?_
  refine sFA F49_0 rfl ?_
  refine sLd (v := nv g.1) A3 rfl (gP rfl) rfl ?_
  refine sO (v := .tuple #[.agg #[nv k, .func (.func 76) #[] #[]], .bool true]) (opF_read rfl (lookC hm h4)) ?_
  refine sMv (v := .tuple _) rfl ?_
  refine sP (v := .agg _) rfl ?_   -- extract ['t5', '0']
  refine sP (v := .bool true) rfl ?_
  refine sAllocB (bl := m.size + 1) (by simp) Z127 (by kernel_rfl) ?_
  refine sStNAB (by simp) S127 rfl rfl rfl rfl (by kernel_rfl) ?_
  refine sAs (v := .bool true) rfl ?_
  refine sNil (kSeqN ?_)
  refine cSeq ?_
  refine cRegion ?_
  refine sMv (v := .bool true) rfl ?_
  refine sP (v := .bool false) rfl ?_
  refine sMv (v := .bool _) rfl ?_
  refine sG rfl rfl ?_
  refine sFA F49_3 rfl ?_
  refine sG rfl rfl ?_
  refine sLd (v := nv 0) A3 rfl (by rw [gPn (by simp)]; exact gP rfl) rfl ?_
  refine sG rfl rfl ?_
  refine sBin (v := .bool false) (a := 0) (b := 0) rfl rfl (neqF rfl) ?_
  refine sP (v := .bool false) rfl ?_
  refine sAs (v := .bool _) rfl ?_
  refine sNil (kSeqN ?_)
  refine cRet ?_
  exact ⟨.inr rfl, _, rfl, rfl, e1.trans (.push _ _)⟩
theorem okf93 : okF Tryd.prog H0 93 19 = true := by kernel_rfl
theorem spec_IndexG {m : Mem} {N n : Nat} {s : Value} {cs : Array Value} {Gs : List (Nat × List Nat)} (hC : GlobC m) (hG : OwnG N m s cs Gs) (hc : CircOk n Gs) : ∃ v m', ACalls Tryd.prog 93 #[s, .func (.func 101) #[] #[]] m v m' ∧ (v = .int .i64 (-1) ∧ Ext m m') := by
  obtain ⟨q, cap, rfl⟩ := hG.1.len
  obtain ⟨h1, h10, hf, hall⟩ := hc
  refine wpF (args := [_, _]) mixed okf93 (fn := Tryd.f93) rfl rfl rfl (by simp) ?_
  refine cSeq ?_
  refine cRegion ?_
  refine sAs (v := nv 0) rfl ?_
  refine sNil (kSeqN ?_)
  refine cSeq ?_
  refine cSeq ?_
  refine cRegion ?_
  refine sMv (v := .slice _ _ _) rfl ?_
  refine sLen T28 rfl ?_
  refine sMv (v := nv 0) rfl ?_
  refine sNil (kSeqN ?_)
  refine cBlock ?_
  refine wpC_loop (fun k' ρ m' => ∃ i, k' = Gs.length - i ∧ i ≤ Gs.length ∧ Ext m m' ∧ Has ρ [(0, .slice q Gs.length cap), (1, .func (.func 101) #[] #[]), (7, nv Gs.length), (8, nv i)]) ⟨0, rfl, by omega, .refl _, rfl, rfl, rfl, rfl, trivial⟩ ?_
  rintro k' ρ m' ⟨i, rfl, hi, X, hh⟩
  rw [hh.env]; clear hh
  refine cSeq ?_
  refine cRegion ?_
  refine sBin rfl rfl (aInt_lss) ?_
  refine sNil (kSeqN ?_)
  refine cSeq ?_   -- seq 4
  refine cCond rfl (fun c0 => ?_) (fun c0 => ?_)
  ·
    obtain ⟨g, hgi⟩ : ∃ g, Gs[i]? = some g := ⟨_, List.getElem?_eq_getElem c0⟩
    have hgo := hall g (List.mem_of_getElem? hgi)
    obtain ⟨b2, cp2, cc, ws, ee, gb, hcs, hex, hws⟩ := (hG.ext X).gate hgi
    cases ee
    obtain ⟨qw, cw, rfl⟩ := hws.ints.lenN
    refine cSkip (kSeqN ?_)
    refine cSeq ?_
    refine cBlock ?_
    refine cSeq ?_
    refine cRegion ?_
    refine sMv (v := nv _) rfl ?_
    refine sAs (v := nv _) rfl ?_
    refine sNil (kSeqN ?_)
    refine cSeq ?_
    refine cRegion ?_
    refine sMv (v := .func _ _ _) rfl ?_
    refine sMv (v := .slice _ _ _) rfl ?_
    refine sMv (v := nv _) rfl ?_
    refine sIx T28 S49 rfl rfl c0 ?_
    refine sLdA A49 S49 rfl gb (by omega) ?_
    rw [hex]
    obtain ⟨v16, m16, h16, rfl, e16⟩ := spec_Check1 (hC.ext X) hgo (ws := .slice qw g.2.length cw) ⟨_, _, _, rfl⟩
    refine sCall1 rfl call101 rfl h16 ?_
    refine sNil (kSeqN ?_)
    refine cCondF rfl ?_
    refine cSkip (kBlkN (kSeqN ?_))
    refine cRegion ?_
    refine sBin rfl rfl (aInt_add (b := 1) (by omega)) ?_
    refine sMv (v := nv _) rfl ?_
    refine sNil (kSeqN ?_)
    refine ⟨_, ?_, i + 1, rfl, by omega, X.trans e16, rfl, rfl, rfl, rfl, trivial⟩
    omega
  ·
    refine cExit (kSeqE (kSeqE (kBlkS (kSeqN ?_))))
    refine cSeq ?_
    refine cRegion ?_
    refine sAs (v := .int .i64 (-1)) rfl ?_
    refine sNil (kSeqN ?_)
    refine cRet ?_
    exact ⟨.inr rfl, _, rfl, rfl, X⟩
theorem okf32 : okF Tryd.prog H0 32 9 = true := by kernel_rfl
theorem spec_ContainsG {m : Mem} {N n : Nat} {s : Value} {cs : Array Value} {Gs : List (Nat × List Nat)} (hC : GlobC m) (hG : OwnG N m s cs Gs) (hc : CircOk n Gs) : ∃ v m', ACalls Tryd.prog 32 #[s, .func (.func 101) #[] #[]] m v m' ∧ (v = .bool false ∧ Ext m m') := by
  obtain ⟨q, cap, rfl⟩ := hG.1.len
  refine wpF (args := [_, _]) mixed okf32 (fn := Tryd.f32) rfl rfl rfl (by simp) ?_
  refine cSeq ?_
  refine cRegion ?_
  refine sAs (v := .bool _) rfl ?_
  refine sNil (kSeqN ?_)
  refine cSeq ?_
  refine cRegion ?_
  refine sMv (v := .slice _ _ _) rfl ?_
  refine sMv (v := .func _ _ _) rfl ?_
  obtain ⟨v7, m7, h7, rfl, e7⟩ := spec_IndexG hC hG hc
  refine sCall2 rfl call93 rfl rfl h7 ?_
  refine sBinI (v := .bool false) (a := -1) (b := 0) rfl rfl (by rw [aInt_geqI]; rfl) ?_
  refine sAs (v := .bool _) rfl ?_
  refine sNil (kSeqN ?_)
  refine cRet ?_
  exact ⟨.inr rfl, _, rfl, rfl, e7⟩
theorem okf45 : okF Tryd.prog H0 45 12 = true := by kernel_rfl
theorem spec_Check8 {m : Mem} {N n : Nat} {s : Value} {cs : Array Value} {Gs : List (Nat × List Nat)} (hC : GlobC m) (hG : OwnG N m s cs Gs) (hc : CircOk n Gs) : ∃ v m', ACalls Tryd.prog 45 #[.agg #[nv n, nv 0, s]] m v m' ∧ (v = nv 0 ∧ Ext m m') := by
  obtain ⟨q, cap, rfl⟩ := hG.1.len
  refine wpF (args := [_]) mixed okf45 (fn := Tryd.f45) rfl rfl rfl (by simp) ?_
  refine cSeq ?_
  refine cRegion ?_
  refine sBox (v := .agg _) rfl ?_
  change wpOps _ _ _ _ _ (m.push (.cells true #[nv n, nv 0, .slice q Gs.length cap]))
  have e1 : Ext m (m.push (.cells true #[nv n, nv 0, .slice q Gs.length cap])) := .push _ _
  have g1 : Mem.get (m.push (.cells true #[nv n, nv 0, .slice q Gs.length cap])) m.size = .cells true #[nv n, nv 0, .slice q Gs.length cap] := gP rfl
  refine sAs (v := nv 0) rfl ?_
  refine sNil (kSeqN ?_)
  refine cSeq ?_
  refine cSeq ?_
  refine cRegion ?_
  refine sLdAll A30 S30 rfl g1 rfl ?_
  obtain ⟨v5, m5, h5, rfl, e5⟩ := spec_Check4 (hG.ext e1) hc
  refine sCall1 rfl call100 rfl h5 ?_
  replace g1 := e5.cells g1
  replace e1 := e1.trans e5
  refine sAs (v := nv _) rfl ?_
  refine sNil (kSeqN ?_)
  refine cSeq ?_
  refine cRegion ?_
  refine sMv (v := nv _) rfl ?_
  refine sBin (v := .bool false) (a := 0) (b := 0) rfl rfl (neqF rfl) ?_
  refine sNil (kSeqN ?_)
  refine cCondF rfl ?_
  refine cSkip (kSeqN ?_)
  refine cSeq ?_   -- seq 4
  refine cSeq ?_
  refine cRegion ?_
  refine sFA F30_2 rfl ?_
  refine sLd (v := .slice q Gs.length cap) A28 rfl g1 rfl ?_
  obtain ⟨v11, m11, h11, rfl, e11⟩ := spec_ContainsG (hC.ext e1) (hG.ext e1) hc
  refine sCall2 rfl call32 rfl rfl h11 ?_
  refine sNil (kSeqN ?_)
  refine cCondF rfl ?_
  refine cSkip (kSeqN ?_)
  refine cSeq ?_
  refine cRegion ?_
  refine sAs (v := nv 0) rfl ?_
  refine sNil (kSeqN ?_)
  refine cRet ?_
  exact ⟨.inr rfl, _, rfl, rfl, e1.trans e11⟩
theorem okf129 : okF Tryd.prog H0 129 9 = true := by kernel_rfl
theorem spec_turned1 {m : Mem} {p x y : Nat} {r : Bool} (h : Mem.get m p = .cells r #[nv x]) (hx : x < 2 ^ 12) : ACalls Tryd.prog 129 #[nv y, .pointer (some ⟨p, 0, none⟩)] m (.bool (!x.testBit y)) m := by
  refine ACalls.callee ?_
  have hsh := Nat.shiftRight_le x y
  refine wpF (args := [_, _]) mixed okf129 (fn := Tryd.f129) rfl rfl rfl (by simp) ?_
  refine cSeq ?_
  refine cRegion ?_
  refine sAs (v := .bool _) rfl ?_
  refine sNil (kSeqN ?_)
  refine cSeq ?_
  refine cRegion ?_
  refine sLd (v := nv x) A3 rfl h rfl ?_
  refine sMv (v := nv _) rfl ?_
  refine sBin (a := x) (b := y) rfl rfl (aInt_shr (by omega)) ?_
  refine sBin (b := 1) rfl rfl (aInt_and (by omega)) ?_
  refine sBin (v := .bool (!x.testBit y)) (b := 0) rfl rfl (by
    rw [aInt_eql]
    congr 2
    rw [Bool.eq_iff_iff, decide_eq_true_eq]
    have h1 := bitB x y
    have h2 : x >>> y &&& 1 = 0 ∨ x >>> y &&& 1 = 1 := by rw [Nat.and_one_is_mod]; omega
    rcases h2 with h2 | h2 <;> rw [h2] at h1 ⊢ <;> rw [← h1] <;> simp) ?_
  refine sAs (v := .bool _) rfl ?_
  refine sNil (kSeqN ?_)
  refine cRet ?_
  exact ⟨.inr rfl, _, rfl, rfl, rfl⟩
theorem okf76 : okF Tryd.prog H0 76 22 = true := by kernel_rfl
theorem spec_turnedG {m : Mem} {N x : Nat} {ws : Value} {w : List Nat} (hw : OwnF N m ws (ofs w)) (h0 : 0 < w.length) (h3 : w.length ≤ 3) (hlt : ∀ y ∈ w, y < 10) (hx : x < 2 ^ 10) : ∃ v m', ACalls Tryd.prog 76 #[nv x, ws] m v m' ∧ (v = nv (turnM x w) ∧ Ext m m') := by
  obtain ⟨q, cap, rfl⟩ := hw.ints.lenN
  have e1 : Ext m (m.push (.cells true #[nv x])) := .push _ _
  have g1 : Mem.get (m.push (.cells true #[nv x])) m.size = .cells true #[nv x] := gP rfl
  obtain ⟨y, hy⟩ : ∃ y, w[w.length - 1]? = some y := ⟨_, List.getElem?_eq_getElem (by omega)⟩
  have hyl := hlt y (List.mem_of_getElem? hy)
  have hlast : w.getLastD 0 = y := by rw [List.getLastD_eq_getLast?, List.getLast?_eq_getElem?, hy]; rfl
  have h2y : 2 ^ y < 2 ^ 10 := Nat.pow_lt_pow_right (by omega) hyl
  refine wpF (args := [_, _]) mixed okf76 (fn := Tryd.f76) rfl rfl rfl (by simp) ?_
  refine cSeq ?_
  refine cRegion ?_
  refine sBox (v := nv x) rfl ?_
  change wpOps _ _ _ _ _ (m.push (.cells true #[nv x]))
  refine sAs (v := nv 0) rfl ?_
  refine sNil (kSeqN ?_)
  refine cSeq ?_
  refine cRegion ?_
  refine sMv (v := .slice _ _ _) rfl ?_
  refine sLen T22 rfl ?_
  refine sBin (v := nv (w.length - 1)) rfl rfl (aInt_sub (b := 1) (by omega)) ?_
  refine sAs (v := nv _) rfl ?_
  refine sNil (kSeqN ?_)
  refine cSeq ?_   -- seq 2
  refine cSeq ?_
  refine cRegion ?_
  refine sMv (v := .slice _ _ _) rfl ?_
  refine sMv (v := nv _) rfl ?_
  obtain ⟨v11, h11, o11, q11, c11, rfl⟩ := cut_own (hw.ext e1) (show w.length - 1 ≤ w.length by omega)
  refine sO (v := .slice q11 (w.take (w.length - 1)).length c11) (m' := m.push (.cells true #[nv x])) (opF_read rfl h11) ?_
  refine sMFc1 rfl ?_
  have h13 := spec_ContainsFunc (m := m.push (.cells true #[nv x])) (p := fun c => !x.testBit c.toNat) o11.ints (by rw [ofs_length, List.length_take]; omega) call129 (cp := #[.pointer (some ⟨m.size, 0, none⟩)]) fun z hz => by
    obtain ⟨u, hu, rfl⟩ := List.mem_map.1 hz
    exact spec_turned1 g1 (by omega)
  have hany : ((ofs (w.take (w.length - 1))).any fun c => !x.testBit c.toNat) = !(w.dropLast.all fun c => x.testBit c) := by
    rw [List.dropLast_eq_take, ofs, List.any_map, List.all_eq_not_any_not, Bool.not_not]
    rfl
  rw [hany] at h13
  refine sCall2 rfl call107 rfl rfl h13 ?_
  refine sNil (kSeqN ?_)
  refine cCond (p := (w.dropLast.all fun c => x.testBit c) = false) (by show Value.bool _ = Value.bool _; cases (w.dropLast.all fun c => x.testBit c) <;> rfl) (fun c0 => ?_) (fun c0 => ?_)
  ·
    refine cSeq ?_
    refine cRegion ?_
    refine sLd (v := nv x) A3 rfl g1 rfl ?_
    refine sAs (v := nv _) rfl ?_
    refine sNil (kSeqN ?_)
    refine cRet (kSeqR ?_)
    exact ⟨.inr rfl, _, rfl, by rw [turnM, c0]; rfl, e1⟩
  ·
    obtain ⟨b1, o1, p1, r1, cc, ee1, gg, x1⟩ := hw.ints.atN (by omega)
    cases ee1
    refine cSkip (kSeqN ?_)
    refine cSeq ?_
    refine cDraw rfl ?_
    refine sLd (v := nv x) A3 rfl g1 rfl ?_
    refine sMv (v := .slice _ _ _) rfl ?_
    refine sMv (v := nv _) rfl ?_
    refine sIx T22 S3 rfl rfl (by omega) ?_
    refine sLd (v := nv y) A3 rfl (e1.cells gg) (x1 _ y hy) ?_
    refine sBin rfl rfl (aInt_shl (a := 1) (by omega)) ?_
    rw [Nat.shiftLeft_eq, Nat.one_mul]
    refine sBin (a := x) (b := 2 ^ y) rfl rfl (aInt_xor ⟨by omega, by omega⟩) ?_
    refine sAs (v := nv _) rfl ?_
    refine sNil (kSeqN ?_)
    refine cRet ?_
    have c0' : (w.dropLast.all fun c => x.testBit c) = true := by simpa using c0
    exact ⟨.inr rfl, _, rfl, by rw [turnM, c0', if_pos rfl, hlast]; rfl, e1⟩
theorem okf97 : okF Tryd.prog H0 97 25 = true := by kernel_rfl
theorem spec_run {m : Mem} {N n x : Nat} {s : Value} {cs : Array Value} {Gs : List (Nat × List Nat)} (hC : GlobC m) (hG : OwnG N m s cs Gs) (hc : CircOk n Gs) (hx : x < 2 ^ n) : ∃ v m', ACalls Tryd.prog 97 #[.agg #[nv n, nv 0, s], nv x] m v m' ∧ (v = nv (runM Gs x) ∧ Ext m m') := by
  obtain ⟨q, cap, rfl⟩ := hG.1.len
  obtain ⟨h1, h10, hf, hall⟩ := hc
  refine wpF (args := [_, _]) mixed okf97 (fn := Tryd.f97) rfl rfl rfl (by simp) ?_
  refine cSeq ?_
  refine cRegion ?_
  refine sBox (v := .agg _) rfl ?_
  change wpOps _ _ _ _ _ (m.push (.cells true #[nv n, nv 0, .slice q Gs.length cap]))
  have e1 : Ext m (m.push (.cells true #[nv n, nv 0, .slice q Gs.length cap])) := .push _ _
  have g1 : Mem.get (m.push (.cells true #[nv n, nv 0, .slice q Gs.length cap])) m.size = .cells true #[nv n, nv 0, .slice q Gs.length cap] := gP rfl
  generalize m.push (.cells true #[nv n, nv 0, .slice q Gs.length cap]) = M at *
  refine sAs (v := nv 0) rfl ?_
  refine sNil (kSeqN ?_)
  refine cSeq ?_
  refine cSeq ?_
  refine cRegion ?_
  refine sFA F30_2 rfl ?_
  refine sLd (v := .slice q Gs.length cap) A28 rfl g1 rfl ?_
  refine sLen T28 rfl ?_
  refine sMv (v := nv 0) rfl ?_
  refine sNil (kSeqN ?_)
  refine cBlock ?_
  refine wpC_loop (fun k' ρ m' => ∃ i, k' = Gs.length - i ∧ i ≤ Gs.length ∧ Ext M m' ∧ Has ρ [(1, nv (runM (Gs.take i) x)), (8, .slice q Gs.length cap), (9, nv Gs.length), (10, nv i)]) ⟨0, rfl, by omega, .refl _, rfl, rfl, rfl, rfl, trivial⟩ ?_
  rintro k' ρ m' ⟨i, rfl, hi, X, hh⟩
  rw [hh.env]; clear hh
  replace e1 := e1.trans X
  refine cSeq ?_
  refine cRegion ?_
  refine sBin rfl rfl (aInt_lss) ?_
  refine sNil (kSeqN ?_)
  refine cSeq ?_   -- seq 4
  refine cCond rfl (fun c0 => ?_) (fun c0 => ?_)
  ·
    obtain ⟨g, hgi⟩ : ∃ g, Gs[i]? = some g := ⟨_, List.getElem?_eq_getElem c0⟩
    have hgo := hall g (List.mem_of_getElem? hgi)
    obtain ⟨b2, cp2, cc, ws, ee, gb, hcs, hex, hws⟩ := (hG.ext e1).gate hgi
    cases ee
    obtain ⟨qw, cw, rfl⟩ := hws.ints.lenN
    obtain ⟨r, b, r2, es, hh1, hh2, hh3⟩ := hC.ext e1
    obtain ⟨j, k, hh4⟩ := hh3 _ (kind_in hgo)
    have hrl : runM (Gs.take i) x < 2 ^ n := runM_lt hx fun g' hg' => hall g' (List.mem_of_mem_take hg')
    have hp10 : 2 ^ n ≤ 2 ^ 10 := Nat.pow_le_pow_right (by omega) h10
    refine cSkip (kSeqN ?_)
    refine cSeq ?_
    refine cBlock ?_
    refine cSeq ?_
    refine cRegion ?_
    refine sIx T28 S49 rfl rfl c0 ?_
    refine sLdA A49 S49 rfl gb (by omega) ?_
    rw [hex]
    refine sAlloc Z49 (by kernel_rfl) ?_
    refine sStNA S49 rfl rfl rfl rfl (by kernel_rfl) ?_
    have e2 : Ext m' (m'.push (.cells true #[nv g.1, .slice qw g.2.length cw, nv 0, nv 0])) := .push _ _
    have hm : Mem.get (m'.push (.cells true #[nv g.1, .slice qw g.2.length cw, nv 0, nv 0])) b = .map r2 es := by rw [e2.2 b (Mem.lt_of_live (by rw [hh2]; rfl)), hh2]
    refine sNil (kSeqN ?_)
    refine cRegion ?_
    refine sLd (v := .map (some b)) A129 rfl (e2.cells hh1) rfl ?_
    refine sFA F49_0 rfl ?_
    refine sLd (v := nv g.1) A3 rfl (gP rfl) rfl ?_
    refine sO (v := .agg #[nv k, .func (.func 76) #[] #[]]) (opF_read rfl (lookC hm hh4)) ?_
    refine sP (v := .func (.func 76) #[] #[]) rfl ?_
    refine sMv (v := nv _) rfl ?_
    refine sFA F49_1 rfl ?_
    refine sLd (v := .slice qw g.2.length cw) A22 rfl (gP rfl) rfl ?_
    obtain ⟨v22, m22, h22, rfl, e22⟩ := spec_turnedG (x := runM (Gs.take i) x) (hws.ext e2) (by have := hgo.kind; omega) (by have := hgo.kind; omega) (fun y hy => by have := hgo.lt y hy; omega) (by omega)
    refine sCall2 rfl call76 rfl rfl h22 ?_
    refine sAs (v := nv _) rfl ?_
    refine sNil (kBlkN (kSeqN ?_))
    refine cRegion ?_
    refine sBin rfl rfl (aInt_add (b := 1) (by omega)) ?_
    refine sMv (v := nv _) rfl ?_
    refine sNil (kSeqN ?_)
    refine ⟨_, ?_, i + 1, rfl, by omega, X.trans (e2.trans e22), by rw [runM_take hgi]; rfl, rfl, rfl, rfl, trivial⟩
    omega
  ·
    refine cExit (kSeqE (kSeqE (kBlkS (kSeqN ?_))))
    refine cSeq ?_
    refine cRegion ?_
    refine sMv (v := nv _) rfl ?_
    refine sAs (v := nv _) rfl ?_
    refine sNil (kSeqN ?_)
    refine cRet ?_
    obtain rfl : i = Gs.length := by omega
    rw [List.take_length]
    exact ⟨.inr rfl, _, rfl, rfl, e1⟩
end Go.AM

/-! ### Q4 -/
namespace Go.AM
open Go.Proofs
set_option maxRecDepth 100000
set_option linter.unusedVariables false
set_option linter.unusedSimpArgs false
theorem posM_take {l : List Nat} {i y : Nat} (h : l[i]? = some y) : posM (l.take (i + 1)) = posM (l.take i) ||| 2 ^ y := by
  rw [List.take_add_one, h]
  simp [posM, posFrom]
theorem resRs_cell2 {P : Program} {ρ : Env} {m : Mem} {a ty b a2 ty2 b2 : Nat} {r r2 : Bool} {c c2 : Array Value} {v v2 : Value} (ht : isAggT P ty = some false) (hx : ρ a = .pointer (some ⟨b, 0, none⟩)) (hb : Mem.get m b = .cells r c) (hc : c[0]? = some v)
    (ht2 : isAggT P ty2 = some false) (hx2 : ρ a2 = .pointer (some ⟨b2, 0, none⟩)) (hb2 : Mem.get m b2 = .cells r2 c2) (hc2 : c2[0]? = some v2) : resRs P ρ m [.cell a ty, .cell a2 ty2] = some [v, v2] := by
  have h1 := resRs_cell (a := a) (ty := ty) ht hx hb hc
  have h2 := resRs_cell (a := a2) (ty := ty2) ht2 hx2 hb2 hc2
  simp only [resRs] at h1 h2 ⊢
  cases e1 : resR P ρ m (.cell a ty) with
  | none => rw [e1] at h1; cases h1
  | some x =>
    cases e2 : resR P ρ m (.cell a2 ty2) with
    | none => rw [e2] at h2; cases h2
    | some y =>
      rw [e1] at h1; rw [e2] at h2
      cases h1; cases h2; rfl
theorem okf39 : okF Tryd.prog H0 39 24 = true := by kernel_rfl
theorem spec_Apply {m : Mem} {N n x : Nat} {s : Value} {cs : Array Value} {Gs : List (Nat × List Nat)} (hC : GlobC m) (hG : OwnG N m s cs Gs) (hc : CircOk n Gs) (hx : x < 2 ^ n) : ∃ v m', ACalls Tryd.prog 39 #[.agg #[nv n, nv 0, s], nv x] m v m' ∧ (v = .tuple #[nv (runM Gs x), nv 0] ∧ Ext m m') := by
  obtain ⟨q, cap, rfl⟩ := hG.1.len
  have h10 := hc.ten
  have hp10 : 2 ^ n ≤ 2 ^ 10 := Nat.pow_le_pow_right (by omega) h10
  refine wpF (args := [_, _]) mixed okf39 (fn := Tryd.f39) rfl rfl rfl (by simp) ?_
  refine cSeq ?_
  refine cRegion ?_
  refine sBox (v := .agg _) rfl ?_
  change wpOps _ _ _ _ _ (m.push (.cells true #[nv n, nv 0, .slice q Gs.length cap]))
  have e1 : Ext m (m.push (.cells true #[nv n, nv 0, .slice q Gs.length cap])) := .push _ _
  have g1 : Mem.get (m.push (.cells true #[nv n, nv 0, .slice q Gs.length cap])) m.size = .cells true #[nv n, nv 0, .slice q Gs.length cap] := gP rfl
  refine sAs (v := nv 0) rfl ?_
  refine sAs (v := nv 0) rfl ?_
  refine sNil (kSeqN ?_)
  refine cSeq ?_
  refine cSeq ?_
  refine cRegion ?_
  refine sLdAll A30 S30 rfl g1 rfl ?_
  obtain ⟨v8, m8, h8, rfl, e8⟩ := spec_Check8 (hC.ext e1) (hG.ext e1) hc
  refine sCall1 rfl call45 rfl h8 ?_
  replace g1 := e8.cells g1
  replace e1 := e1.trans e8
  refine sAs (v := nv _) rfl ?_
  refine sNil (kSeqN ?_)
  refine cSeq ?_
  refine cRegion ?_
  refine sMv (v := nv _) rfl ?_
  refine sBin (v := .bool false) (a := 0) (b := 0) rfl rfl (neqF rfl) ?_
  refine sNil (kSeqN ?_)
  refine cCondF rfl ?_
  refine cSkip (kSeqN ?_)
  refine cSeq ?_   -- seq 4
  refine cSeq ?_
  refine cRegion ?_
  refine sMv (v := nv _) rfl ?_
  refine sBin (v := .bool false) (a := x) (b := 0) rfl rfl (by rw [aInt_lss, decide_eq_false (by omega)]) ?_
  refine sMv (v := .bool _) rfl ?_
  refine sG rfl rfl ?_
  refine sMv (v := nv _) rfl ?_
  refine sG rfl rfl ?_
  refine sFA F30_0 rfl ?_
  refine sG rfl rfl ?_
  refine sLd (v := nv n) A3 rfl g1 rfl ?_
  refine sG rfl rfl ?_
  refine sBin rfl rfl (aInt_shl (a := 1) (by omega)) ?_
  rw [Nat.shiftLeft_eq, Nat.one_mul]
  refine sG rfl rfl ?_
  refine sBin (v := .bool false) (a := x) (b := 2 ^ n) rfl rfl (by rw [aInt_geq, decide_eq_false (by omega)]) ?_
  refine sP (v := .bool false) rfl ?_
  refine sNil (kSeqN ?_)
  refine cCondF rfl ?_
  refine cSkip (kSeqN ?_)
  refine cSeq ?_
  refine cRegion ?_
  refine sLdAll A30 S30 rfl g1 rfl ?_
  refine sMv (v := nv _) rfl ?_
  obtain ⟨v23, m23, h23, rfl, e23⟩ := spec_run (hC.ext e1) (hG.ext e1) hc hx
  refine sCall2 rfl call97 rfl rfl h23 ?_
  refine sAs (v := nv _) rfl ?_
  refine sAs (v := nv 0) rfl ?_
  refine sNil (kSeqN ?_)
  refine cRet ?_
  exact ⟨.inr rfl, _, rfl, rfl, e1.trans e23⟩
theorem okf137 : okF Tryd.prog H0 137 12 = true := by kernel_rfl
theorem spec_mask1 {m : Mem} {p n : Nat} {r : Bool} {a b : Value} {x : Int} (h : Mem.get m p = .cells r #[nv n, a, b]) : ACalls Tryd.prog 137 #[.int .i64 x, .pointer (some ⟨p, 0, none⟩)] m (.bool (decide (x < 0) || decide (Int.ofNat n ≤ x))) m := by
  refine ACalls.callee ?_
  refine wpF (args := [_, _]) mixed okf137 (fn := Tryd.f137) rfl rfl rfl (by simp) ?_
  refine cSeq ?_
  refine cRegion ?_
  refine sAs (v := .bool _) rfl ?_
  refine sNil (kSeqN ?_)
  refine cSeq ?_
  refine cRegion ?_
  refine sMv (v := .int _ _) rfl ?_
  refine sBinI (v := .bool (decide (x < 0))) (b := 0) rfl rfl aInt_lssI ?_
  refine sMv (v := .bool _) rfl ?_
  by_cases h1 : x < 0
  ·
    rw [decide_eq_true h1]
    refine sGno (q' := true) rfl rfl (by simp) ?_
    refine sGno (q' := true) rfl rfl (by simp) ?_
    refine sGno (q' := true) rfl rfl (by simp) ?_
    refine sGno (q' := true) rfl rfl (by simp) ?_
    refine sP (v := .bool _) rfl ?_
    refine sAs (v := .bool _) rfl ?_
    refine sNil (kSeqN ?_)
    refine cRet ?_
    exact ⟨.inr rfl, _, rfl, rfl, rfl⟩
  ·
    rw [decide_eq_false h1]
    refine sG rfl rfl ?_
    refine sMv (v := .int _ _) rfl ?_
    refine sG rfl rfl ?_
    refine sFA F30_0 rfl ?_
    refine sG rfl rfl ?_
    refine sLd (v := nv n) A3 rfl h rfl ?_
    refine sG rfl rfl ?_
    refine sBinI (v := .bool (decide (Int.ofNat n ≤ x))) rfl rfl aInt_geqI ?_
    refine sP (v := .bool _) rfl ?_
    refine sAs (v := .bool _) rfl ?_
    refine sNil (kSeqN ?_)
    refine cRet ?_
    exact ⟨.inr rfl, _, rfl, rfl, rfl⟩
theorem okf102 : okF Tryd.prog H0 102 35 = true := by kernel_rfl
theorem spec_mask {m : Mem} {N n : Nat} {s a : Value} {cs : Array Value} {Gs : List (Nat × List Nat)} {l : List Nat} (hC : GlobC m) (hG : OwnG N m s cs Gs) (hc : CircOk n Gs) (ha : IntsAt m a (ofs l)) (hlt : ∀ y ∈ l, y < n) (hnd : l.Nodup) : ∃ v m', ACalls Tryd.prog 102 #[.agg #[nv n, nv 0, s], a] m v m' ∧ (v = .tuple #[nv (posM l), nv 0] ∧ Ext m m') := by
  obtain ⟨q, cap, rfl⟩ := hG.1.len
  obtain ⟨qa, ca, rfl⟩ := ha.lenN
  have h10 := hc.ten
  have hll : l.length ≤ n := nodup_le hnd hlt
  refine wpF (args := [_, _]) mixed okf102 (fn := Tryd.f102) rfl rfl rfl (by simp) ?_
  refine cSeq ?_
  refine cRegion ?_
  refine sBox (v := .agg _) rfl ?_
  change wpOps _ _ _ _ _ (m.push (.cells true #[nv n, nv 0, .slice q Gs.length cap]))
  have e1 : Ext m (m.push (.cells true #[nv n, nv 0, .slice q Gs.length cap])) := .push _ _
  have g1 : Mem.get (m.push (.cells true #[nv n, nv 0, .slice q Gs.length cap])) m.size = .cells true #[nv n, nv 0, .slice q Gs.length cap] := gP rfl
  refine sAs (v := nv 0) rfl ?_
  refine sAs (v := nv 0) rfl ?_
  refine sNil (kSeqN ?_)
  refine cSeq ?_
  refine cSeq ?_
  refine cRegion ?_
  refine sLdAll A30 S30 rfl g1 rfl ?_
  obtain ⟨v8, m8, h8, rfl, e8⟩ := spec_Check8 (hC.ext e1) (hG.ext e1) hc
  refine sCall1 rfl call45 rfl h8 ?_
  replace g1 := e8.cells g1
  replace e1 := e1.trans e8
  refine sAs (v := nv _) rfl ?_
  refine sNil (kSeqN ?_)
  refine cSeq ?_
  refine cRegion ?_
  refine sMv (v := nv _) rfl ?_
  refine sBin (v := .bool false) (a := 0) (b := 0) rfl rfl (neqF rfl) ?_
  refine sNil (kSeqN ?_)
  refine cCondF rfl ?_
  refine cSkip (kSeqN ?_)
  refine cSeq ?_   -- seq 4
  refine cSeq ?_
  refine cRegion ?_
  refine sMv (v := .slice _ _ _) rfl ?_
  refine sMFc1 rfl ?_
  have h17 := spec_ContainsFunc (m := m8) (p := fun x => decide (x < 0) || decide (Int.ofNat n ≤ x)) (ha.ext e1) (by rw [ofs_length]; omega) call137 (cp := #[.pointer (some ⟨m.size, 0, none⟩)]) fun x _ => spec_mask1 g1
  have hany : ((ofs l).any fun x => decide (x < 0) || decide (Int.ofNat n ≤ x)) = false := by
    rw [Bool.eq_false_iff]
    intro h
    obtain ⟨u, hu, h2⟩ := List.any_eq_true.1 h
    obtain ⟨y, hy, rfl⟩ := List.mem_map.1 hu
    have := hlt y hy
    simp at h2; omega
  rw [hany] at h17
  refine sCall2 rfl call107 rfl rfl h17 ?_
  refine sNil (kSeqN ?_)
  refine cCondF rfl ?_
  refine cSkip (kSeqN ?_)
  refine cSeq ?_
  refine cRegion ?_
  refine sAs (v := nv 0) rfl ?_
  refine sNil (kSeqN ?_)
  refine cSeq ?_
  refine cSeq ?_
  refine cRegion ?_
  refine sMv (v := .slice _ _ _) rfl ?_
  refine sLen T22 rfl ?_
  refine sMv (v := nv 0) rfl ?_
  refine sNil (kSeqN ?_)
  refine cBlock ?_
  refine wpC_loop (fun k' ρ m' => ∃ i, k' = l.length - i ∧ i ≤ l.length ∧ m8 = m' ∧ Has ρ [(7, nv (posM (l.take i))), (18, .slice qa l.length ca), (19, nv l.length), (20, nv i)]) ⟨0, rfl, by omega, rfl, rfl, rfl, rfl, rfl, trivial⟩ ?_
  rintro k' ρ _ ⟨i, rfl, hi, rfl, hh⟩
  rw [hh.env]; clear hh
  refine cSeq ?_
  refine cRegion ?_
  refine sBin rfl rfl (aInt_lss) ?_
  refine sNil (kSeqN ?_)
  refine cSeq ?_   -- seq 10
  refine cCond rfl (fun c2 => ?_) (fun c2 => ?_)
  ·
    obtain ⟨b1, o1, p1, r1, cc, ee1, gg, x1⟩ := (ha.ext e1).atN (by omega)
    cases ee1
    have hy := hlt l[i] (List.getElem_mem c2)
    have hpl : posM (l.take i) < 2 ^ 10 := posM_lt fun y hy => by have := hlt y (List.mem_of_mem_take hy); omega
    have h2y : 2 ^ l[i] < 2 ^ 10 := Nat.pow_lt_pow_right (by omega) (by omega)
    have hsh := Nat.shiftRight_le (posM (l.take i)) l[i]
    have hni : ¬ l[i] ∈ l.take i := fun hm => by
      obtain ⟨j, hj, e⟩ := List.getElem_of_mem hm
      rw [List.length_take] at hj
      rw [List.getElem_take] at e
      have := (List.getElem_inj hnd).1 e
      omega
    have hbit : ¬ (posM (l.take i) >>> l[i] &&& 1 = 1) := fun h => by
      have := (bit_one _ _).1 h
      rw [posM_bit, decide_eq_true_eq] at this
      exact hni this
    refine cSkip (kSeqN ?_)
    refine cSeq ?_
    refine cBlock ?_
    refine cSeq ?_
    refine cRegion ?_
    refine sIx T22 S3 rfl rfl (by omega) ?_
    refine sLd (v := nv l[i]) A3 rfl gg (x1 i l[i] (by simp)) ?_
    refine sAs (v := nv _) rfl ?_
    refine sNil (kSeqN ?_)
    refine cSeq ?_   -- seq 13
    refine cSeq ?_
    refine cRegion ?_
    refine sMv (v := nv _) rfl ?_
    refine sMv (v := nv _) rfl ?_
    refine sBin (a := posM (l.take i)) (b := l[i]) rfl rfl (aInt_shr (by omega)) ?_
    refine sBin (b := 1) rfl rfl (aInt_and (by omega)) ?_
    refine sBin (v := .bool false) (b := 1) rfl rfl (by rw [aInt_eql, decide_eq_false hbit]) ?_
    refine sNil (kSeqN ?_)
    refine cCondF rfl ?_
    refine cSkip (kSeqN ?_)
    refine cRegion ?_
    refine sMv (v := nv _) rfl ?_
    refine sMv (v := nv _) rfl ?_
    refine sBin rfl rfl (aInt_shl (a := 1) (by omega)) ?_
    rw [Nat.shiftLeft_eq, Nat.one_mul]
    refine sBin (a := posM (l.take i)) (b := 2 ^ l[i]) rfl rfl (aInt_or ⟨by omega, by omega⟩) ?_
    refine sAs (v := nv _) rfl ?_
    refine sNil (kBlkN (kSeqN ?_))
    refine cRegion ?_
    refine sBin rfl rfl (aInt_add (b := 1) (by omega)) ?_
    refine sMv (v := nv _) rfl ?_
    refine sNil (kSeqN ?_)
    refine ⟨_, ?_, i + 1, rfl, by omega, rfl, by rw [posM_take (List.getElem?_eq_getElem c2)]; rfl, rfl, rfl, rfl, trivial⟩
    omega
  ·
    refine cExit (kSeqE (kSeqE (kBlkS (kSeqN ?_))))
    refine cSeq ?_
    refine cRegion ?_
    refine sMv (v := nv _) rfl ?_
    refine sAs (v := nv _) rfl ?_
    refine sAs (v := nv 0) rfl ?_
    refine sNil (kSeqN ?_)
    refine cRet ?_
    obtain rfl : i = l.length := by omega
    rw [List.take_length]
    exact ⟨.inr rfl, _, rfl, rfl, e1⟩
def H34 : Nat → List (Nat × Nat) := fun id => if id = 1 then [(1,8),(5,8),(8,0)] else []
theorem okf104 : okF Tryd.prog H34 104 17 = true := by kernel_rfl
theorem okf130 : okF Tryd.prog H0 130 4 = true := by kernel_rfl
theorem spec_states {m : Mem} {n : Nat} : ∃ v m', ACalls Tryd.prog 130 #[nv n] m v m' ∧ (v = .func (.func 149) #[] #[.pointer (some ⟨m.size, 0, none⟩)] ∧ m.push (.cells true #[nv n]) = m') := by
  refine wpF (args := [_]) mixed okf130 (fn := Tryd.f130) rfl rfl rfl (by simp) ?_
  refine cSeq ?_
  refine cRegion ?_
  refine sBox (v := nv _) rfl ?_
  refine sAs rfl ?_
  refine sNil (kSeqN ?_)
  refine cSeq ?_
  refine cRegion ?_
  refine sMFc1 rfl ?_
  refine sAs rfl ?_
  refine sNil (kSeqN ?_)
  refine cRet ?_
  exact ⟨.inr rfl, _, rfl, rfl, rfl⟩
theorem okf149 : okF Tryd.prog H0 149 14 = true := by kernel_rfl
theorem spec_states1 {m : Mem} {lp p n : Nat} {J : Nat → Mem → Prop} (hn : n ≤ 10)
      (hview : ∀ i m', J i m' → ∃ r, Mem.get m' p = .cells r #[nv n])
      (hJ : ∀ i m', i < 2 ^ n → J i m' → ∃ m'', ARound Tryd.prog lp #[nv i] m' (.bool true) m'' ∧ J (i + 1) m'')
      (h0 : J 0 m) : ∃ v m', ACalls Tryd.prog 149 #[.func (.yield lp) #[] #[], .pointer (some ⟨p, 0, none⟩)] m v m' ∧ J (2 ^ n) m' := by
  obtain ⟨r, g1⟩ := hview 0 m h0
  have hp10 : 2 ^ n ≤ 2 ^ 10 := Nat.pow_le_pow_right (by omega) hn
  refine wpF (args := [_, _]) mixed okf149 (fn := Tryd.f149) rfl rfl rfl (by simp) ?_
  refine cSeq ?_
  refine cRegion ?_
  refine sLd (v := nv n) A3 rfl g1 rfl ?_
  refine sBin rfl rfl (aInt_shl (a := 1) (by omega)) ?_
  rw [Nat.shiftLeft_eq, Nat.one_mul]
  refine sMv (v := nv 0) rfl ?_
  refine sNil (kSeqN ?_)
  refine cBlock ?_
  refine wpC_loop (fun k' ρ m' => ∃ i, k' = 2 ^ n - i ∧ i ≤ 2 ^ n ∧ J i m' ∧ Has ρ [(0, .func (.yield lp) #[] #[]), (5, nv (2 ^ n)), (6, nv i)]) ⟨0, rfl, Nat.zero_le _, h0, rfl, rfl, rfl, trivial⟩ ?_
  clear g1
  rintro k' ρ m' ⟨i, rfl, hi, hJi, hh⟩
  rw [hh.env]; clear hh
  refine cSeq ?_
  refine cRegion ?_
  refine sBin rfl rfl (aInt_lss) ?_
  refine sNil (kSeqN ?_)
  refine cSeq ?_   -- seq 2
  refine cCond rfl (fun c0 => ?_) (fun c0 => ?_)
  ·
    refine cSkip (kSeqN ?_)
    refine cSeq ?_
    refine cBlock ?_
    refine cSeq ?_
    refine cRegion ?_
    refine sMv (v := nv _) rfl ?_
    refine sAs (v := nv _) rfl ?_
    refine sNil (kSeqN ?_)
    refine cSeq ?_
    refine cRegion ?_
    refine sMv (v := .func _ _ _) rfl ?_
    refine sMv (v := nv _) rfl ?_
    obtain ⟨m11, hR, hJ2⟩ := hJ i m' c0 hJi
    refine sYield1 rfl rfl hR ?_
    refine sP (v := .bool false) rfl ?_
    refine sNil (kSeqN ?_)
    refine cCondF rfl ?_
    refine cSkip (kBlkN (kSeqN ?_))
    refine cRegion ?_
    refine sBin rfl rfl (aInt_add (b := 1) (by omega)) ?_
    refine sMv (v := nv _) rfl ?_
    refine sNil (kSeqN ?_)
    refine ⟨_, ?_, i + 1, rfl, by omega, hJ2, rfl, rfl, rfl, trivial⟩
    omega
  ·
    refine cExit (kSeqE (kSeqE (kBlkS ?_)))
    obtain rfl : i = 2 ^ n := by omega
    exact ⟨.inl rfl, _, rfl, hJi⟩
theorem okf103 : okF Tryd.prog H0 103 15 = true := by kernel_rfl
theorem okf46 : okF Tryd.prog H0 46 23 = true := by kernel_rfl
end Go.AM

/-! ### RD0 -/
namespace Go.AM
open Go.Proofs
set_option maxRecDepth 100000
theorem T64 : undOf Tryd.prog 64 = some (.slice 66) := by kernel_rfl
theorem T112 : undOf Tryd.prog 112 = some (.slice 109) := by kernel_rfl
theorem T119 : undOf Tryd.prog 119 = some (.slice 34) := by kernel_rfl
theorem T161 : undOf Tryd.prog 161 = some (.slice 25) := by kernel_rfl
theorem T108 : undOf Tryd.prog 108 = some (.array 8 3) := by kernel_rfl
theorem T109 : undOf Tryd.prog 109 = some (.array 8 3) := by kernel_rfl
theorem T94 : undOf Tryd.prog 94 = some (.map 3 4) := by kernel_rfl
theorem T111 : undOf Tryd.prog 111 = some (.map 109 116) := by kernel_rfl
theorem A64 : isAggT Tryd.prog 64 = some false := by kernel_rfl
theorem S66 : szOf Tryd.prog 66 = some 3 := by kernel_rfl
theorem A66 : isAggT Tryd.prog 66 = some true := by kernel_rfl
theorem S96 : szOf Tryd.prog 96 = some 3 := by kernel_rfl
theorem S109 : szOf Tryd.prog 109 = some 8 := by kernel_rfl
theorem A109 : isAggT Tryd.prog 109 = some true := by kernel_rfl
theorem A111 : isAggT Tryd.prog 111 = some false := by kernel_rfl
theorem S116 : szOf Tryd.prog 116 = some 10 := by kernel_rfl
theorem A116 : isAggT Tryd.prog 116 = some true := by kernel_rfl
theorem Z66 : zeroOf Tryd.prog 66 = some (.agg #[nv 0, nv 0, .slice none 0 0]) := by kernel_rfl
theorem Z96 : zeroOf Tryd.prog 96 = some (.agg #[nv 0, nv 0, .slice none 0 0]) := by kernel_rfl
theorem Z109 : zeroOf Tryd.prog 109 = some (.agg #[nv 0, nv 0, nv 0, nv 0, nv 0, nv 0, nv 0, nv 0]) := by kernel_rfl
theorem Z116 : zeroOf Tryd.prog 116 = some (.agg #[nv 0, nv 0, nv 0, nv 0, nv 0, nv 0, nv 0, nv 0, nv 0, nv 0]) := by kernel_rfl
theorem F66_0 {b o : Nat} : aFieldAddr Tryd.prog 66 (.pointer (some ⟨b, o, none⟩)) 0 = some (.pointer (some ⟨b, o, none⟩)) := by kernel_rfl
theorem F66_1 {b o : Nat} : aFieldAddr Tryd.prog 66 (.pointer (some ⟨b, o, none⟩)) 1 = some (.pointer (some ⟨b, o + 1, none⟩)) := by kernel_rfl
theorem F66_2 {b o : Nat} : aFieldAddr Tryd.prog 66 (.pointer (some ⟨b, o, none⟩)) 2 = some (.pointer (some ⟨b, o + 2, none⟩)) := by kernel_rfl
theorem F96_0 {b o : Nat} : aFieldAddr Tryd.prog 96 (.pointer (some ⟨b, o, none⟩)) 0 = some (.pointer (some ⟨b, o, none⟩)) := by kernel_rfl
theorem F116_2 {b o : Nat} : aFieldAddr Tryd.prog 116 (.pointer (some ⟨b, o, none⟩)) 2 = some (.pointer (some ⟨b, o + 9, none⟩)) := by kernel_rfl
theorem call14 : callable Tryd.prog 14 = true := by kernel_rfl
theorem call16 : callable Tryd.prog 16 = true := by kernel_rfl
theorem call18 : callable Tryd.prog 18 = true := by kernel_rfl
theorem call21 : callable Tryd.prog 21 = true := by kernel_rfl
theorem call23 : callable Tryd.prog 23 = true := by kernel_rfl
theorem call29 : callable Tryd.prog 29 = true := by kernel_rfl
theorem call35 : callable Tryd.prog 35 = true := by kernel_rfl
theorem call36 : callable Tryd.prog 36 = true := by kernel_rfl
theorem call41 : callable Tryd.prog 41 = true := by kernel_rfl
theorem call48 : callable Tryd.prog 48 = true := by kernel_rfl
theorem call55 : callable Tryd.prog 55 = true := by kernel_rfl
theorem call57 : callable Tryd.prog 57 = true := by kernel_rfl
theorem call68 : callable Tryd.prog 68 = true := by kernel_rfl
theorem call69 : callable Tryd.prog 69 = true := by kernel_rfl
theorem call70 : callable Tryd.prog 70 = true := by kernel_rfl
theorem call71 : callable Tryd.prog 71 = true := by kernel_rfl
theorem call72 : callable Tryd.prog 72 = true := by kernel_rfl
theorem call74 : callable Tryd.prog 74 = true := by kernel_rfl
theorem call75 : callable Tryd.prog 75 = true := by kernel_rfl
theorem call77 : callable Tryd.prog 77 = true := by kernel_rfl
theorem call78 : callable Tryd.prog 78 = true := by kernel_rfl
theorem call79 : callable Tryd.prog 79 = true := by kernel_rfl
theorem call80 : callable Tryd.prog 80 = true := by kernel_rfl
theorem call81 : callable Tryd.prog 81 = true := by kernel_rfl
theorem call82 : callable Tryd.prog 82 = true := by kernel_rfl
theorem call87 : callable Tryd.prog 87 = true := by kernel_rfl
theorem call88 : callable Tryd.prog 88 = true := by kernel_rfl
theorem call89 : callable Tryd.prog 89 = true := by kernel_rfl
theorem call90 : callable Tryd.prog 90 = true := by kernel_rfl
theorem call95 : callable Tryd.prog 95 = true := by kernel_rfl
theorem call98 : callable Tryd.prog 98 = true := by kernel_rfl
theorem call106 : callable Tryd.prog 106 = true := by kernel_rfl
theorem call113 : callable Tryd.prog 113 = true := by kernel_rfl
theorem call115 : callable Tryd.prog 115 = true := by kernel_rfl
theorem call116 : callable Tryd.prog 116 = true := by kernel_rfl
theorem call127 : callable Tryd.prog 127 = true := by kernel_rfl
theorem call131 : callable Tryd.prog 131 = true := by kernel_rfl
theorem call132 : callable Tryd.prog 132 = true := by kernel_rfl
theorem call135 : callable Tryd.prog 135 = true := by kernel_rfl
theorem call139 : callable Tryd.prog 139 = true := by kernel_rfl
theorem call140 : callable Tryd.prog 140 = true := by kernel_rfl
theorem call141 : callable Tryd.prog 141 = true := by kernel_rfl
theorem call156 : callable Tryd.prog 156 = true := by kernel_rfl
end Go.AM

/-! ### R0 -/
namespace Go.AM
open Go.Proofs
set_option maxRecDepth 100000
set_option linter.unusedVariables false
set_option linter.unusedSimpArgs false
/-- A slice of n elements of w cells that may be read. -/
def SrcC (m : Mem) (x : Value) (w n : Nat) (d : Array Value) : Prop :=
  (x = .slice none 0 0 ∧ n = 0 ∧ d = #[]) ∨ ∃ b o k c r, x = .slice (some ⟨b, o, some w⟩) n k ∧ Mem.get m b = .cells r c ∧ o + n * w ≤ c.size ∧ d = c.extract o (o + n * w)
theorem SrcC.size {m : Mem} {x : Value} {w n : Nat} {d : Array Value} (h : SrcC m x w n d) : d.size = n * w := by
  rcases h with ⟨_, rfl, rfl⟩ | ⟨b, o, k, c, r, _, _, h, rfl⟩
  · simp
  · simp; omega
theorem OwnC.src {N : Nat} {m : Mem} {v : Value} {w n : Nat} {cs : Array Value} (h : OwnC N m v w n cs) : SrcC m v w n cs := by
  rcases h with h | ⟨b, cap, c, rfl, g2, g3, g4, g5, g6, g7⟩
  · exact .inl h
  · have hle : n * w ≤ c.size := by rw [g5]; exact Nat.mul_le_mul_right w g4
    refine .inr ⟨b, 0, cap, c, true, rfl, g3, by omega, ?_⟩
    rw [Nat.zero_add]
    apply Array.ext
    · simp; omega
    · intro i hi hi'
      have hin : i < n * w := by omega
      have := g7 i hin
      rw [Array.getElem_extract]
      rw [Array.getElem?_eq_getElem hi, Array.getElem?_eq_getElem (by omega)] at this
      simpa using this.symm
theorem SrcC.ext {m m' : Mem} {x : Value} {w n : Nat} {d : Array Value} (h : SrcC m x w n d) (he : Ext m m') : SrcC m' x w n d := by
  rcases h with h | ⟨b, o, k, c, r, h1, h2, h3, h4⟩
  · exact .inl h
  · exact .inr ⟨b, o, k, c, r, h1, he.cells h2, h3, h4⟩
theorem ownC_appendN {P : Program} {t xt : TypeId} {N : Nat} {m : Mem} {v x : Value} {w n n2 : Nat} {cs d : Array Value} (hT : ElemT P t xt w) (h : OwnC N m v w n cs) (hs : SrcC m x w n2 d) (h1 : d.all Value.oneCell' = true) (hN : N ≤ m.size) (hn : n ≤ 1000000) (hn2 : n2 ≤ 1000000) :
    ∃ v' m', aAppend P m t xt v x = some (v', m') ∧ OwnC N m' v' w (n + n2) (cs ++ d) ∧ Low N m m' ∧ Grew m v m' v' := by
  obtain ⟨e, ux, z, kb, t1, t2, t3, t4, t5, t6, t7, t8, t9⟩ := hT.e
  have hd := hs.size
  have hf : aFirst m w n2 x = some d := by
    unfold aFirst
    rcases hs with ⟨rfl, rfl, rfl⟩ | ⟨b, o, k, c, r, rfl, hx, hle, rfl⟩
    · rfl
    · by_cases h0 : n2 = 0
      · subst h0; simp; omega
      · simp only [hx]
        rw [if_neg h0, if_pos (by omega)]
  have hl : aLenOf x = some n2 := by
    rcases hs with ⟨rfl, rfl, rfl⟩ | ⟨b, o, k, c, r, rfl, hx, hle, rfl⟩ <;> rfl
  have hcond : 0 < w ∧ z.cells.size = w ∧ d.size = n2 * w ∧ d.all Value.oneCell' = true := ⟨t9, t6, hd, h1⟩
  by_cases h0 : n2 = 0
  · subst h0
    have hd0 : d = #[] := Array.eq_empty_of_size_eq_zero (by omega)
    subst hd0
    refine ⟨v, m, ?_, by simpa using h, .refl _ _, Nat.le_refl _, fun _ _ _ => rfl, .inl rfl⟩
    unfold aAppend
    simp only [t1, t2, t3, t4, t5, t7, hl, hf]
    rw [if_pos hcond]
    rcases h with ⟨rfl, rfl, rfl⟩ | ⟨b, cap, c, rfl, g2, g3, g4, g5, g6, g7⟩ <;> simp
  · unfold aAppend
    simp only [t1, t2, t3, t4, t5, t7, hl, hf]
    rw [if_pos hcond]
    have hn3 : n2 * kb ≤ 1000000 * 1000 := Nat.mul_le_mul hn2 t8
    rcases h with ⟨rfl, rfl, rfl⟩ | ⟨b, cap, c, rfl, g2, g3, g4, g5, g6, g7⟩
    · simp only [if_neg h0]
      rw [if_pos ⟨by omega, by omega⟩]
      exact ⟨_, _, rfl, .inr ⟨m.size, n2, d, by rw [Nat.zero_add], hN, gP rfl, by omega, hd, by simp; omega, fun i _ => by simp⟩, .push N hN _, by simp, fun b hb _ => gPn hb, .inr ⟨m.size, rfl, Nat.le_refl _⟩⟩
    · have hb := live g3
      simp only [if_true, g3, if_neg h0]
      have e1 : n * w + n2 * w = (n + n2) * w := by rw [Nat.add_mul]
      by_cases hc : n + n2 ≤ cap
      · have hcw : (n + n2) * w ≤ cap * w := Nat.mul_le_mul_right w hc
        rw [if_pos hc, if_pos (by omega)]
        refine ⟨_, _, rfl, .inr ⟨b, cap, lay c (0 + n * w) d, rfl, g2, gS rfl hb, hc, by rw [lay_size]; exact g5, by rw [Array.size_append]; omega, fun i hi => ?_⟩, .set g2 _, by simp, fun b' _ hne => gSn (fun e => hne (by rw [← e]; rfl)), .inl rfl⟩
        rw [lay_get', hd]
        by_cases hil : i < n * w
        · rw [if_neg (by omega), g7 i hil, Array.getElem?_append_left (by omega)]
        · rw [if_pos (by omega), Array.getElem?_append_right (by omega)]
          congr 1; omega
      · rw [if_neg hc]
        have hle : n * w ≤ c.size := by rw [g5]; exact Nat.mul_le_mul_right w g4
        have hbb : (n + n2) * kb ≤ 70368744177664 := Nat.le_trans (Nat.mul_le_mul (show n + n2 ≤ 2000000 by omega) t8) (by decide)
        rw [if_pos ⟨trivial, hle, by omega, hbb⟩]
        refine ⟨_, _, rfl, .inr ⟨m.size, n + n2, _, rfl, hN, gP (by simp), Nat.le_refl _, ?_, by rw [Array.size_append]; omega, fun i hi => ?_⟩, .push' (.set g2 _) (by simpa using hN) _, by simp, fun b' hb' hne => by rw [gPn (by simpa using hb'), gSn (fun e => hne (by rw [← e]; rfl))], .inr ⟨m.size, rfl, Nat.le_refl _⟩⟩
        · simp only [Array.size_append, Array.size_extract]; omega
        · by_cases hil : i < n * w
          · rw [Array.getElem?_append_left (by simp; omega), Array.getElem?_append_left (by omega), Array.getElem?_extract, if_pos (by omega)]
            simpa using g7 i hil
          · rw [Array.getElem?_append_right (by simp; omega), Array.getElem?_append_right (by omega)]
            congr 1
            simp; omega
theorem sAppCn {P : Program} {ρ : Env} {m : Mem} {K : Env → Mem → Prop} {ops : Array Oper} {l : List Oper} {dd : Option Nat} {ty : TypeId} {pos : String} {af : Array Edge} {x y : Operand} {t xt : TypeId} {N : Nat} {v u : Value} {w n n2 : Nat} {cs d : Array Value}
    (hT : ElemT P t xt w) (hx : evR ρ x = v) (hy : evR ρ y = u) (h : OwnC N m v w n cs) (hs : SrcC m u w n2 d) (h1 : d.all Value.oneCell' = true) (hN : N ≤ m.size) (hn : n ≤ 1000000) (hn2 : n2 ≤ 1000000)
    (hk : ∀ v' m', OwnC N m' v' w (n + n2) (cs ++ d) → Low N m m' → Grew m v m' v' → wpOps P ops K l (updO ρ dd v') m') : wpOps P ops K (⟨dd, .call ⟨.builtin .append, ⟨[x, y]⟩, ⟨[t, xt]⟩⟩, ty, pos, af, none⟩ :: l) ρ m := by
  obtain ⟨v', m', e1, h2, h3, h4⟩ := ownC_appendN hT h hs h1 hN hn hn2
  refine sO (opF_eff rfl rfl ?_) (hk v' m' h2 h3 h4)
  simp only [aEff, hx, hy, e1]
end Go.AM

/-! ### R1 -/
namespace Go.AM
open Go.Proofs
set_option maxRecDepth 100000
set_option linter.unusedVariables false
set_option linter.unusedSimpArgs false
def wiresM (x : Nat) : List Nat := nodesUp x 12
theorem okf77 : okF Tryd.prog H0 77 19 = true := by kernel_rfl
theorem spec_wires {m : Mem} {x : Nat} (hx : x < 9223372036854775808) : ∃ v m', ACalls Tryd.prog 77 #[nv x] m v m' ∧ (OwnF m.size m' v (ofs (wiresM x)) ∧ Ext m m') := by
  refine wpF (args := [_]) mixed okf77 (fn := Tryd.f77) rfl rfl rfl (by simp) ?_
  refine cSeq ?_
  refine cRegion ?_
  refine sAs (v := .slice _ _ _) rfl ?_
  refine sNil (kSeqN ?_)
  refine cSeq ?_
  refine cRegion ?_
  refine sAs (v := .slice _ _ _) rfl ?_
  refine sNil (kSeqN ?_)
  refine cSeq ?_
  refine cSeq ?_
  refine cRegion ?_
  refine sMv (v := nv 0) rfl ?_
  refine sNil (kSeqN ?_)
  refine cBlock ?_
  refine wpC_loop (fun k ρ m' => ∃ i v, k = 12 - i ∧ i ≤ 12 ∧ Low m.size m m' ∧ OwnF m.size m' v (ofs (nodesUp x i)) ∧ Has ρ [(0, nv x), (3, v), (5, nv i)]) ⟨0, _, rfl, by omega, .refl _ _, .nil _ _, rfl, rfl, rfl, trivial⟩ ?_
  rintro k ρ m' ⟨i, v, rfl, hi, hLo, hO, hh⟩
  obtain ⟨qv, cv, rfl⟩ := hO.ints.lenN
  rw [hh.env]; clear hh
  have hsz := hLo.1
  have hnl := nodesUp_len x i
  refine cSeq ?_
  refine cRegion ?_
  refine sBin (b := 12) rfl rfl aInt_lss ?_
  refine sNil (kSeqN ?_)
  refine cSeq ?_   -- seq 5
  refine cCond rfl (fun c0 => ?_) (fun c0 => ?_)
  ·
    refine cSkip (kSeqN ?_)
    refine cSeq ?_
    refine cBlock ?_
    refine cSeq ?_
    refine cRegion ?_
    refine sMv (v := nv _) rfl ?_
    refine sAs (v := nv _) rfl ?_
    refine sNil (kSeqN ?_)
    refine cSeq ?_
    refine cRegion ?_
    refine sMv (v := nv _) rfl ?_
    refine sMv (v := nv _) rfl ?_
    refine sBin (a := x) (b := i) rfl rfl (aInt_shr (by omega)) ?_
    have hsh := Nat.shiftRight_le x i
    refine sBin (b := 1) rfl rfl (aInt_and (by omega)) ?_
    refine sBin (b := 1) rfl rfl aInt_eql ?_
    refine sNil (kSeqN ?_)
    refine cCond rfl (fun c1 => ?_) (fun c1 => ?_)
    ·
      have hb := (bit_one x i).1 c1
      refine cRegion ?_
      refine sMv (v := .slice _ _ _) rfl ?_
      refine sMv (v := nv _) rfl ?_
      refine sBuildS T22 S3 Z3 (by decide) (by decide) (by decide) (by kernel_rfl) fill1 rfl ?_
      refine sApp App22 rfl rfl (N := m.size) (hO.ext (.push _ _)) one_ints (by simp; omega) (by simp; omega) fun v3 m3 hO3 hL3 => ?_
      have hI3 := hO3.ints
      obtain ⟨q3, cp3, rfl⟩ := hI3.len
      refine sAs (v := .slice _ _ _) rfl ?_
      refine sNil (kBlkN (kSeqN ?_))
      refine cRegion ?_
      refine sBin rfl rfl (aInt_add (b := 1) (by omega)) ?_
      refine sMv (v := nv _) rfl ?_
      refine sNil (kSeqN ?_)
      refine ⟨_, ?_, i + 1, _, rfl, by omega, hLo.trans ((Low.push _ hsz _).trans hL3), by rw [nodesUp_succ, if_pos hb, ofs_append]; exact hO3, rfl, rfl, rfl, trivial⟩
      omega
    ·
      refine cSkip (kBlkN (kSeqN ?_))
      refine cRegion ?_
      refine sBin rfl rfl (aInt_add (b := 1) (by omega)) ?_
      refine sMv (v := nv _) rfl ?_
      refine sNil (kSeqN ?_)
      refine ⟨_, ?_, i + 1, _, rfl, by omega, hLo, by rw [nodesUp_succ, if_neg (fun h => c1 ((bit_one x i).2 h)), List.append_nil]; exact hO, rfl, rfl, rfl, trivial⟩
      omega
  ·
    refine cExit (kSeqE (kSeqE (kBlkS (kSeqN ?_))))
    refine cSeq ?_
    refine cRegion ?_
    refine sMv (v := .slice _ _ _) rfl ?_
    refine sAs (v := .slice _ _ _) rfl ?_
    refine sNil (kSeqN ?_)
    refine cRet ?_
    obtain rfl : i = 12 := by omega
    exact ⟨.inr rfl, _, rfl, hO, hLo⟩
def H78 : Nat → List (Nat × Nat) := fun id => if id = 1 then [(999999, 0), (2, 6), (2, 9)] else []
theorem okf78 : okF Tryd.prog H78 78 15 = true := by kernel_rfl
theorem spec_turn {m : Mem} {k : Nat} {a : Value} {l : List Nat} (ha : IntsAt m a (ofs l)) (hl : l.length ≤ 2) : ∃ v m', ACalls Tryd.prog 78 #[nv k, a] m v m' ∧ (∃ w, v = .agg #[nv (kindM l.length), w, nv 0, nv 0] ∧ OwnF (m.size + 1) m' w (ofs (l ++ [k])) ∧ Ext m m') := by
  obtain ⟨q, c, rfl⟩ := ha.lenN
  refine wpF (args := [_, _]) mixed okf78 (fn := Tryd.f78) rfl rfl rfl (by simp) ?_
  refine cSeq ?_
  refine cRegion ?_
  refine sAlloc Z49 (by kernel_rfl) ?_
  refine sNil (kSeqN ?_)
  refine cSeq ?_
  refine cDrawH (hs := [(999999, 0), (2, 6), (2, 9)]) rfl (by decide) ?_
  refine lStepO (sBuild B105k (sNil fun e0 hm0 => ?_))
  refine lStepO (sMv (v := .slice _ _ _) rfl (sNil fun e1 hm1 => ?_))
  refine lStepLen T22 rfl fun e2 hm2 hv2 hr2 => ?_
  refine lStepO (sP (v := nv (kindM l.length)) (idx105 hl) (sNil fun e3 hm3 => ?_))
  refine lStepO (sMv (v := .slice _ _ _) rfl (sNil fun e4 hm4 => ?_))
  obtain ⟨v10, m10, h10, o10, e10⟩ := spec_Clone (ha.ext (.push _ _)) (by rw [ofs_length]; omega)
  obtain ⟨q10, c10, rfl⟩ := o10.ints.lenN
  have z10 := e10.1
  simp only [Array.size_push] at z10
  refine lStepO (sCall1 rfl call15 rfl h10 (sNil fun e5 hm5 => ?_))
  refine lStepO (sMv (v := nv _) rfl (sNil fun e6 hm6 => ?_))
  refine lStepO (sBuildS T22 S3 Z3 (by decide) (by decide) (by decide) (by kernel_rfl) fill1 rfl (sNil fun e7 hm7 => ?_))
  refine lStepO (sApp App22 rfl rfl (N := m.size + 1) ((o10.mono (by simp)).ext (.push _ _)) one_ints (by simp; omega) (by rw [ofs_length]; simp; omega) fun v13 m13 hO13 hL13 => (sNil fun e8 hm8 => ?_))
  rw [show ofs l ++ [Int.ofNat k] = ofs (l ++ [k]) by rw [ofs_append]; rfl] at hO13
  obtain ⟨q13, c13, rfl⟩ := hO13.ints.lenN
  have hE13 : Ext (m.push (.cells true #[nv 0, .slice none 0 0, nv 0, nv 0])) m13 := Low.to_ext (e10.trans (.push _ _)) hL13 (by simp)
  have g13 : Mem.get m13 m.size = .cells true #[nv 0, .slice none 0 0, nv 0, nv 0] := hE13.cells (gP rfl)
  refine lStepO (sBuild B76 (sNil fun e9 hm9 => ?_))
  refine lStepO (sStAll S49 rfl rfl g13 rfl rfl (by kernel_rfl) (sNil fun e10 hm10 => ?_))
  refine ⟨?_, (kSeqN ?_)⟩
  ·
    refine obl_fl (by simp) ?_
    refine obl_pure (e := e2) (by simp) (by rfl) (by rw [hv2]; exact hr2) ?_
    refine obl_pure (e := e2) (by simp) (by rfl) (by rw [hv2]; exact hr2) ?_
    trivial
  refine cRet ?_
  refine ⟨.inr rfl, _, resRs_agg A49 S49 rfl (gS rfl (live g13)) rfl, _, rfl, ?_, ?_⟩
  · rw [← ofs_length]
    exact hO13.keep fun b hb => gSn (by have := (hO13.lt hb).1; omega)
  · exact (Ext.push _ _).trans hE13 |>.set (b := m.size) (Nat.le_refl _) _
end Go.AM
