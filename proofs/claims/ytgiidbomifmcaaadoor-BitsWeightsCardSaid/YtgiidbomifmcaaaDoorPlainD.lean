/- Plain laws: sums one row a time, independent rows and ranks, the weights of what is orthogonal. -/
import Derived.Test.YtgiidbomifmcaaaDoorBitsC
import Derived.Test.YtgiidbomifmcaaaDoorPlainC
set_option linter.unusedVariables false
set_option linter.unusedSimpArgs false
/-! ### M16 -/
namespace Go.AM
set_option linter.unusedVariables false
/-- The number of the sum, in the order in which one row comes or goes at a time. -/
def grayN (i : Nat) : Nat := i ^^^ (i / 2)
theorem two_split (x : Nat) : x = 2 * (x / 2) + x % 2 := by omega
theorem xor_pair (a b r s : Nat) (hr : r < 2) (hs : s < 2) : (2 * a + r) ^^^ (2 * b + s) = 2 * (a ^^^ b) + (r ^^^ s) := by
  have h1 := xor_div_two (2 * a + r) (2 * b + s)
  have h2 := xor_mod_two (2 * a + r) (2 * b + s)
  rw [show (2 * a + r) / 2 = a by omega, show (2 * b + s) / 2 = b by omega] at h1
  rw [show (2 * a + r) % 2 = r by omega, show (2 * b + s) % 2 = s by omega] at h2
  rw [two_split ((2 * a + r) ^^^ (2 * b + s)), h1, h2]
theorem pred_xor : ∀ (f x : Nat), x ≠ 0 → x < 2 ^ f → x ^^^ (x - 1) = 2 ^ (tzF f x + 1) - 1
  | 0, x, h0, h => by simp at h; omega
  | f + 1, x, h0, h => by
    rw [tzF]
    by_cases hx : x % 2 = 1
    · rw [if_pos hx]
      have := xor_pair (x / 2) (x / 2) 1 0 (by omega) (by omega)
      rw [Nat.xor_self, show 2 * (x / 2) + 1 = x by omega, show 2 * (x / 2) + 0 = x - 1 by omega] at this
      rw [this]; rfl
    · rw [if_neg hx]
      have ih := pred_xor f (x / 2) (by omega) (by rw [Nat.pow_succ] at h; omega)
      have := xor_pair (x / 2) (x / 2 - 1) 0 1 (by omega) (by omega)
      rw [ih, show 2 * (x / 2) + 0 = x by omega, show 2 * (x / 2 - 1) + 1 = x - 1 by omega] at this
      have hp : 0 < 2 ^ (tzF f (x / 2) + 1) := Nat.two_pow_pos _
      rw [this, show 1 + tzF f (x / 2) + 1 = (tzF f (x / 2) + 1) + 1 by omega, Nat.pow_succ 2 (tzF f (x / 2) + 1)]
      have : (0 ^^^ 1 : Nat) = 1 := rfl
      omega
theorem ones_half (t : Nat) : (2 ^ (t + 1) - 1) ^^^ ((2 ^ (t + 1) - 1) / 2) = 2 ^ t := by
  have hp : 0 < 2 ^ t := Nat.two_pow_pos t
  have : (2 ^ (t + 1) - 1) / 2 = 2 ^ t - 1 := by rw [Nat.pow_succ]; omega
  rw [this]
  apply Nat.eq_of_testBit_eq
  intro j
  rw [Nat.testBit_xor, Nat.testBit_two_pow_sub_one, Nat.testBit_two_pow_sub_one, Nat.testBit_two_pow]
  by_cases h1 : j < t
  · have : ¬ t = j := by omega
    simp [h1, this]; omega
  · by_cases h2 : j = t
    · subst h2; simp
    · have h3 : ¬ j < t + 1 := by omega
      have h4 : ¬ t = j := by omega
      simp [h1, h3, h4]
theorem gray_succ {i : Nat} (h : i + 1 < 2 ^ 64) : grayN (i + 1) = grayN i ^^^ 2 ^ tzF 64 (i + 1) := by
  have h1 := pred_xor 64 (i + 1) (by omega) h
  rw [Nat.add_sub_cancel] at h1
  have h2 : grayN (i + 1) ^^^ grayN i = 2 ^ tzF 64 (i + 1) := by
    unfold grayN
    rw [xor_swap4, ← xor_div_two, h1, ones_half]
  rw [← h2, Nat.xor_comm (grayN (i + 1)), xor_cancel_left]
theorem gray_inj {i j : Nat} (h : grayN i = grayN j) : i = j := by
  have h1 : grayN i ^^^ grayN j = 0 := by rw [h, Nat.xor_self]
  unfold grayN at h1
  rw [xor_swap4, ← xor_div_two] at h1
  have h2 := eq_of_xor_zero h1
  exact eq_of_xor_zero (by omega)
theorem gray_lt {i k : Nat} (h : i < 2 ^ k) : grayN i < 2 ^ k := Nat.xor_lt_two_pow h (by omega)
theorem rowG_gray (L : List Nat) (r0 : Nat) : ∀ i, i < 2 ^ 64 → rowG L r0 i = r0 ^^^ total L (grayN i)
  | 0, _ => by rw [rowG, show grayN 0 = 0 from rfl, total_zero, Nat.xor_zero]
  | i + 1, h => by rw [rowG, rowG_gray L r0 i (by omega), gray_succ h, total_xor, total_pow, Nat.xor_assoc]
theorem range_nodup_perm {n : Nat} {l : List Nat} (hn : l.Nodup) (hl : l.length = n) (hm : ∀ x ∈ l, x < n) : l.Perm (List.range n) := by
  have h1 := nodup_len l (List.range n) hn fun x hx => List.mem_range.2 (hm x hx)
  have h2 := h1.2 (by simp [hl])
  rw [List.perm_iff_count]
  intro a
  by_cases ha : a ∈ l
  · rw [hn.count, List.nodup_range.count, if_pos ha, if_pos (List.mem_range.2 (hm a ha))]
  · rw [hn.count, List.nodup_range.count, if_neg ha, if_neg (fun h => ha (h2 a h))]
theorem gray_perm (k : Nat) : ((List.range (2 ^ k)).map grayN).Perm (List.range (2 ^ k)) := by
  refine range_nodup_perm ?_ (by simp) ?_
  · unfold List.Nodup
    rw [List.pairwise_map]
    exact List.nodup_range.imp fun hab e => hab (gray_inj e)
  · intro x hx
    obtain ⟨i, hi, rfl⟩ := List.mem_map.1 hx
    exact gray_lt (List.mem_range.1 hi)
/-- All sums of rows. -/
def sumsM (L : List Nat) : List Nat := (List.range (2 ^ L.length)).map (total L)
theorem sumsG_perm {L : List Nat} (hL : L.length ≤ 24) (r0 : Nat) : ((List.range (2 ^ L.length)).map (rowG L r0)).Perm ((sumsM L).map (r0 ^^^ ·)) := by
  have h2 : 2 ^ L.length ≤ 2 ^ 24 := Nat.pow_le_pow_right (by omega) hL
  have e : (List.range (2 ^ L.length)).map (rowG L r0) = ((List.range (2 ^ L.length)).map grayN).map fun w => r0 ^^^ total L w := by
    rw [List.map_map]
    exact List.map_congr_left fun i hi => rowG_gray L r0 i (by have := List.mem_range.1 hi; omega)
  have e2 : (sumsM L).map (r0 ^^^ ·) = (List.range (2 ^ L.length)).map fun w => r0 ^^^ total L w := by
    rw [sumsM, List.map_map]; rfl
  rw [e, e2]
  exact (gray_perm L.length).map _
theorem range_double (n : Nat) : List.range (n + n) = List.range n ++ (List.range n).map (n + ·) := List.range_add
theorem sums_snoc (L : List Nat) (x : Nat) : sumsM (L ++ [x]) = sumsM L ++ (sumsM L).map (· ^^^ x) := by
  unfold sumsM
  rw [List.length_append, List.length_singleton, Nat.pow_succ, Nat.mul_two, range_double, List.map_append, List.map_map, List.map_map]
  congr 1
  · refine List.map_congr_left fun w hw => ?_
    rw [total_snoc, Nat.testBit_lt_two_pow (List.mem_range.1 hw), if_neg (by simp), Nat.xor_zero]
  · refine List.map_congr_left fun w hw => ?_
    have hw' := List.mem_range.1 hw
    simp only [Function.comp]
    rw [total_snoc]
    have h1 : (2 ^ L.length + w).testBit L.length = true := by
      rw [Nat.testBit_two_pow_add_eq, Nat.testBit_lt_two_pow hw']; rfl
    have h2 : total L (2 ^ L.length + w) = total L w := by
      rw [← total_mod, Nat.add_mod_left, Nat.mod_eq_of_lt hw']
    rw [h1, if_pos rfl, h2]
/-- How many of some numbers have each weight. -/
def cntL (M : List Nat) (n : Nat) : List Nat := (List.range (n + 1)).map fun k => M.countP fun x => decide (popc x = k)
theorem cntL_length (M : List Nat) (n : Nat) : (cntL M n).length = n + 1 := by simp [cntL]
theorem cntL_getD (M : List Nat) {n k : Nat} (h : k ≤ n) : (cntL M n).getD k 0 = M.countP fun x => decide (popc x = k) := by
  rw [List.getD_eq_getElem?_getD, cntL, List.getElem?_map, List.getElem?_range (by omega)]; rfl
theorem cntL_snoc (M : List Nat) (n x : Nat) : cntL (M ++ [x]) n = (cntL M n).set (popc x) ((cntL M n).getD (popc x) 0 + 1) := by
  apply List.ext_getElem?
  intro k
  rw [List.getElem?_set]
  by_cases hk : k ≤ n
  · rw [cntL, List.getElem?_map, List.getElem?_range (by omega), Option.map_some, List.countP_append, cntL_length]
    by_cases e : popc x = k
    · subst e
      rw [if_pos rfl, if_pos (by omega), cntL_getD M hk]
      simp
    · rw [if_neg e, cntL, List.getElem?_map, List.getElem?_range (by omega), Option.map_some]
      simp [e]
  · rw [List.getElem?_eq_none (by rw [cntL_length]; omega), cntL_length]
    split
    · rw [if_neg (by omega)]
    · rw [List.getElem?_eq_none (by rw [cntL_length]; omega)]
theorem cntL_nil (n : Nat) : cntL [] n = List.replicate (n + 1) 0 := by
  apply List.ext_getElem?
  intro k
  rw [cntL, List.getElem?_map, List.getElem?_replicate]
  by_cases h : k < n + 1
  · rw [List.getElem?_range h, if_pos h]; rfl
  · rw [List.getElem?_eq_none (by simp; omega), if_neg h]; rfl
theorem cntG_eq (L : List Nat) (n : Nat) : ∀ i, cntG L n i = cntL ((List.range i).map (rowG L 0)) n
  | 0 => by rw [cntG, List.range_zero, List.map_nil, cntL_nil]
  | i + 1 => by rw [cntG, cntG_eq L n i, List.range_succ, List.map_append, List.map_singleton, cntL_snoc]
theorem cntL_perm {M M' : List Nat} (h : M.Perm M') (n : Nat) : cntL M n = cntL M' n := by
  unfold cntL
  exact List.map_congr_left fun k _ => h.countP_eq _
theorem weightsM_eq (l : List Nat) (n : Nat) : weightsM l n = cntL (sumsM (redM l)) n := by
  rw [weightsM, cntG_eq]
  refine cntL_perm ?_ n
  have := sumsG_perm (redM_length l) 0
  rwa [show (sumsM (redM l)).map (0 ^^^ ·) = sumsM (redM l) by simp] at this
theorem lighter_or (x b : Nat) : lighter x b = x ∨ lighter x b = b := by
  unfold lighter; split
  · exact .inl rfl
  · split
    · exact .inl rfl
    · exact .inr rfl
/-- Not heavier, and if as heavy, not more. -/
def LeW (x y : Nat) : Prop := popc x < popc y ∨ popc x = popc y ∧ x ≤ y
theorem LeW.antisymm {x y : Nat} (h : LeW x y) (h' : LeW y x) : x = y := by unfold LeW at *; omega
theorem LeW.trans {x y z : Nat} (h : LeW x y) (h' : LeW y z) : LeW x z := by unfold LeW at *; omega
theorem LeW.refl (x : Nat) : LeW x x := .inr ⟨rfl, Nat.le_refl _⟩
theorem lighter_le (x b : Nat) : LeW (lighter x b) x ∧ LeW (lighter x b) b := by
  unfold lighter LeW; split
  · omega
  · split <;> omega
theorem lighter_fold (f : Nat → Nat) (r0 : Nat) : ∀ (M : List Nat), (M.foldl (fun b m => lighter (f m) b) r0 = r0 ∨ ∃ m ∈ M, M.foldl (fun b m => lighter (f m) b) r0 = f m) ∧ LeW (M.foldl (fun b m => lighter (f m) b) r0) r0 ∧ ∀ m ∈ M, LeW (M.foldl (fun b m => lighter (f m) b) r0) (f m) := by
  intro M
  induction M generalizing r0 with
  | nil => exact ⟨.inl rfl, .refl _, fun _ h => absurd h (by simp)⟩
  | cons a t ih =>
    rw [List.foldl_cons]
    obtain ⟨h1, h2, h3⟩ := ih (lighter (f a) r0)
    have hl := lighter_le (f a) r0
    refine ⟨?_, h2.trans hl.2, fun m hm => ?_⟩
    · rcases h1 with h1 | ⟨m, hm, h1⟩
      · rcases lighter_or (f a) r0 with e | e
        · exact .inr ⟨a, by simp, by rw [h1, e]⟩
        · exact .inl (by rw [h1, e])
      · exact .inr ⟨m, by simp [hm], h1⟩
    · rcases List.mem_cons.1 hm with rfl | hm
      · exact h2.trans hl.1
      · exact h3 m hm
theorem cosetG_fold (L : List Nat) (row : Nat) : ∀ i, cosetG L row i = ((List.range i).map (rowG L row)).foldl (fun b m => lighter m b) row
  | 0 => rfl
  | i + 1 => by rw [cosetG, List.range_succ, List.map_append, List.foldl_append, ← cosetG_fold L row i]; rfl
/-- The lightest member of a coset. -/
theorem cosetM_spec {l : List Nat} {row : Nat} (hl : ∀ x ∈ l, x < 2 ^ 24) : (∃ y, InSpan l y ∧ cosetM l row = row ^^^ y) ∧ ∀ y, InSpan l y → LeW (cosetM l row) (row ^^^ y) := by
  obtain ⟨h1, h2⟩ := redM_rref hl
  have hp := sumsG_perm (redM_length l) row
  have hf := lighter_fold (fun m => m) row ((List.range (2 ^ (redM l).length)).map (rowG (redM l) row))
  rw [← cosetG_fold] at hf
  change (cosetM l row = row ∨ _) ∧ LeW (cosetM l row) row ∧ _ at hf
  obtain ⟨f1, f2, f3⟩ := hf
  refine ⟨?_, fun y hy => ?_⟩
  · rcases f1 with e | ⟨m, hm, e⟩
    · exact ⟨0, .zero _, by rw [e, Nat.xor_zero]⟩
    · have hm' := hp.mem_iff.1 hm
      obtain ⟨s, hs, rfl⟩ := List.mem_map.1 hm'
      obtain ⟨w, _, rfl⟩ := List.mem_map.1 hs
      exact ⟨_, (h2 _).1 ⟨w, rfl⟩, e⟩
  · obtain ⟨w, rfl⟩ := (h2 y).2 hy
    refine f3 _ (hp.mem_iff.2 (List.mem_map.2 ⟨_, List.mem_map.2 ⟨w % 2 ^ (redM l).length, List.mem_range.2 (Nat.mod_lt _ (Nat.two_pow_pos _)), rfl⟩, ?_⟩))
    rw [total_mod]
theorem cosetM_eq {l : List Nat} {row : Nat} (hl : ∀ x ∈ l, x < 2 ^ 24) : cosetM l row = (sumsM (redM l)).foldl (fun b m => lighter (row ^^^ m) b) row := by
  obtain ⟨h1, h2⟩ := redM_rref hl
  obtain ⟨⟨y, hy, e⟩, hle⟩ := cosetM_spec (row := row) hl
  obtain ⟨f1, f2, f3⟩ := lighter_fold (fun m => row ^^^ m) row (sumsM (redM l))
  refine LeW.antisymm ?_ ?_
  · rcases f1 with e1 | ⟨m, hm, e1⟩
    · rw [e1]; simpa using hle 0 (.zero _)
    · rw [e1]
      obtain ⟨w, _, rfl⟩ := List.mem_map.1 hm
      exact hle _ ((h2 _).1 ⟨w, rfl⟩)
  · rw [e]
    obtain ⟨w, rfl⟩ := (h2 y).2 hy
    exact f3 _ (List.mem_map.2 ⟨w % 2 ^ (redM l).length, List.mem_range.2 (Nat.mod_lt _ (Nat.two_pow_pos _)), total_mod _ _⟩)
end Go.AM

/-! ### M17 -/
namespace Go.AM
set_option linter.unusedVariables false
def Indep (L : List Nat) : Prop := ∀ w, w < 2 ^ L.length → total L w = 0 → w = 0
theorem mem_sums {L : List Nat} {x : Nat} : x ∈ sumsM L ↔ InSpan L x := by
  constructor
  · intro h; obtain ⟨w, _, rfl⟩ := List.mem_map.1 h; exact ⟨w, rfl⟩
  · rintro ⟨w, rfl⟩
    exact List.mem_map.2 ⟨w % 2 ^ L.length, List.mem_range.2 (Nat.mod_lt _ (Nat.two_pow_pos _)), total_mod _ _⟩
theorem sumsM_length (L : List Nat) : (sumsM L).length = 2 ^ L.length := by simp [sumsM]
theorem Indep.inj {L : List Nat} (h : Indep L) {a b : Nat} (ha : a < 2 ^ L.length) (hb : b < 2 ^ L.length) (e : total L a = total L b) : a = b :=
  eq_of_xor_zero (h _ (Nat.xor_lt_two_pow ha hb) (by rw [total_xor, e, Nat.xor_self]))
theorem Indep.nodup {L : List Nat} (h : Indep L) : (sumsM L).Nodup := by
  unfold sumsM List.Nodup
  rw [List.pairwise_map]
  have hn : (List.range (2 ^ L.length)).Pairwise fun a b => a < 2 ^ L.length ∧ b < 2 ^ L.length ∧ a ≠ b := by
    rw [List.pairwise_iff_getElem]
    intro i j hi hj hij
    simp only [List.getElem_range]
    simp only [List.length_range] at hi hj
    exact ⟨hi, hj, by omega⟩
  exact hn.imp fun {a b} hab e => hab.2.2 (h.inj hab.1 hab.2.1 e)
theorem indep_len {L R : List Nat} (h : Indep L) (hs : ∀ x, InSpan L x → InSpan R x) : L.length ≤ R.length := by
  have := (nodup_len _ _ h.nodup fun x hx => mem_sums.2 (hs x (mem_sums.1 hx))).1
  rw [sumsM_length, sumsM_length] at this
  exact (Nat.pow_le_pow_iff_right (by omega)).1 this
theorem total_bit_one {L : List Nat} {i j w : Nat} (h : ∀ k, k < L.length → (L.getD k 0).testBit j = decide (k = i)) : ∀ k, k ≤ L.length → (total (L.take k) w).testBit j = (decide (i < k) && w.testBit i)
  | 0, _ => by simp [total]
  | k + 1, hk => by
    rw [total_take_succ, Nat.testBit_xor, total_bit_one h k (by omega)]
    have := h k (by omega)
    by_cases e : k = i
    · subst e
      rw [show decide (k < k) = false by simp, show decide (k < k + 1) = true by simp]
      cases hw : w.testBit k
      · simp
      · rw [if_pos rfl, this]; simp
    · rw [show decide (i < k + 1) = decide (i < k) from decide_eq_decide.2 (by omega)]
      have hz : (if w.testBit k = true then L.getD k 0 else 0).testBit j = false := by
        split
        · rw [this]; simp [e]
        · simp
      rw [hz, Bool.xor_false]
theorem Indep.of_bits {L : List Nat} (c : Nat → Nat) (h : ∀ i, i < L.length → ∀ k, k < L.length → (L.getD k 0).testBit (c i) = decide (k = i)) : Indep L := by
  intro w hw h0
  apply Nat.eq_of_testBit_eq
  intro i
  rw [Nat.zero_testBit]
  by_cases hi : i < L.length
  · have := total_bit_one (w := w) (h i hi) L.length (Nat.le_refl _)
    rw [List.take_length, h0, Nat.zero_testBit] at this
    simpa [hi] using this.symm
  · exact testBit_ge hw (by omega)
theorem getD_eq {l : List Nat} {i : Nat} (h : i < l.length) : l.getD i 0 = l[i] := by rw [List.getD_eq_getElem?_getD, List.getElem?_eq_getElem h]; rfl
theorem Rref.indep {R : List Nat} (h : Rref R) : Indep R := by
  refine .of_bits (fun i => blen (R.getD i 0) - 1) fun i hi k hk => ?_
  by_cases e : k = i
  · subst e
    rw [testBit_blen (h.ne _ (getD_mem hk))]; simp
  · rw [decide_eq_false e]
    refine h.alone _ (getD_mem hi) _ (getD_mem hk) fun e2 => ?_
    have hp := List.pairwise_iff_getElem.1 h.fall
    rw [getD_eq hi, getD_eq hk] at e2
    rcases Nat.lt_or_ge i k with hik | hik
    · have := hp i k hi hk hik; rw [e2] at this; omega
    · have := hp k i hk hi (by omega); rw [e2] at this; omega
theorem indep_rank {M L : List Nat} (hM : Indep M) (hs : SameSpan M L) (hL : ∀ x ∈ L, x < 2 ^ 24) : M.length = (redM L).length := by
  obtain ⟨h1, h2⟩ := redM_rref hL
  have a := indep_len hM (R := redM L) fun x hx => (h2 x).2 ((hs x).1 hx)
  have b := indep_len h1.indep (R := M) fun x hx => (hs x).2 ((h2 x).1 hx)
  omega
theorem redM_same {L : List Nat} (hL : ∀ x ∈ L, x < 2 ^ 24) : SameSpan (redM L) L := (redM_rref hL).2
theorem redM_of_span {L R : List Nat} (hL : ∀ x ∈ L, x < 2 ^ 24) (hR : ∀ x ∈ R, x < 2 ^ 24) (hs : SameSpan L R) : redM L = redM R :=
  (redM_rref hL).1.unique (redM_rref hR).1 (((redM_rref hL).2.trans hs).trans (redM_rref hR).2.symm)
theorem redM_iff {L R : List Nat} (hL : ∀ x ∈ L, x < 2 ^ 24) (hR : ∀ x ∈ R, x < 2 ^ 24) : redM L = redM R ↔ SameSpan L R :=
  ⟨fun h => (redM_rref hL).2.symm.trans (by rw [h]; exact (redM_rref hR).2), redM_of_span hL hR⟩
theorem Rref.red {R : List Nat} (h : Rref R) (hR : ∀ x ∈ R, x < 2 ^ 24) : redM R = R := (redM_rref hR).1.unique h (redM_rref hR).2
theorem redM_redM {L : List Nat} (hL : ∀ x ∈ L, x < 2 ^ 24) : redM (redM L) = redM L := by
  refine (redM_rref hL).1.red ?_
  exact redM_lt (n := 24) (Nat.le_refl 24) hL

/-! ### What is orthogonal -/
theorem orthCols_nodup (R : List Nat) (n : Nat) : (orthCols R n).Nodup := List.nodup_range.filter _
theorem leads_nodup {R : List Nat} (h : Rref R) : (R.map fun r => blen r - 1).Nodup := by
  unfold List.Nodup
  rw [List.pairwise_map]
  refine (List.pairwise_iff_getElem.2 fun i j hi hj hij => ?_)
  have := List.pairwise_iff_getElem.1 h.fall i j hi hj hij
  have := blen_pos_iff.2 (h.ne _ (List.getElem_mem hj))
  omega
theorem orthCols_count {R : List Nat} {n : Nat} (h : Rref R) (hR : ∀ r ∈ R, r < 2 ^ n) : (orthCols R n).length + R.length = n := by
  have hA : (orthCols R n ++ R.map fun r => blen r - 1).Nodup := by
    refine List.nodup_append.2 ⟨orthCols_nodup R n, leads_nodup h, fun a ha b hb e => ?_⟩
    subst e
    obtain ⟨r, hr, e⟩ := List.mem_map.1 hb
    exact (mem_orthCols.1 ha).2 r hr e
  have h1 : ∀ x ∈ orthCols R n ++ R.map (fun r => blen r - 1), x ∈ List.range n := by
    intro x hx
    rcases List.mem_append.1 hx with hx | hx
    · exact List.mem_range.2 (mem_orthCols.1 hx).1
    · obtain ⟨r, hr, rfl⟩ := List.mem_map.1 hx
      have := blen_le_of_lt (hR r hr)
      have := blen_pos_iff.2 (h.ne r hr)
      exact List.mem_range.2 (by omega)
  have h2 : ∀ x ∈ List.range n, x ∈ orthCols R n ++ R.map (fun r => blen r - 1) := by
    intro x hx
    by_cases hl : ∃ r ∈ R, blen r - 1 = x
    · obtain ⟨r, hr, e⟩ := hl
      exact List.mem_append_right _ (List.mem_map.2 ⟨r, hr, e⟩)
    · exact List.mem_append_left _ (mem_orthCols.2 ⟨List.mem_range.1 hx, fun r hr e => hl ⟨r, hr, e⟩⟩)
  have a := (nodup_len _ _ hA h1).1
  have b := (nodup_len _ _ List.nodup_range h2).1
  simp only [List.length_append, List.length_map, List.length_range] at a b
  omega
theorem orthRows_indep {R : List Nat} {n : Nat} (h : Rref R) : Indep (orthRows R n) := by
  have hlen : (orthRows R n).length = (orthCols R n).length := by simp [orthRows]
  have hg : ∀ k, k < (orthCols R n).length → (orthRows R n).getD k 0 = orthX R ((orthCols R n).getD k 0) := by
    intro k hk
    rw [getD_eq (by omega), getD_eq hk]; simp [orthRows]
  refine .of_bits (fun i => (orthCols R n).getD i 0) fun i hi k hk => ?_
  rw [hlen] at hi hk
  rw [hg k hk, orthX_free (mem_orthCols.1 (getD_mem hi)).2]
  refine decide_eq_decide.2 ⟨fun e => ?_, fun e => by rw [e]⟩
  rw [getD_eq hi, getD_eq hk] at e
  exact (List.getElem?_inj hk (orthCols_nodup R n)).1 (by rw [List.getElem?_eq_getElem hi, List.getElem?_eq_getElem hk, e])
section
variable {L : List Nat} {n : Nat} (hn : n ≤ 24) (hL : ∀ x ∈ L, x < 2 ^ n)
include hn hL
theorem nullM_span : Rref (nullM L n) ∧ ∀ x, InSpan (nullM L n) x ↔ Orth L n x := by
  rw [← orthM_eq hn hL]; exact orthM_span hL
theorem nullM_len_eq : (nullM L n).length + (redM L).length = n := by
  have hR : ∀ x ∈ redM L, x < 2 ^ n := redM_lt hn hL
  obtain ⟨h1, h2⟩ := redM_rref (lt24 hn hL)
  have hc := orthCols_count h1 hR
  have hlen : (orthRows (redM L) n).length = (orthCols (redM L) n).length := by simp [orthRows]
  have hs : SameSpan (orthRows (redM L) n) (nullM L n) := fun x => by
    rw [orth_span h1 hR, (nullM_span hn hL).2, h2.orth]
  have := indep_rank (orthRows_indep (n := n) h1) hs (lt24 hn (nullM_lt hn))
  rw [(nullM_span hn hL).1.red (lt24 hn (nullM_lt hn))] at this
  omega
theorem null_null_span {x : Nat} : Orth (nullM L n) n x ↔ InSpan L x := by
  obtain ⟨h1, h2⟩ := redM_rref (lt24 hn hL)
  have hN := nullM_lt (l := L) hn
  obtain ⟨g1, g2⟩ := nullM_span hn hL
  obtain ⟨d1, d2⟩ := nullM_span hn hN
  have e1 := nullM_len_eq hn hL
  have e2 := nullM_len_eq hn hN
  rw [g1.red (lt24 hn hN)] at e2
  have hsub : ∀ x, InSpan (redM L) x → InSpan (nullM (nullM L n) n) x := fun x hx => by
    have hx' := (h2 x).1 hx
    refine (d2 x).2 ⟨hx'.lt hL, fun r hr => ?_⟩
    have := ((g2 r).1 (.mem hr)).span hx'
    rwa [dot_comm]
  rw [← d2]
  exact ⟨fun h => (h2 x).1 (rank_span h1 d1 hsub (by omega) h), fun h => hsub x ((h2 x).2 h)⟩
theorem null_null : nullM (nullM L n) n = redM L := by
  have hN := nullM_lt (l := L) hn
  obtain ⟨d1, d2⟩ := nullM_span hn hN
  obtain ⟨h1, h2⟩ := redM_rref (lt24 hn hL)
  exact d1.unique h1 fun x => by rw [d2, null_null_span hn hL, h2]
end

/-! ### Ranks of sums and of what is in common -/
theorem span_append {A B : List Nat} {y : Nat} : InSpan (A ++ B) y ↔ ∃ a b, InSpan A a ∧ InSpan B b ∧ y = a ^^^ b := by
  constructor
  · rintro ⟨w, rfl⟩; exact ⟨_, _, ⟨w, rfl⟩, ⟨_, rfl⟩, total_append A B w⟩
  · rintro ⟨a, b, ha, hb, rfl⟩
    exact (ha.trans fun x hx => .mem (List.mem_append_left _ hx)).xor (hb.trans fun x hx => .mem (List.mem_append_right _ hx))
theorem span_single {x y : Nat} : InSpan [x] y ↔ y = 0 ∨ y = x := by
  constructor
  · rintro ⟨w, rfl⟩
    rw [total_single]; split
    · exact .inr rfl
    · exact .inl rfl
  · rintro (rfl | rfl)
    · exact .zero _
    · exact .mem (by simp)
theorem span_snoc {A : List Nat} {x y : Nat} : InSpan (A ++ [x]) y ↔ InSpan A y ∨ InSpan A (y ^^^ x) := by
  rw [span_append]
  constructor
  · rintro ⟨a, b, ha, hb, rfl⟩
    rcases span_single.1 hb with rfl | rfl
    · exact .inl (by rwa [Nat.xor_zero])
    · exact .inr (by rwa [xor_cancel_right])
  · rintro (h | h)
    · exact ⟨y, 0, h, .zero _, (Nat.xor_zero _).symm⟩
    · exact ⟨_, x, h, .mem (by simp), (xor_cancel_right _ _).symm⟩
theorem Indep.snoc {M : List Nat} {x : Nat} (h : Indep M) (hx : ¬ InSpan M x) : Indep (M ++ [x]) := by
  intro w hw h0
  rw [total_snoc] at h0
  cases hb : w.testBit M.length with
  | true =>
    rw [hb, if_pos rfl] at h0
    exact absurd ⟨w, eq_of_xor_zero h0⟩ hx
  | false =>
    rw [hb, if_neg (by simp), Nat.xor_zero] at h0
    refine h w (lt_two_pow_of_bits fun j hj => ?_) h0
    by_cases e : j = M.length
    · rw [e]; exact hb
    · exact testBit_ge hw (by rw [List.length_append, List.length_singleton]; omega)
theorem rank_in {L : List Nat} {x : Nat} (hL : ∀ y ∈ L, y < 2 ^ 24) (hx : InSpan L x) : (redM (L ++ [x])).length = (redM L).length := by
  have hx' := hx.lt hL
  rw [redM_of_span (R := L) (fun y hy => by
    rcases List.mem_append.1 hy with hy | hy
    · exact hL y hy
    · rw [List.mem_singleton.1 hy]; exact hx') hL fun y => by
      rw [span_snoc]
      exact ⟨fun h => h.elim id fun h => by have := h.xor hx; rwa [xor_cancel_right] at this, .inl⟩]
theorem rank_out {L : List Nat} {x : Nat} (hL : ∀ y ∈ L, y < 2 ^ 24) (hx24 : x < 2 ^ 24) (hx : ¬ InSpan L x) : (redM (L ++ [x])).length = (redM L).length + 1 := by
  obtain ⟨h1, h2⟩ := redM_rref hL
  have hi := h1.indep.snoc (x := x) (fun h => hx ((h2 x).1 h))
  have := indep_rank hi (L := L ++ [x]) (fun y => by rw [span_snoc, span_snoc, h2, h2]) (fun y hy => by
    rcases List.mem_append.1 hy with hy | hy
    · exact hL y hy
    · rw [List.mem_singleton.1 hy]; exact hx24)
  rw [← this]; simp
theorem snoc_lt {L : List Nat} {x n : Nat} (hL : ∀ y ∈ L, y < 2 ^ n) (hx : x < 2 ^ n) : ∀ y ∈ L ++ [x], y < 2 ^ n := fun y hy => by
  rcases List.mem_append.1 hy with hy | hy
  · exact hL y hy
  · rw [List.mem_singleton.1 hy]; exact hx
theorem append_lt {L R : List Nat} {n : Nat} (hL : ∀ y ∈ L, y < 2 ^ n) (hR : ∀ y ∈ R, y < 2 ^ n) : ∀ y ∈ L ++ R, y < 2 ^ n := fun y hy => by
  rcases List.mem_append.1 hy with hy | hy
  · exact hL y hy
  · exact hR y hy
/-- The ranks of two spans are together those of their sum and of what they have in common. -/
theorem meet_rank_take {A B : List Nat} (hA : ∀ y ∈ A, y < 2 ^ 24) (hB : ∀ y ∈ B, y < 2 ^ 24) : ∀ i, i ≤ B.length →
    ∃ M, Indep M ∧ (∀ y, InSpan M y ↔ InSpan A y ∧ InSpan (B.take i) y) ∧ M.length + (redM (A ++ B.take i)).length = (redM A).length + (redM (B.take i)).length
  | 0, _ => by
    refine ⟨[], fun w hw _ => by simpa using hw, fun y => ?_, ?_⟩
    · rw [List.take_zero]
      constructor
      · rintro ⟨w, rfl⟩; exact ⟨.zero _, ⟨w, rfl⟩⟩
      · exact fun h => h.2
    · simp only [List.take_zero, List.append_nil, List.length_nil]
      have : (redM []).length = 0 := by
        have := indep_rank (M := []) (L := []) (fun w hw _ => by simpa using hw) (.refl _) (by simp)
        simpa using this.symm
      omega
  | i + 1, hi => by
    obtain ⟨M, h1, h2, h3⟩ := meet_rank_take hA hB i (by omega)
    have e : B.take (i + 1) = B.take i ++ [B[i]] := List.take_succ_eq_append_getElem (by omega)
    have hx24 : B[i] < 2 ^ 24 := hB _ (List.getElem_mem _)
    have hBi : ∀ y ∈ B.take i, y < 2 ^ 24 := fun y hy => hB y (List.mem_of_mem_take hy)
    rw [e, ← List.append_assoc]
    generalize B[i] = x at *
    generalize B.take i = C at *
    by_cases hx : InSpan C x
    · refine ⟨M, h1, fun y => ?_, ?_⟩
      · rw [h2, span_snoc]
        exact and_congr_right fun _ => ⟨.inl, fun h => h.elim id fun h => by have := h.xor hx; rwa [xor_cancel_right] at this⟩
      · rw [rank_in hBi hx, rank_in (append_lt hA hBi) (hx.trans fun z hz => .mem (List.mem_append_right _ hz))]; exact h3
    · by_cases hs : InSpan (A ++ C) x
      · obtain ⟨a, b, ha, hb, hxe⟩ := span_append.1 hs
        have haM : ¬ InSpan M a := fun h => hx (by rw [hxe]; exact ((h2 a).1 h).2.xor hb)
        refine ⟨M ++ [a], h1.snoc haM, fun y => ?_, ?_⟩
        · rw [span_snoc, span_snoc, h2, h2]
          have hax : a ^^^ x = b := by rw [hxe, xor_cancel_left]
          constructor
          · rintro (⟨p, q⟩ | ⟨p, q⟩)
            · exact ⟨p, .inl q⟩
            · refine ⟨by have := p.xor ha; rwa [xor_cancel_right] at this, .inr ?_⟩
              have := q.xor hb
              rw [← hax, Nat.xor_assoc, xor_cancel_left] at this; exact this
          · rintro ⟨p, q | q⟩
            · exact .inl ⟨p, q⟩
            · refine .inr ⟨p.xor ha, ?_⟩
              have := q.xor hb
              rw [← hax, Nat.xor_assoc, Nat.xor_comm a x, xor_cancel_left] at this; exact this
        · rw [rank_out hBi hx24 hx, rank_in (append_lt hA hBi) hs]; simp; omega
      · refine ⟨M, h1, fun y => ?_, ?_⟩
        · rw [h2, span_snoc]
          refine ⟨fun h => ⟨h.1, .inl h.2⟩, fun h => ⟨h.1, h.2.elim id fun q => absurd ?_ hs⟩⟩
          exact span_append.2 ⟨y, y ^^^ x, h.1, q, (xor_cancel_left _ _).symm⟩
        · rw [rank_out hBi hx24 hx, rank_out (append_lt hA hBi) hx24 hs]; omega
def meetM (l r : List Nat) (n : Nat) : List Nat := nullM (nullM l n ++ nullM r n) n
section
variable {l r : List Nat} {n : Nat} (hn : n ≤ 24) (hl : ∀ x ∈ l, x < 2 ^ n) (hr : ∀ x ∈ r, x < 2 ^ n)
include hn hl hr
theorem meetM_span : Rref (meetM l r n) ∧ ∀ x, InSpan (meetM l r n) x ↔ InSpan l x ∧ InSpan r x := by
  have h := nullM_span (L := nullM l n ++ nullM r n) hn (append_lt (nullM_lt hn) (nullM_lt hn))
  refine ⟨h.1, fun x => ?_⟩
  rw [meetM, h.2, ← null_null_span hn hl, ← null_null_span hn hr]
  constructor
  · intro g; exact ⟨⟨g.1, fun r hr => g.2 r (List.mem_append_left _ hr)⟩, ⟨g.1, fun r hr => g.2 r (List.mem_append_right _ hr)⟩⟩
  · rintro ⟨g1, g2⟩
    exact ⟨g1.1, fun x hx => (List.mem_append.1 hx).elim (g1.2 x) (g2.2 x)⟩
theorem meet_rank : (redM l).length + (redM r).length = (redM (l ++ r)).length + (meetM l r n).length := by
  obtain ⟨M, h1, h2, h3⟩ := meet_rank_take (lt24 hn hl) (lt24 hn hr) r.length (Nat.le_refl _)
  rw [List.take_length] at h2 h3
  obtain ⟨g1, g2⟩ := meetM_span hn hl hr
  have hm : ∀ x ∈ meetM l r n, x < 2 ^ 24 := lt24 hn (nullM_lt hn)
  have := indep_rank h1 (L := meetM l r n) (fun x => by rw [h2, g2]) hm
  rw [g1.red hm] at this
  omega
end
theorem meet_comm {l r : List Nat} {n : Nat} (hn : n ≤ 24) (hl : ∀ x ∈ l, x < 2 ^ n) (hr : ∀ x ∈ r, x < 2 ^ n) : meetM l r n = meetM r l n :=
  (meetM_span hn hl hr).1.unique (meetM_span hn hr hl).1 fun x => by rw [(meetM_span hn hl hr).2, (meetM_span hn hr hl).2, and_comm]

/-! ### Rows and columns have the same rank -/
theorem kernel_rank {T : List Nat} (hT : ∀ y ∈ T, y < 2 ^ 24) : ∀ i, i ≤ T.length →
    ∃ K, Indep K ∧ (∀ w, InSpan K w ↔ w < 2 ^ i ∧ total (T.take i) w = 0) ∧ K.length + (redM (T.take i)).length = i
  | 0, _ => by
    refine ⟨[], fun w hw _ => by simpa using hw, fun w => ?_, ?_⟩
    · simp only [Nat.pow_zero, List.take_zero]
      constructor
      · rintro ⟨v, rfl⟩; simp [total]
      · rintro ⟨h, _⟩; obtain rfl : w = 0 := by omega
        exact .zero _
    · have := indep_rank (M := []) (L := []) (fun w hw _ => by simpa using hw) (.refl _) (by simp)
      simp only [List.take_zero, List.length_nil] at *; omega
  | i + 1, hi => by
    obtain ⟨K, h1, h2, h3⟩ := kernel_rank hT i (by omega)
    have e : T.take (i + 1) = T.take i ++ [T[i]] := List.take_succ_eq_append_getElem (by omega)
    have hlen : (T.take i).length = i := by rw [List.length_take]; omega
    have hx24 : T[i] < 2 ^ 24 := hT _ (List.getElem_mem _)
    have hTi : ∀ y ∈ T.take i, y < 2 ^ 24 := fun y hy => hT y (List.mem_of_mem_take hy)
    rw [e]
    generalize T[i] = x at *
    generalize T.take i = C at *
    have hp : 2 ^ i < 2 ^ (i + 1) := Nat.pow_lt_pow_right (by omega) (by omega)
    have htot : ∀ w, total (C ++ [x]) w = total C w ^^^ (if w.testBit i then x else 0) := fun w => by rw [total_snoc, hlen]
    have hlow : ∀ w, w < 2 ^ (i + 1) → w.testBit i = false → w < 2 ^ i := fun w hw hb => lt_two_pow_of_bits fun j hj => by
      by_cases e : j = i
      · rw [e]; exact hb
      · exact testBit_ge hw (by omega)
    have hcl : ∀ w, total C (w ^^^ 2 ^ i) = total C w := fun w => by rw [total_xor, total_pow, getD_out (by omega), Nat.xor_zero]
    have hflip : ∀ w, (w ^^^ 2 ^ i).testBit i = !w.testBit i := fun w => by rw [Nat.testBit_xor, Nat.testBit_two_pow]; simp
    have hflt : ∀ w, w < 2 ^ (i + 1) → w ^^^ 2 ^ i < 2 ^ (i + 1) := fun w hw => Nat.xor_lt_two_pow hw hp
    by_cases hx : InSpan C x
    · obtain ⟨v0, hv0⟩ := hx
      have hv : total C (v0 % 2 ^ i) = x := by rw [← hlen, total_mod]; exact hv0
      have hvl : v0 % 2 ^ i < 2 ^ i := Nat.mod_lt _ (Nat.two_pow_pos i)
      generalize v0 % 2 ^ i = v at *
      have hvb : v.testBit i = false := testBit_ge hvl (Nat.le_refl i)
      have hnot : ¬ InSpan K (v ^^^ 2 ^ i) := fun h => by
        have := ((h2 _).1 h).1
        have h5 := testBit_ge this (Nat.le_refl i)
        rw [hflip, hvb] at h5; cases h5
      refine ⟨K ++ [v ^^^ 2 ^ i], h1.snoc hnot, fun w => ?_, ?_⟩
      · rw [span_snoc, h2, h2, htot]
        constructor
        · rintro (⟨p, q⟩ | ⟨p, q⟩)
          · refine ⟨by omega, ?_⟩
            rw [q, testBit_ge p (Nat.le_refl i)]; simp
          · have e1 : w = (w ^^^ (v ^^^ 2 ^ i)) ^^^ (v ^^^ 2 ^ i) := (xor_cancel_right _ _).symm
            generalize w ^^^ (v ^^^ 2 ^ i) = u at *
            subst e1
            refine ⟨Nat.xor_lt_two_pow (by omega) (hflt v (by omega)), ?_⟩
            rw [total_xor, q, hcl, hv, Nat.testBit_xor, hflip, hvb, testBit_ge p (Nat.le_refl i)]
            simp
        · rintro ⟨p, q⟩
          cases hb : w.testBit i with
          | false =>
            rw [hb, if_neg (by simp), Nat.xor_zero] at q
            exact .inl ⟨hlow w p hb, q⟩
          | true =>
            rw [hb, if_pos rfl] at q
            refine .inr ⟨hlow _ (Nat.xor_lt_two_pow p (hflt v (by omega))) (by rw [Nat.testBit_xor, hflip, hvb, hb]; rfl), ?_⟩
            rw [total_xor, hcl, hv]; exact q
      · rw [rank_in hTi ⟨v0, hv0⟩]; simp; omega
    · refine ⟨K, h1, fun w => ?_, ?_⟩
      · rw [h2, htot]
        constructor
        · rintro ⟨p, q⟩
          refine ⟨by omega, ?_⟩
          rw [q, testBit_ge p (Nat.le_refl i)]; simp
        · rintro ⟨p, q⟩
          cases hb : w.testBit i with
          | false =>
            rw [hb, if_neg (by simp), Nat.xor_zero] at q
            exact ⟨hlow w p hb, q⟩
          | true =>
            rw [hb, if_pos rfl] at q
            exact absurd ⟨w, eq_of_xor_zero q⟩ hx
      · rw [rank_out hTi hx24 hx]; omega
theorem turned_rank {L : List Nat} {n : Nat} (hn : n ≤ 24) (hl : L.length ≤ 24) (hL : ∀ x ∈ L, x < 2 ^ n) : (redM (turnedM L n)).length = (redM L).length := by
  have hT : ∀ y ∈ turnedM L n, y < 2 ^ 24 := fun y hy => Nat.lt_of_lt_of_le (turnedM_lt' y hy) (Nat.pow_le_pow_right (by omega) hl)
  obtain ⟨K, h1, h2, h3⟩ := kernel_rank hT (turnedM L n).length (Nat.le_refl _)
  rw [List.take_length, turnedM_length] at h2 h3
  have hN := nullM_len_eq hn hL
  obtain ⟨g1, g2⟩ := nullM_span hn hL
  have hm : ∀ x ∈ nullM L n, x < 2 ^ 24 := lt24 hn (nullM_lt hn)
  have := indep_rank h1 (L := nullM L n) (fun x => by
    rw [h2, g2]
    refine and_congr_right fun hx => ?_
    constructor
    · intro h r hr
      obtain ⟨i, hi, rfl⟩ := mem_getD hr
      rw [← total_turned hx, h, Nat.zero_testBit]
    · intro h
      apply Nat.eq_of_testBit_eq; intro i
      rw [total_turned hx, Nat.zero_testBit]
      by_cases hi : i < L.length
      · exact h _ (getD_mem hi)
      · rw [getD_out (by omega), zero_dot]) hm
  rw [g1.red hm] at this
  omega
end Go.AM

/-! ### M18 -/
namespace Go.AM
set_option linter.unusedVariables false
def ssum (l : List Nat) (f : Nat → Int) : Int := (l.map f).foldr (· + ·) 0
theorem ssum_nil (f : Nat → Int) : ssum [] f = 0 := rfl
theorem ssum_cons (a : Nat) (l : List Nat) (f : Nat → Int) : ssum (a :: l) f = f a + ssum l f := rfl
theorem ssum_append (f : Nat → Int) (r : List Nat) : ∀ l : List Nat, ssum (l ++ r) f = ssum l f + ssum r f
  | [] => by rw [List.nil_append, ssum_nil, Int.zero_add]
  | a :: l => by rw [List.cons_append, ssum_cons, ssum_cons, ssum_append f r l, Int.add_assoc]
theorem ssum_map (f : Nat → Int) (g : Nat → Nat) : ∀ l : List Nat, ssum (l.map g) f = ssum l fun x => f (g x)
  | [] => rfl
  | a :: l => by rw [List.map_cons, ssum_cons, ssum_cons, ssum_map f g l]
theorem ssum_congr {f g : Nat → Int} : ∀ {l : List Nat}, (∀ x ∈ l, f x = g x) → ssum l f = ssum l g
  | [], _ => rfl
  | a :: l, h => by rw [ssum_cons, ssum_cons, h a (by simp), ssum_congr fun x hx => h x (by simp [hx])]
theorem ssum_add (f g : Nat → Int) : ∀ l : List Nat, ssum l (fun x => f x + g x) = ssum l f + ssum l g
  | [] => rfl
  | a :: l => by rw [ssum_cons, ssum_cons, ssum_cons, ssum_add f g l]; omega
theorem ssum_mul (c : Int) (f : Nat → Int) : ∀ l : List Nat, ssum l (fun x => c * f x) = c * ssum l f
  | [] => by rw [ssum_nil, ssum_nil, Int.mul_zero]
  | a :: l => by rw [ssum_cons, ssum_cons, ssum_mul c f l, Int.mul_add]
theorem ssum_zero : ∀ l : List Nat, ssum l (fun _ => 0) = 0
  | [] => rfl
  | a :: l => by rw [ssum_cons, ssum_zero l]; rfl
theorem ssum_comm (F : Nat → Nat → Int) (r : List Nat) : ∀ l : List Nat, ssum l (fun x => ssum r fun y => F x y) = ssum r fun y => ssum l fun x => F x y
  | [] => by
    show 0 = ssum r fun y => 0
    rw [ssum_zero]
  | a :: l => by
    rw [ssum_cons, ssum_comm F r l, ← ssum_add]; rfl
/-- 1 where something is so. -/
def ind (p : Prop) [Decidable p] : Int := if p then 1 else 0
theorem ssum_count (p : Nat → Prop) [DecidablePred p] : ∀ l : List Nat, ssum l (fun x => ind (p x)) = ((l.countP fun x => decide (p x) : Nat) : Int)
  | [] => rfl
  | a :: l => by
    rw [ssum_cons, ssum_count p l, List.countP_cons, ind]
    by_cases h : p a
    · simp [h]; omega
    · simp [h]
def chi (x y : Nat) : Int := if dot x y then -1 else 1
theorem chi_xor (x r y : Nat) : chi (x ^^^ r) y = chi x y * chi r y := by
  unfold chi; rw [xor_dot]; cases dot x y <;> cases dot r y <;> rfl
/-- A span's members, told with signs: all of them, or none. -/
theorem chi_sums (y : Nat) (R : List Nat) : ∀ i, i ≤ R.length → ssum (sumsM (R.take i)) (fun x => chi x y) = (2 : Int) ^ i * ind (∀ r ∈ R.take i, dot r y = false)
  | 0, _ => by
    have : sumsM (R.take 0) = [0] := by simp [sumsM, total, List.range_succ]
    rw [this]; simp [ssum_cons, ssum_nil, chi, zero_dot, ind]
  | i + 1, hi => by
    have e : R.take (i + 1) = R.take i ++ [R[i]] := List.take_succ_eq_append_getElem (by omega)
    rw [e, sums_snoc, ssum_append, ssum_map]
    have : (fun x => chi (x ^^^ R[i]) y) = fun x => chi R[i] y * chi x y := by
      funext x; rw [chi_xor, Int.mul_comm]
    rw [this, ssum_mul, chi_sums y R i (by omega)]
    generalize R[i] = r at *
    generalize R.take i = C at *
    have hiff : (∀ s ∈ C ++ [r], dot s y = false) ↔ (∀ s ∈ C, dot s y = false) ∧ dot r y = false := by
      constructor
      · intro h; exact ⟨fun s hs => h s (List.mem_append_left _ hs), h r (by simp)⟩
      · rintro ⟨h1, h2⟩ s hs
        rcases List.mem_append.1 hs with hs | hs
        · exact h1 s hs
        · rw [List.mem_singleton.1 hs]; exact h2
    unfold ind chi
    by_cases h1 : ∀ s ∈ C, dot s y = false
    · cases h2 : dot r y with
      | false =>
        rw [if_pos h1, if_pos (hiff.2 ⟨h1, h2⟩), Int.pow_succ, if_neg (by simp), Int.one_mul, Int.mul_one, Int.mul_one]; omega
      | true =>
        have : ¬ ∀ s ∈ C ++ [r], dot s y = false := fun h => by have := (hiff.1 h).2; rw [h2] at this; cases this
        rw [if_pos h1, if_neg this, if_pos rfl, Int.mul_one, Int.mul_zero]; omega
    · rw [if_neg h1, if_neg (fun h => h1 (hiff.1 h).1)]; simp
/-- The coefficients of (1 - z)^k (1 + z)^(n - k). -/
def Kr : Nat → Nat → Nat → Int
  | 0, 0, _ => 1
  | 0, _ + 1, _ => 0
  | n + 1, 0, 0 => Kr n 0 0
  | n + 1, j + 1, 0 => Kr n (j + 1) 0 + Kr n j 0
  | n + 1, 0, k + 1 => Kr n 0 k
  | n + 1, j + 1, k + 1 => Kr n (j + 1) k - Kr n j k
theorem Kr_zero : ∀ n k, Kr n 0 k = 1
  | 0, _ => by rw [Kr]
  | n + 1, 0 => by rw [Kr, Kr_zero n]
  | n + 1, k + 1 => by rw [Kr, Kr_zero n]
theorem Kr_up : ∀ (n j k : Nat), k ≤ n → Kr (n + 1) (j + 1) k = Kr n (j + 1) k + Kr n j k
  | n, j, 0, _ => by rw [Kr]
  | 0, j, k + 1, h => by omega
  | n + 1, j, k + 1, h => by
    rw [Kr]
    cases j with
    | zero =>
      have h1 := Kr_up n 0 k (by omega)
      rw [Kr_zero, h1]
      rw [show Kr (n + 1) (0 + 1) (k + 1) = Kr n (0 + 1) k - Kr n 0 k by rw [Kr], Kr_zero, Kr_zero]; omega
    | succ j =>
      have h1 := Kr_up n (j + 1) k (by omega)
      have h2 := Kr_up n j k (by omega)
      rw [h1, h2]
      rw [show Kr (n + 1) (j + 1 + 1) (k + 1) = Kr n (j + 1 + 1) k - Kr n (j + 1) k by rw [Kr], show Kr (n + 1) (j + 1) (k + 1) = Kr n (j + 1) k - Kr n j k by rw [Kr]]; omega
theorem popc_zero : popc 0 = 0 := rfl
theorem popc_top (n x : Nat) (h : x < 2 ^ n) : popc (2 ^ n + x) = popc x + 1 := by
  have := popc_split n x 1 h
  rw [Nat.mul_one, Nat.add_comm x] at this
  rw [this]; rfl
theorem dot_low {x y n : Nat} (hx : x < 2 ^ n) (hy : y < 2 ^ n) : dot x (2 ^ n + y) = dot x y := by
  refine dot_congr fun j hj => ?_
  have hjn : j < n := by
    rcases Nat.lt_or_ge j n with h | h
    · exact h
    · rw [testBit_ge hx h] at hj; cases hj
  rw [Nat.testBit_two_pow_add_gt hjn]
theorem add_xor {x n : Nat} (hx : x < 2 ^ n) : 2 ^ n + x = x ^^^ 2 ^ n := by
  apply Nat.eq_of_testBit_eq; intro j
  rw [Nat.testBit_xor, Nat.testBit_two_pow]
  rcases Nat.lt_trichotomy j n with h | h | h
  · rw [Nat.testBit_two_pow_add_gt h, decide_eq_false (by omega)]; simp
  · subst h; rw [Nat.testBit_two_pow_add_eq, testBit_ge hx (Nat.le_refl _)]; simp
  · rw [testBit_ge (k := n + 1) (by rw [Nat.pow_succ]; omega) h, testBit_ge hx (by omega), decide_eq_false (by omega)]; rfl
theorem dot_topbit {y n : Nat} (hy : y < 2 ^ n) : dot (2 ^ n) y = false ∧ dot (2 ^ n) (2 ^ n + y) = true := by
  constructor
  · rw [dot_comm, dot_pow]; exact testBit_ge hy (Nat.le_refl n)
  · rw [dot_comm, dot_pow, Nat.testBit_two_pow_add_eq, testBit_ge hy (Nat.le_refl n)]; rfl
/-- The signs of all numbers of a weight. -/
theorem chi_weight : ∀ (n j x : Nat), x < 2 ^ n → ssum (List.range (2 ^ n)) (fun y => chi x y * ind (popc y = j)) = Kr n j (popc x)
  | 0, j, x, hx => by
    obtain rfl : x = 0 := by simpa using hx
    rw [show List.range (2 ^ 0) = [0] from rfl, ssum_cons, ssum_nil, chi, dot_zero, popc_zero]
    cases j with
    | zero => rfl
    | succ j => simp [ind, Kr]
  | n + 1, j, x, hx => by
    rw [Nat.pow_succ, Nat.mul_two, range_double, ssum_append, ssum_map]
    have hyl : ∀ y ∈ List.range (2 ^ n), y < 2 ^ n := fun y hy => List.mem_range.1 hy
    have hsh : ∀ c : Int, ssum (List.range (2 ^ n)) (fun y => c * chi (x % 2 ^ n) y * ind (popc (2 ^ n + y) = j)) = c * (match j with | 0 => 0 | j + 1 => Kr n j (popc (x % 2 ^ n))) := by
      intro c
      cases j with
      | zero =>
        rw [show c * (match 0 with | 0 => (0 : Int) | j + 1 => Kr n j (popc (x % 2 ^ n))) = 0 by simp]
        rw [← ssum_zero (List.range (2 ^ n))]
        refine ssum_congr fun y hy => ?_
        rw [popc_top n y (hyl y hy), ind, if_neg (by omega), Int.mul_zero]
      | succ j =>
        show _ = c * Kr n j (popc (x % 2 ^ n))
        rw [← chi_weight n j (x % 2 ^ n) (Nat.mod_lt _ (Nat.two_pow_pos n)), ← ssum_mul]
        refine ssum_congr fun y hy => ?_
        rw [popc_top n y (hyl y hy), Int.mul_assoc]
        congr 2
        unfold ind
        by_cases h : popc y = j
        · rw [if_pos (by omega), if_pos h]
        · rw [if_neg (by omega), if_neg h]
    rcases Nat.lt_or_ge x (2 ^ n) with h | h
    · rw [chi_weight n j x h]
      have e := hsh 1
      rw [Nat.mod_eq_of_lt h] at e
      have e2 : ssum (List.range (2 ^ n)) (fun y => chi x (2 ^ n + y) * ind (popc (2 ^ n + y) = j)) = ssum (List.range (2 ^ n)) (fun y => 1 * chi x y * ind (popc (2 ^ n + y) = j)) := by
        refine ssum_congr fun y hy => ?_
        rw [chi, dot_low h (hyl y hy), Int.one_mul]; rfl
      rw [e2, e, Int.one_mul]
      have hk := popc_bits n x h
      cases j with
      | zero => simp only [Kr_zero]; rfl
      | succ j => rw [Kr_up n j _ hk]
    · have hm : x % 2 ^ n = x - 2 ^ n := by
        rw [Nat.mod_eq_sub_mod h, Nat.mod_eq_of_lt (by rw [Nat.pow_succ] at hx; omega)]
      have hxe : x = 2 ^ n + x % 2 ^ n := by omega
      have hml : x % 2 ^ n < 2 ^ n := Nat.mod_lt _ (Nat.two_pow_pos n)
      have e := hsh (-1)
      generalize x % 2 ^ n = z at *
      subst hxe
      have hz : ∀ y, dot (2 ^ n + z) y = (dot z y ^^ dot (2 ^ n) y) := fun y => by rw [add_xor hml, xor_dot]
      have e1 : ssum (List.range (2 ^ n)) (fun y => chi (2 ^ n + z) y * ind (popc y = j)) = ssum (List.range (2 ^ n)) (fun y => chi z y * ind (popc y = j)) := by
        refine ssum_congr fun y hy => ?_
        rw [chi, hz, (dot_topbit (hyl y hy)).1, Bool.xor_false]; rfl
      have e2 : ssum (List.range (2 ^ n)) (fun y => chi (2 ^ n + z) (2 ^ n + y) * ind (popc (2 ^ n + y) = j)) = ssum (List.range (2 ^ n)) (fun y => -1 * chi z y * ind (popc (2 ^ n + y) = j)) := by
        refine ssum_congr fun y hy => ?_
        congr 1
        rw [chi, hz, (dot_topbit (hyl y hy)).2, dot_low hml (hyl y hy), chi]
        cases dot z y <;> rfl
      rw [e1, e2, e, chi_weight n j z hml, popc_top n z hml]
      cases j with
      | zero => simp only [Kr_zero]; rfl
      | succ j =>
        rw [Kr]
        show _ + -1 * Kr n j (popc z) = _
        omega
theorem perm_of_mem {l r : List Nat} (hl : l.Nodup) (hr : r.Nodup) (h : ∀ x, x ∈ l ↔ x ∈ r) : l.Perm r := by
  rw [List.perm_iff_count]
  intro a
  rw [hl.count, hr.count]
  simp only [h a]
theorem cnt_sum (M : List Nat) (f : Nat → Int) (n : Nat) (hM : ∀ x ∈ M, popc x ≤ n) : ssum (List.range (n + 1)) (fun k => ((cntL M n).getD k 0 : Int) * f k) = ssum M fun x => f (popc x) := by
  have h1 : ssum (List.range (n + 1)) (fun k => ((cntL M n).getD k 0 : Int) * f k) = ssum (List.range (n + 1)) fun k => ssum M fun x => ind (popc x = k) * f k := by
    refine ssum_congr fun k hk => ?_
    rw [cntL_getD M (by have := List.mem_range.1 hk; omega), ← ssum_count (fun x => popc x = k) M, Int.mul_comm, ← ssum_mul]
    exact ssum_congr fun x _ => Int.mul_comm _ _
  rw [h1, ssum_comm]
  refine ssum_congr fun x hx => ?_
  have hle := hM x hx
  generalize popc x = p at *
  have : ∀ m, ssum (List.range m) (fun k => ind (p = k) * f k) = if p < m then f p else 0 := by
    intro m
    induction m with
    | zero => rfl
    | succ m ih =>
      rw [List.range_succ, ssum_append, ih, ssum_cons, ssum_nil, ind]
      by_cases h : p = m
      · subst h
        have h3 : p < p + 1 := by omega
        simp [h3]
      · by_cases h2 : p < m
        · have h3 : p < m + 1 := by omega
          simp [h, h2, h3]
        · have h3 : ¬ p < m + 1 := by omega
          simp [h, h2, h3]
  rw [this, if_pos (by omega)]
theorem chi_all (y : Nat) (R : List Nat) (c : Int) : ssum (sumsM R) (fun x => chi x y * c) = (2 : Int) ^ R.length * (c * ind (∀ r ∈ R, dot r y = false)) := by
  have := chi_sums y R _ (Nat.le_refl _)
  rw [List.take_length] at this
  rw [show (fun x => chi x y * c) = fun x => c * chi x y by funext x; rw [Int.mul_comm], ssum_mul, this, Int.mul_left_comm]
theorem ind_mul (p q : Prop) [Decidable p] [Decidable q] : ind p * ind q = ind (p ∧ q) := by
  unfold ind
  by_cases hp : p <;> by_cases hq : q <;> simp [hp, hq]
theorem dual_part {R : List Nat} {n j : Nat} (hR : ∀ x ∈ R, x < 2 ^ n) : ssum (sumsM R) (fun x => Kr n j (popc x)) =
    (2 : Int) ^ R.length * (((List.range (2 ^ n)).countP fun y => decide (popc y = j ∧ ∀ r ∈ R, dot r y = false) : Nat) : Int) := by
  have hlt : ∀ x ∈ sumsM R, x < 2 ^ n := fun x hx => (mem_sums.1 hx).lt hR
  rw [ssum_congr fun x hx => (chi_weight n j x (hlt x hx)).symm, ssum_comm, ssum_congr fun y _ => chi_all y R _, ssum_mul, ← ssum_count]
  rw [ssum_congr fun y _ => ind_mul (popc y = j) (∀ r ∈ R, dot r y = false)]
theorem orth_count {R N : List Nat} {n j : Nat} (hN : Indep N) (hs : ∀ x, InSpan N x ↔ Orth R n x) :
    ((sumsM N).countP fun x => decide (popc x = j)) = (List.range (2 ^ n)).countP fun y => decide (popc y = j ∧ ∀ r ∈ R, dot r y = false) := by
  have hp : (sumsM N).Perm ((List.range (2 ^ n)).filter fun y => decide (∀ r ∈ R, dot r y = false)) := by
    refine perm_of_mem hN.nodup (List.nodup_range.filter _) fun x => ?_
    rw [mem_sums, hs, List.mem_filter, List.mem_range, decide_eq_true_eq, Orth]
  rw [hp.countP_eq, List.countP_filter]
  congr 1
  funext y
  rw [Bool.decide_and]
/-- The weights of a span tell those of what is orthogonal to it. -/
theorem dual_weights {L : List Nat} {n j : Nat} (hn : n ≤ 24) (hL : ∀ x ∈ L, x < 2 ^ n) (hj : j ≤ n) :
    ((weightsM (nullM L n) n).getD j 0 : Int) * (2 : Int) ^ (redM L).length = ssum (List.range (n + 1)) fun k => ((weightsM L n).getD k 0 : Int) * Kr n j k := by
  have h24 := lt24 hn hL
  have h1 := (redM_rref h24).1
  have h2 := (redM_rref h24).2
  have hR : ∀ x ∈ redM L, x < 2 ^ n := redM_lt hn hL
  have hN : ∀ x ∈ nullM L n, x < 2 ^ n := nullM_lt hn
  obtain ⟨g1, g2⟩ := nullM_span hn hL
  have hlt : ∀ x ∈ sumsM (redM L), popc x ≤ n := fun x hx => popc_bits n x ((mem_sums.1 hx).lt hR)
  rw [weightsM_eq, weightsM_eq, cnt_sum _ _ _ hlt, dual_part hR, cntL_getD _ hj, g1.red (lt24 hn hN)]
  rw [orth_count g1.indep fun x => (g2 x).trans h2.orth.symm, Int.mul_comm]
end Go.AM

/-! ### M19 -/
namespace Go.AM
set_option linter.unusedVariables false
theorem dot_total_take {L : List Nat} {n x : Nat} (hx : x < 2 ^ n) (a : Nat) : ∀ k, k ≤ L.length → dot (total (L.take k) a) x = dot (a % 2 ^ k) (total (turnedM L n) x)
  | 0, _ => by simp [total, zero_dot, Nat.mod_one]
  | k + 1, hk => by
    rw [total_take_succ, xor_dot, dot_total_take hx a k (by omega), mod_succ_bit, xor_dot]
    congr 1
    cases a.testBit k
    · simp [zero_dot]
    · rw [if_pos rfl, if_pos rfl, dot_comm (2 ^ k), dot_pow, total_turned hx]
/-- What a sum of rows makes of a row is told by what all rows make of it. -/
theorem dot_total_rows {L : List Nat} {n x a : Nat} (hx : x < 2 ^ n) (ha : a < 2 ^ L.length) : dot (total L a) x = dot a (total (turnedM L n) x) := by
  have := dot_total_take hx a L.length (Nat.le_refl _)
  rwa [List.take_length, Nat.mod_eq_of_lt ha] at this
theorem mulM_getD (A B : List Nat) (i : Nat) : (mulM A B).getD i 0 = total B (A.getD i 0) := by
  unfold mulM
  by_cases h : i < A.length
  · rw [getD_eq (by simpa using h), getD_eq h, List.getElem_map]
  · rw [getD_out (by simp; omega), getD_out (by omega), total_zero]
theorem mulM_lt {A B : List Nat} {n : Nat} (hB : ∀ x ∈ B, x < 2 ^ n) : ∀ x ∈ mulM A B, x < 2 ^ n := fun x hx => by
  obtain ⟨y, _, rfl⟩ := List.mem_map.1 hx
  exact total_lt hB y
/-- A product makes what its factors make, one after the other. -/
theorem mul_apply {A B : List Nat} {n x : Nat} (hA : ∀ y ∈ A, y < 2 ^ B.length) (hx : x < 2 ^ n) :
    total (turnedM (mulM A B) n) x = total (turnedM A B.length) (total (turnedM B n) x) := by
  have hu : total (turnedM B n) x < 2 ^ B.length := total_lt turnedM_lt' x
  apply Nat.eq_of_testBit_eq
  intro i
  rw [total_turned hx, total_turned hu, mulM_getD]
  by_cases hi : i < A.length
  · exact dot_total_rows hx (hA _ (getD_mem hi))
  · rw [getD_out (by omega), total_zero, zero_dot, zero_dot]
theorem total_map_pow {n : Nat} (w : Nat) : ∀ k, k ≤ n → total ((List.range n).map (2 ^ ·) |>.take k) w = w % 2 ^ k
  | 0, _ => by simp [total, Nat.mod_one]
  | k + 1, hk => by
    rw [total_take_succ, total_map_pow w k (by omega), mod_succ_bit]
    congr 1
    rw [getD_eq (by simp; omega)]; simp
theorem total_one {n w : Nat} (hw : w < 2 ^ n) : total (oneM n) w = w := by
  have := total_map_pow (n := n) w n (Nat.le_refl _)
  rw [List.take_of_length_le (by simp), Nat.mod_eq_of_lt hw] at this
  exact this
theorem invOk_in {A : List Nat} {n : Nat} (h : invOk A n = true) {k : Nat} (hk : k < n) : (whichM A (2 ^ k)).1 = 0 := by
  unfold invOk at h
  exact of_decide_eq_true (List.all_eq_true.1 h k (List.mem_range.2 hk))
theorem inv_left {A : List Nat} {n : Nat} (hn : n ≤ 24) (hA : ∀ x ∈ A, x < 2 ^ n) (h : invOk A n = true) : mulM (invL A n) A = oneM n := by
  unfold mulM invL oneM
  rw [List.map_map]
  refine List.map_congr_left fun k hk => ?_
  exact ((split_spec (lt24 hn hA)).2 (invOk_in h (List.mem_range.1 hk))).1
section
variable {A : List Nat} {n : Nat} (hn : n ≤ 24) (hl : A.length = n) (hA : ∀ x ∈ A, x < 2 ^ n) (h : invOk A n = true)
include hn hl hA h
theorem invL_lt : ∀ x ∈ invL A n, x < 2 ^ n := fun x hx => by
  obtain ⟨k, hk, rfl⟩ := List.mem_map.1 hx
  have := whichM_lt (n := 0) (lt24 hn hA) (invOk_in h (List.mem_range.1 hk))
  rwa [hl] at this
theorem inv_total_take (w : Nat) : ∀ k, k ≤ n → total A (total ((invL A n).take k) w) = w % 2 ^ k
  | 0, _ => by simp [total, Nat.mod_one, total_zero]
  | k + 1, hk => by
    rw [total_take_succ, total_xor, inv_total_take w k (by omega), mod_succ_bit]
    congr 1
    have hg : (invL A n).getD k 0 = (whichM A (2 ^ k)).2 := by
      unfold invL
      rw [getD_eq (by simp; omega)]; simp
    cases w.testBit k
    · simp [total_zero]
    · rw [if_pos rfl, if_pos rfl, hg]
      exact ((split_spec (lt24 hn hA)).2 (invOk_in h (by omega))).1
theorem inv_total {w : Nat} (hw : w < 2 ^ n) : total A (total (invL A n) w) = w := by
  have := inv_total_take hn hl hA h w n (Nat.le_refl _)
  rwa [List.take_of_length_le (by simp [invL]), Nat.mod_eq_of_lt hw] at this
theorem inv_right : mulM A (invL A n) = oneM n := by
  have hI := invL_lt hn hl hA h
  have hp : ((List.range (2 ^ n)).map (total (invL A n))).Perm (List.range (2 ^ n)) := by
    refine range_nodup_perm ?_ (by simp) ?_
    · unfold List.Nodup
      rw [List.pairwise_map]
      have hr : (List.range (2 ^ n)).Pairwise fun a b => a < 2 ^ n ∧ b < 2 ^ n ∧ a ≠ b := by
        rw [List.pairwise_iff_getElem]
        intro i j hi hj hij
        simp only [List.getElem_range]
        simp only [List.length_range] at hi hj
        exact ⟨hi, hj, by omega⟩
      refine hr.imp fun {a b} hab e => hab.2.2 ?_
      rw [← inv_total hn hl hA h hab.1, e, inv_total hn hl hA h hab.2.1]
    · intro x hx
      obtain ⟨w, _, rfl⟩ := List.mem_map.1 hx
      exact total_lt hI w
  apply List.ext_getElem
  · simp [mulM, oneM, hl]
  · intro i h1 h2
    have hi : i < n := by simpa [mulM, hl] using h1
    obtain ⟨w, hw, e⟩ := List.mem_map.1 (hp.mem_iff.2 (List.mem_range.2 (Nat.pow_lt_pow_right (a := 2) (by omega) hi)))
    have hw' := List.mem_range.1 hw
    have h3 := inv_total hn hl hA h hw'
    rw [e, total_pow] at h3
    have h4 : (mulM A (invL A n))[i] = total (invL A n) (A.getD i 0) := by
      rw [← mulM_getD, getD_eq h1]
    rw [h4, h3, e]
    simp [oneM]
end
end Go.AM
