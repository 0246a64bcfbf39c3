/- Part 7 of the proof: Contracts of the program's functions. -/
import Derived.Test.YthfhbddnkgfhaaaDoorPartF
import Derived.Test.YthfhbddnkgfhaaaDoorPartE
set_option linter.unusedVariables false
set_option linter.unusedSimpArgs false
/-! ### P24 -/
namespace Go.AM
open Go.Proofs
set_option maxRecDepth 100000
set_option linter.unusedVariables false
set_option linter.unusedSimpArgs false
/-- A slice that may be wiped. -/
def Wr (N M : Nat) (m : Mem) (s : Value) (n : Nat) : Prop := (s = .slice none 0 0 ∧ n = 0) ∨ ∃ b cap c, s = .slice (some ⟨b, 0, some 1⟩) n cap ∧ (N ≤ b ∧ b < M) ∧ Mem.get m b = .cells true c ∧ n ≤ c.size
/-- What wiping leaves. -/
def Wipe (N M : Nat) (m m' : Mem) : Prop := m'.size = m.size ∧ (∀ b, b < N ∨ M ≤ b → Mem.get m' b = Mem.get m b) ∧ ∀ b c, Mem.get m b = .cells true c → ∃ c', Mem.get m' b = .cells true c' ∧ c'.size = c.size
theorem Wipe.refl (N M : Nat) (m : Mem) : Wipe N M m m := ⟨rfl, fun _ _ => rfl, fun b c h => ⟨c, h, rfl⟩⟩
theorem Wipe.trans {N M : Nat} {a b c : Mem} (h : Wipe N M a b) (h' : Wipe N M b c) : Wipe N M a c := ⟨h'.1.trans h.1, fun i hi => (h'.2.1 i hi).trans (h.2.1 i hi), fun i x hx => by
  obtain ⟨y, hy, e⟩ := h.2.2 i x hx
  obtain ⟨z, hz, e'⟩ := h'.2.2 i y hy
  exact ⟨z, hz, e'.trans e⟩⟩
theorem Wipe.low {N M : Nat} {m m' : Mem} (h : Wipe N M m m') : Low N m m' := ⟨by rw [h.1]; exact Nat.le_refl _, fun b hb => h.2.1 b (.inl hb)⟩
theorem Wr.wipe {N M : Nat} {m m' : Mem} {s : Value} {n : Nat} (h : Wr N M m s n) (hw : Wipe N M m m') : Wr N M m' s n := by
  rcases h with h | ⟨b, cap, c, h1, h2, h3, h4⟩
  · exact .inl h
  · obtain ⟨c', h5, h6⟩ := hw.2.2 b c h3
    exact .inr ⟨b, cap, c', h1, h2, h5, by omega⟩
theorem OwnF.wr {N M : Nat} {m : Mem} {v : Value} {l : List Int} (h : OwnF N m v l) (hM : ∀ b, blkOf v = some b → b < M) : Wr N M m v l.length := by
  rcases h with ⟨rfl, rfl⟩ | ⟨b, cap, c, h1, h2, h3, h4, h5, _⟩
  · exact .inl ⟨rfl, rfl⟩
  · exact .inr ⟨b, cap, c, h1, ⟨h2, hM b (by rw [h1]; rfl)⟩, h3, by omega⟩
theorem zeroCells_one (z : Value) (n : Nat) : Builtin.zeroCells #[z] n = Array.replicate n z := by
  unfold Builtin.zeroCells
  apply Array.ext
  · simp
  · intro i h1 h2
    simp [Nat.mod_one]
theorem sClrW {P : Program} {ρ : Env} {m : Mem} {K : Env → Mem → Prop} {ops : Array Oper} {l : List Oper} {d : Option Nat} {ty t e : TypeId} {pos : String} {af : Array Edge} {x : Operand} {s z : Value} {N M n : Nat}
    (ht : undOf P t = some (.slice e)) (hz : zeroOf P e = some z) (h1 : z.cells = #[z]) (h2 : flat0 z = true) (h3 : Value.oneCell' z = true) (hx : evR ρ x = s) (hs : Wr N M m s n)
    (hk : ∀ m', Wipe N M m m' → (∀ b, blkOf s ≠ some b → Mem.get m' b = Mem.get m b) → wpOps P ops K l (updO ρ d (.tuple #[])) m') : wpOps P ops K (⟨d, .call ⟨.builtin .clear, ⟨[x]⟩, ⟨[t]⟩⟩, ty, pos, af, none⟩ :: l) ρ m := by
  rcases hs with ⟨rfl, _⟩ | ⟨b, cap, c, rfl, hN, hb, hn⟩
  · refine sO (opF_eff rfl rfl ?_) (hk m (.refl _ _ _) fun _ _ => rfl)
    simp only [aEff, hx, aClear, ht]
  · by_cases h0 : n = 0
    · refine sO (opF_eff rfl rfl ?_) (hk m (.refl _ _ _) fun _ _ => rfl)
      simp only [aEff, hx, aClear, ht, h0, if_true]
    · refine sO (opF_eff rfl rfl ?_) (hk (m.setIfInBounds b (.cells true (lay c 0 (Array.replicate n z)))) ⟨by simp, fun i hi => gSn (by omega), fun i c' hi => ?_⟩ fun i hi => gSn fun e => hi (by rw [← e]; rfl))
      · simp only [aEff, hx, aClear, ht, if_neg h0, hz, hb, h1, zeroCells_one]
        rw [if_pos ⟨by simp, by simp [h2], by simp; omega, by rw [Array.all_eq_true]; intro i hi; simp [h3]⟩]
      · by_cases hib : b = i
        · subst hib
          rw [hb] at hi; cases hi
          exact ⟨_, gS rfl (live hb), lay_size ..⟩
        · exact ⟨c', (gSn hib).trans hi, rfl⟩

theorem okf35 : okF Tryd.prog H0 35 13 = true := by kernel_rfl
theorem spec_SpoilRows {m : Mem} {v : Value} {cs : Array Value} {G : List (List Int)} {N M : Nat} (hO : OwnR N m v cs G) (hl : G.length < 1000000) (hMv : ∀ b, blkOf v = some b → b < M) (hMs : ∀ (i : Nat) (s : Value), cs[i]? = some s → ∀ b, blkOf s = some b → b < M) : ∃ w m', ACalls Tryd.prog 35 #[v] m w m' ∧ (Wipe N M m m') := by
  have hsz := hO.1.size
  have hvw : Wr N M m v G.length := by
    rcases hO.1 with ⟨rfl, h, _⟩ | ⟨b, cap, c, h1, h2, h3, h4, h5, _⟩
    · exact .inl ⟨rfl, h⟩
    · exact .inr ⟨b, cap, c, h1, ⟨h2, hMv b (by rw [h1]; rfl)⟩, h3, by omega⟩
  have hrows : ∀ i, i < G.length → ∃ s n, cs[i]? = some s ∧ Wr N M m s n ∧ (∃ q c, s = .slice q n c) ∧ ∀ b, blkOf s = some b → blkOf v ≠ some b := fun i hi => by
    obtain ⟨s, hs, ho, hb⟩ := hO.2 i _ (List.getElem?_eq_getElem hi)
    obtain ⟨q, c, e⟩ := ho.ints.len
    exact ⟨s, _, hs, ho.wr (hMs i s hs), ⟨q, c, e⟩, hb⟩
  obtain ⟨q, cap, rfl⟩ := hO.1.len
  refine wpF (args := [_]) mixed okf35 (fn := Tryd.f35) rfl rfl rfl (by simp) ?_
  refine cSeq ?_
  refine cSeq ?_
  refine cRegion ?_
  refine sMv (v := .slice _ _ _) rfl ?_
  refine sLen T22 rfl ?_
  refine sMv (v := nv 0) rfl ?_
  refine sNil (kSeqN ?_)
  refine cBlock ?_
  refine wpC_loop (fun k ρ m' => ∃ i, k = G.length - i ∧ i ≤ G.length ∧ Wipe N M m m' ∧ (∀ b, blkOf (.slice q G.length cap) = some b → Mem.get m' b = Mem.get m b) ∧ Has ρ [(0, .slice q G.length cap), (4, .slice q G.length cap), (5, nv G.length), (6, nv i)]) ⟨0, rfl, Nat.zero_le _, .refl _ _ _, fun _ _ => rfl, rfl, rfl, rfl, rfl, trivial⟩ ?_
  rintro k ρ m' ⟨i, rfl, hi, hw, hkeep, hh⟩
  rw [hh.env]; clear hh
  refine cSeq ?_
  refine cRegion ?_
  refine sBin rfl rfl (aInt_lss) ?_
  refine sNil (kSeqN ?_)
  refine cSeq ?_   -- seq 3
  refine cCond rfl (fun c0 => ?_) (fun c0 => ?_)
  ·
    obtain ⟨b1, p1, cc, e1, hb1, g1, hc1, x1⟩ := hO.1.at (by omega)
    cases e1
    obtain ⟨s, n, hs, hsw, ⟨qs, c', rfl⟩, hsb⟩ := hrows i c0
    refine cSkip (kSeqN ?_)
    refine cSeq ?_
    refine cBlock ?_
    refine cSeq ?_
    refine cRegion ?_
    refine sIx T22 S25 rfl rfl (by omega) ?_
    refine sLd (v := .slice qs n c') A25 rfl ((hkeep b1 rfl).trans g1) (by rw [Nat.zero_add, Nat.mul_one, x1 i (by omega)]; exact hs) ?_
    refine sAs (v := .slice _ _ _) rfl ?_
    refine sNil (kSeqN ?_)
    refine cRegion ?_
    refine sMv (v := .slice _ _ _) rfl ?_
    refine sClrW (N := N) (M := M) T25 Z3 rfl rfl rfl rfl (hsw.wipe hw) fun m2 hw2 hk2 => ?_
    refine sNil (kBlkN (kSeqN ?_))
    refine cRegion ?_
    refine sBin rfl rfl (aInt_add (b := 1) (by omega)) ?_
    refine sMv (v := nv _) rfl ?_
    refine sNil (kSeqN ?_)
    refine ⟨_, ?_, i + 1, rfl, by omega, hw.trans hw2, fun b hb => (hk2 b (fun e => hsb b e hb)).trans (hkeep b hb), rfl, rfl, rfl, rfl, trivial⟩
    omega
  ·
    refine cExit (kSeqE (kSeqE (kBlkS (kSeqN ?_))))
    refine cRegion ?_
    refine sMv (v := .slice _ _ _) rfl ?_
    refine sClrW (N := N) (M := M) T22 Z25 rfl rfl rfl rfl (hvw.wipe hw) fun m2 hw2 hk2 => ?_
    refine sNil ?_
    exact ⟨.inl rfl, _, rfl, hw.trans hw2⟩

end Go.AM

/-! ### M29 -/
namespace Go.AM
set_option linter.unusedVariables false
set_option linter.unusedSimpArgs false
theorem stepE_keep {d y x d' : Nat} {es : List (Nat × Nat)} (h : lookE es x = some d') : lookE (stepE d y es) x = some d' := by
  unfold stepE; split
  · rw [lookE_append, h]; rfl
  · exact h
theorem stepE_has (d y : Nat) (es : List (Nat × Nat)) : ∃ d', lookE (stepE d y es) y = some d' ∧ (d' = d ∨ (y, d') ∈ es) := by
  unfold stepE; split
  · rename_i h
    exact ⟨d, by rw [lookE_append, h, lookE_cons, if_pos rfl]; rfl, .inl rfl⟩
  · rename_i h
    match h1 : lookE es y with
    | none => exact absurd h1 h
    | some d' => exact ⟨d', rfl, .inr (lookE_mem h1)⟩
theorem roundE_keep {P : List Nat} {k x d y d' : Nat} {es : List (Nat × Nat)} (h : lookE es y = some d') : ∀ n, lookE (roundE P k x d n es) y = some d'
  | 0 => h
  | n + 1 => by
    rw [roundE]; split
    · exact stepE_keep (roundE_keep h n)
    · exact roundE_keep h n
structure Bd (D : Nat) (es : List (Nat × Nat)) : Prop where
  sort : es.Pairwise fun p q => p.2 ≤ q.2
  top : ∀ q ∈ es, q.2 ≤ D + 1
theorem Bd.step {D y : Nat} {es : List (Nat × Nat)} (h : Bd D es) : Bd D (stepE (D + 1) y es) := by
  unfold stepE; split
  · refine ⟨List.pairwise_append.2 ⟨h.sort, List.pairwise_singleton _ _, fun p hp q hq => ?_⟩, fun q hq => ?_⟩
    · rw [List.mem_singleton.1 hq]; exact h.top p hp
    · rcases List.mem_append.1 hq with hq | hq
      · exact h.top q hq
      · rw [List.mem_singleton.1 hq]; exact Nat.le_refl _
  · exact h
theorem Bd.round {P : List Nat} {k x D : Nat} {es : List (Nat × Nat)} (h : Bd D es) : ∀ n, Bd D (roundE P k x D n es)
  | 0 => h
  | n + 1 => by
    rw [roundE]; split
    · exact (Bd.round h n).step
    · exact Bd.round h n
theorem roundE_has {P : List Nat} {k x D : Nat} {es : List (Nat × Nat)} (h : Bd D es) : ∀ n m, m < n → wayB P k x m = true → ∃ d', lookE (roundE P k x D n es) (x ^^^ 2 ^ m) = some d' ∧ d' ≤ D + 1
  | 0, m, hm, _ => by omega
  | n + 1, m, hm, hw => by
    rw [roundE]
    by_cases e : m = n
    · subst e
      rw [if_pos hw]
      obtain ⟨d', h1, h2⟩ := stepE_has (D + 1) (x ^^^ 2 ^ m) (roundE P k x D m es)
      refine ⟨d', h1, ?_⟩
      rcases h2 with rfl | h2
      · exact Nat.le_refl _
      · exact (h.round m).top _ h2
    · obtain ⟨d', h1, h2⟩ := roundE_has h n m (by omega) hw
      refine ⟨d', ?_, h2⟩
      split
      · exact stepE_keep h1
      · exact h1
/-- The entries ahead of a place have all their neighbours; the entries rise. -/
structure Que (P : List Nat) (k i : Nat) (es : List (Nat × Nat)) : Prop where
  sort : es.Pairwise fun p q => p.2 ≤ q.2
  top : ∀ p, es[i]? = some p → ∀ q ∈ es, q.2 ≤ p.2 + 1
  done : ∀ (j : Nat) (p : Nat × Nat), j < i → es[j]? = some p → ∀ n, n < P.length → wayB P k p.1 n = true → ∃ d, lookE es (p.1 ^^^ 2 ^ n) = some d ∧ d ≤ p.2 + 1
theorem Que.far {P : List Nat} {k : Nat} (hP : P.length ≤ 10) : ∀ (f i : Nat) {es : List (Nat × Nat)}, GoodE P.length es → Que P k i es → f + i = 1025 → i ≤ es.length → Que P k (farF P k f i es).length (farF P k f i es)
  | 0, i, es, hg, hq, hf, hi => by
    have := hg.length
    have := Nat.pow_le_pow_right (n := 2) (by omega) hP
    omega
  | f + 1, i, es, hg, hq, hf, hi => by
    rw [farF]
    split
    · rename_i hn
      have : es.length = i := by rw [List.getElem?_eq_none_iff] at hn; omega
      subst this
      exact hq
    · rename_i p hp
      have hil := (List.getElem?_eq_some_iff.1 hp).1
      have hb : Bd p.2 es := ⟨hq.sort, hq.top p hp⟩
      have hb' := hb.round (P := P) (k := k) (x := p.1) P.length
      have hp2 : p.2 < es.length := by have := hg.low i p hp; omega
      refine Que.far hP f (i + 1) (hg.round (hg.lt p (List.mem_of_getElem? hp)) hp2 _ (Nat.le_refl _)) ⟨hb'.sort, fun p' hp' q hq' => ?_, fun j r hj hr n hn hw => ?_⟩ (by omega) (by have := roundE_len P k p.1 p.2 es P.length; omega)
      · have h1 := hb'.top q hq'
        have h2 := roundE_get (P := P) (k := k) (x := p.1) (d := p.2) hp P.length
        obtain ⟨hl, he⟩ := List.getElem?_eq_some_iff.1 hp'
        obtain ⟨hl2, he2⟩ := List.getElem?_eq_some_iff.1 h2
        have h3 := List.pairwise_iff_getElem.1 hb'.sort i (i + 1) hl2 hl (by omega)
        rw [he, he2] at h3
        omega
      · by_cases e : j = i
        · subst e
          have h2 := roundE_get (P := P) (k := k) (x := p.1) (d := p.2) hp P.length
          rw [h2] at hr
          obtain rfl := Option.some.inj hr
          exact roundE_has hb P.length n hn hw
        · have h0 : es[j]? = some r := by
            have h2 := roundE_get (P := P) (k := k) (x := p.1) (d := p.2) (List.getElem?_eq_getElem (show j < es.length by omega)) P.length
            rw [h2] at hr
            rw [List.getElem?_eq_getElem (by omega)]; exact hr
          obtain ⟨d, h1, h3⟩ := hq.done j r (by omega) h0 n hn hw
          exact ⟨d, roundE_keep h1 _, h3⟩
theorem farM_next {P : List Nat} {k g : Nat} (hP : P.length ≤ 10) (hg : g < 2 ^ P.length) {x d n : Nat} (h : lookE (farM P k g) x = some d) (hn : n < P.length) (hw : wayB P k x n = true) : ∃ d', lookE (farM P k g) (x ^^^ 2 ^ n) = some d' ∧ d' ≤ d + 1 := by
  unfold farM at *
  split at h
  · cases h
  rename_i hk
  rw [if_neg hk]
  have hq := Que.far hP 1025 0 (.one hg) (k := k) ⟨List.pairwise_singleton _ _, fun p hp q hq => (by simp at hp hq; subst hp hq; omega), fun j p hj => (by omega)⟩ rfl (by simp)
  obtain ⟨j, hj, he⟩ := List.getElem_of_mem (lookE_mem h)
  exact hq.done j _ hj (by rw [List.getElem?_eq_getElem hj, he]) n hn hw
theorem farM_root {P : List Nat} {k g : Nat} (hg : g < 2 ^ P.length) (hk : popc g ≤ k) : lookE (farM P k g) g = some 0 :=
  lookE_of_mem (farM_good hg).once (farM_bfs hg hk).root
theorem mayM_full {P : List Nat} (hP : LowP P) {x n : Nat} (h : ∀ i, i < n → x.testBit i = true) : mayM P x n = true := by
  refine decide_eq_true (Nat.eq_of_testBit_eq fun i => ?_)
  rw [Nat.testBit_and]
  by_cases hi : i < n
  · rw [h i hi, Bool.true_and]
  · rw [Nat.testBit_lt_two_pow (Nat.lt_of_lt_of_le (getD_lowP hP n) (Nat.pow_le_pow_right (by omega) (by omega))), Bool.and_false]
theorem reach_all {P : List Nat} {k g : Nat} (hL : LowP P) (hP : P.length ≤ 10) (hg : g < 2 ^ P.length) (hk : P.length ≤ k) : ∃ d, lookE (farM P k g) 0 = some d := by
  have hpo : ∀ {x}, x < 2 ^ P.length → popc x ≤ k := fun hx => Nat.le_trans (popc_le_of_lt hx) hk
  have hway : ∀ {x n}, x < 2 ^ P.length → n < P.length → (∀ i, i < n → x.testBit i = true) → wayB P k x n = true := fun {x n} hx hn h => by
    unfold wayB
    rw [mayM_full hL h, decide_eq_true (hpo (Nat.xor_lt_two_pow hx (Nat.pow_lt_pow_right (by omega) hn)))]; rfl
  have up : ∀ n, n ≤ P.length → ∃ x d, x < 2 ^ P.length ∧ lookE (farM P k g) x = some d ∧ ∀ i, i < n → x.testBit i = true := by
    intro n
    induction n with
    | zero => exact fun _ => ⟨g, 0, hg, farM_root hg (hpo hg), fun i hi => by omega⟩
    | succ n ih =>
      intro hn
      obtain ⟨x, d, hx, hl, hb⟩ := ih (by omega)
      by_cases hb' : x.testBit n = true
      · exact ⟨x, d, hx, hl, fun i hi => if e : i = n then e ▸ hb' else hb i (by omega)⟩
      · obtain ⟨d', h1, _⟩ := farM_next hP hg hl (n := n) (by omega) (hway hx (by omega) hb)
        refine ⟨_, d', Nat.xor_lt_two_pow hx (Nat.pow_lt_pow_right (by omega) (by omega)), h1, fun i hi => ?_⟩
        rw [Nat.testBit_xor, Nat.testBit_two_pow]
        by_cases e : i = n
        · subst e; simp at hb'; simp [hb']
        · rw [hb i (by omega), decide_eq_false (by omega)]; rfl
  obtain ⟨x, d, hx, hl, hb⟩ := up P.length (Nat.le_refl _)
  obtain rfl : x = 2 ^ P.length - 1 := by
    refine Nat.eq_of_testBit_eq fun i => ?_
    rw [Nat.testBit_two_pow_sub_one]
    by_cases hi : i < P.length
    · rw [hb i hi, decide_eq_true hi]
    · rw [decide_eq_false hi, Nat.testBit_lt_two_pow (Nat.lt_of_lt_of_le hx (Nat.pow_le_pow_right (by omega) (by omega)))]
  have down : ∀ m n, n + m = P.length → ∃ d, lookE (farM P k g) (2 ^ n - 1) = some d := by
    intro m
    induction m with
    | zero => intro n hn; rw [show n = P.length by omega]; exact ⟨d, hl⟩
    | succ m ih =>
      intro n hn
      obtain ⟨d1, h1⟩ := ih (n + 1) (by omega)
      have hlt : 2 ^ (n + 1) - 1 < 2 ^ P.length := by
        have := Nat.pow_le_pow_right (n := 2) (by omega) (show n + 1 ≤ P.length by omega)
        have := Nat.two_pow_pos (n + 1)
        omega
      obtain ⟨d2, h2, _⟩ := farM_next hP hg h1 (n := n) (by omega) (hway hlt (by omega) fun i hi => by rw [Nat.testBit_two_pow_sub_one]; exact decide_eq_true (by omega))
      refine ⟨d2, ?_⟩
      rw [← h2]
      congr 1
      refine Nat.eq_of_testBit_eq fun i => ?_
      rw [Nat.testBit_xor, Nat.testBit_two_pow, Nat.testBit_two_pow_sub_one, Nat.testBit_two_pow_sub_one]
      by_cases e : i = n
      · subst e; simp
      · by_cases e2 : i < n
        · rw [decide_eq_true e2, decide_eq_true (show i < n + 1 by omega), decide_eq_false (by omega)]; rfl
        · rw [decide_eq_false e2, decide_eq_false (show ¬ i < n + 1 by omega), decide_eq_false (by omega)]; rfl
  exact down P.length 0 (by omega)
theorem isShort_all {P : List Nat} {k g : Nat} (hL : LowP P) (hP : P.length ≤ 10) (hg : g < 2 ^ P.length) (hk : P.length ≤ k) : isShort P k g = true := by
  obtain ⟨d, h⟩ := reach_all hL hP hg hk
  rw [isShort, h]; rfl
theorem trade_ne {G : List (List Int)} {gs : List Int} (h : withE G gs = 0) : tradeG G gs ≠ [] := by
  obtain ⟨N, g, rfl, hN, rfl, hg⟩ := withE_nat h
  have h1 := hN.one
  have hl : (needsM N).length = N.length := by simp [needsM]
  have hs := isShort_all (k := N.length) (g := posM g) hN.lowP (by rw [hl]; exact hN.ten) (by rw [hl]; exact posM_lt hg.lt) (by omega)
  unfold tradeG
  rw [natsG_ofs2, nats_ofs, ofs2_length]
  obtain ⟨n, hn⟩ : ∃ n, N.length = n + 1 := ⟨N.length - 1, by omega⟩
  rw [hn] at hs ⊢
  rw [tradeF]
  split
  · simp
  · rename_i hne
    intro h0
    exact hne ⟨hs, .inl (by rw [h0]; rfl)⟩
end Go.AM

/-! ### P27 -/
namespace Go.AM
open Go.Proofs
set_option maxRecDepth 100000
set_option linter.unusedVariables false
set_option linter.unusedSimpArgs false
def greatB (G : List (List Int)) : Bool := decide (14 < G.length) || G.any fun g => decide (5 < g.length)
theorem greatB_not {G : List (List Int)} (h : greatB G ≠ true) : G.length ≤ 14 ∧ ∀ g ∈ G, g.length ≤ 5 := by
  have h' : greatB G = false := Bool.eq_false_iff.2 h
  unfold greatB at h'
  rw [Bool.or_eq_false_iff] at h'
  have h1 := of_decide_eq_false h'.1
  refine ⟨by omega, fun g hg => ?_⟩
  have h2 := List.any_eq_false.1 h'.2 g hg
  simp at h2; omega
theorem popc_half (x : Nat) : popc x = x % 2 + popc (x / 2) := by
  have := popc_double (x / 2) (x % 2) (Nat.mod_lt _ (by omega))
  rwa [Nat.mod_add_div] at this
theorem sShr {P : Program} {ρ : Env} {m : Mem} {K : Env → Mem → Prop} {ops : Array Oper} {l : List Oper} {d : Option Nat} {ty t tz : TypeId} {pos : String} {af : Array Edge} {x y : Operand} {a b : Nat} {k : IntKind}
    (hx : evR ρ x = nv a) (hy : evR ρ y = .int k (Int.ofNat b)) (h : a < 9223372036854775808) (hk : wpOps P ops K l (updO ρ d (nv (a >>> b))) m) :
    wpOps P ops K (⟨d, .binOp .shr t x y tz, ty, pos, af, none⟩ :: l) ρ m := by
  refine sP (v := nv (a >>> b)) ?_ hk
  simp only [aPure, hx, hy, aBin, nv]
  rw [if_pos (.inr trivial)]
  exact aInt_shr h
theorem posM_snoc (l : List Nat) (n : Nat) : posM (l ++ [n]) = posM l ||| 2 ^ n := by simp [posM, posFrom]
theorem nats_take (l : List Int) (i : Nat) : nats (l.take i) = (nats l).take i := by simp [nats, List.map_take]
theorem mayM_iff {N : List (List Nat)} {n : Nat} (hn : n < N.length) (x : Nat) : mayM (needsM N) x n = true ↔ ∀ k ∈ N.getD n [], x.testBit k = true := by
  have hg : (needsM N).getD n 0 = posM (N.getD n []) := by
    simp [needsM, List.getD_eq_getElem?_getD, List.getElem?_map, List.getElem?_eq_getElem hn]
  unfold mayM
  rw [hg, decide_eq_true_eq]
  constructor
  · intro h k hk
    have := congrArg (·.testBit k) h
    simp only [Nat.testBit_and, posM_bit, decide_eq_true hk, Bool.and_true] at this
    exact this
  · intro h
    refine Nat.eq_of_testBit_eq fun i => ?_
    rw [Nat.testBit_and, posM_bit]
    by_cases hi : i ∈ N.getD n []
    · rw [h i hi, decide_eq_true hi]; rfl
    · rw [decide_eq_false hi, Bool.and_false]

theorem okf12 : okF Tryd.prog H0 12 20 = true := by kernel_rfl
theorem spec_Great {m : Mem} {s : Value} {G : List (List Int)} (hG : RowsAt m s G) : ∃ v m', ACalls Tryd.prog 12 #[.agg #[s]] m v m' ∧ (v = .bool (greatB G) ∧ Ext m m') := by
  obtain ⟨q, cap, rfl⟩ := hG.len
  have he : Ext m (m.push (.cells true #[.slice q G.length cap])) := .push _ _
  refine wpF (args := [_]) mixed okf12 (fn := Tryd.f12) rfl rfl rfl (by simp) ?_
  refine cSeq ?_
  refine cRegion ?_
  refine sBox (v := .agg _) rfl ?_
  refine sAs (v := .bool _) rfl ?_
  refine sNil (kSeqN ?_)
  refine cSeq ?_   -- seq 1
  refine cSeq ?_
  refine cRegion ?_
  refine sFA F24_0 rfl ?_
  refine sLd A22 rfl (by simp (disch := first | omega | (simp only [Array.size_push, Array.size_setIfInBounds]; done) | (simp only [Array.size_push, Array.size_setIfInBounds]; omega)) only [gP, gPn, gS, gSn]; try rfl) rfl ?_
  refine sLen T22 rfl ?_
  refine sBin (b := 14) rfl rfl aInt_gtr ?_
  refine sNil (kSeqN ?_)
  refine cCond rfl (fun c0 => ?_) (fun c0 => ?_)
  ·
    refine cSeq ?_
    refine cRegion ?_
    refine sAs (v := .bool _) rfl ?_
    refine sNil (kSeqN ?_)
    refine cRet (kSeqR ?_)
    exact ⟨.inr rfl, _, rfl, by rw [greatB, decide_eq_true c0]; rfl, he⟩
  ·
    refine cSkip (kSeqN ?_)
    refine cSeq ?_
    refine cSeq ?_
    refine cRegion ?_
    refine sFA F24_0 rfl ?_
    refine sLd A22 rfl (by simp (disch := first | omega | (simp only [Array.size_push, Array.size_setIfInBounds]; done) | (simp only [Array.size_push, Array.size_setIfInBounds]; omega)) only [gP, gPn, gS, gSn]; try rfl) rfl ?_
    refine sLen T22 rfl ?_
    refine sMv (v := nv 0) rfl ?_
    refine sNil (kSeqN ?_)
    refine cBlock ?_
    refine wpC_loop (fun k ρ m' => ∃ i, k = G.length - i ∧ i ≤ G.length ∧ (∀ j g, j < i → G[j]? = some g → g.length ≤ 5) ∧ m.push (.cells true #[.slice q G.length cap]) = m' ∧ Has ρ [(1, .pointer (some ⟨m.size, 0, none⟩)), (10, .slice q G.length cap), (11, nv G.length), (12, nv i)]) ⟨0, rfl, by omega, by omega, rfl, rfl, rfl, rfl, rfl, trivial⟩ ?_
    rintro k ρ _ ⟨i, rfl, hi, hr, rfl, hh⟩
    rw [hh.env]; clear hh
    refine cSeq ?_
    refine cRegion ?_
    refine sBin rfl rfl (aInt_lss) ?_
    refine sNil (kSeqN ?_)
    refine cSeq ?_   -- seq 7
    refine cCond rfl (fun c1 => ?_) (fun c1 => ?_)
    ·
      obtain ⟨b1, o1, p1, r1, cc, e1, g1, x1⟩ := hG.at (by omega)
      cases e1
      obtain ⟨s1, hs1, ha⟩ := x1 i G[i] (by simp)
      obtain ⟨qs, cs, rfl⟩ := ha.len
      refine cSkip (kSeqN ?_)
      refine cSeq ?_
      refine cBlock ?_
      refine cSeq ?_
      refine cRegion ?_
      refine sIx T22 S25 rfl rfl (by omega) ?_
      refine sLd (v := .slice _ _ _) A25 rfl (he.cells g1) hs1 ?_
      refine sAs (v := .slice _ _ _) rfl ?_
      refine sNil (kSeqN ?_)
      refine cSeq ?_
      refine cRegion ?_
      refine sMv (v := .slice _ _ _) rfl ?_
      refine sLen T25 rfl ?_
      refine sBin (b := 5) rfl rfl aInt_gtr ?_
      refine sNil (kSeqN ?_)
      refine cCond rfl (fun c2 => ?_) (fun c2 => ?_)
      ·
        refine cSeq ?_
        refine cRegion ?_
        refine sAs (v := .bool _) rfl ?_
        refine sNil (kSeqN ?_)
        refine cRet (kBlkR (kSeqR (kSeqR (kBlkR (kSeqR ?_)))))
        refine ⟨.inr rfl, _, rfl, ?_, he⟩
        rw [greatB, List.any_eq_true.2 ⟨G[i], List.getElem_mem c1, decide_eq_true c2⟩, Bool.or_true]; rfl
      ·
        refine cSkip (kBlkN (kSeqN ?_))
        refine cRegion ?_
        refine sBin rfl rfl (aInt_add (b := 1) (by omega)) ?_
        refine sMv (v := nv _) rfl ?_
        refine sNil (kSeqN ?_)
        refine ⟨_, ?_, i + 1, rfl, by omega, fun j g hj hg => ?_, rfl, rfl, rfl, rfl, rfl, trivial⟩
        · omega
        · by_cases e : j = i
          · subst e
            rw [List.getElem?_eq_getElem c1] at hg
            obtain rfl := Option.some.inj hg
            omega
          · exact hr j g (by omega) hg
    ·
      refine cExit (kSeqE (kSeqE (kBlkS (kSeqN ?_))))
      refine cSeq ?_
      refine cRegion ?_
      refine sAs (v := .bool _) rfl ?_
      refine sNil (kSeqN ?_)
      refine cRet ?_
      refine ⟨.inr rfl, _, rfl, ?_, he⟩
      rw [greatB, decide_eq_false c0, Bool.false_or]
      rw [Bool.eq_false_iff.2 (show (G.any fun g => decide (5 < g.length)) ≠ true from fun h => ?_)]; rfl
      obtain ⟨g, hg, h5⟩ := List.any_eq_true.1 h
      obtain ⟨j, hj, hje⟩ := List.getElem_of_mem hg
      have := hr j g (by omega) (by rw [List.getElem?_eq_getElem hj, hje])
      have := of_decide_eq_true h5
      omega

def H14 : Nat → List (Nat × Nat) := fun id => if id = 5 then [(1,3),(1,5),(1,6)] else []
theorem okf14 : okF Tryd.prog H14 14 23 = true := by kernel_rfl
theorem spec_Own {m : Mem} {s : Value} {G : List (List Int)} (hG : RowsAt m s G) (hl : G.length ≤ 14) (hg : ∀ g ∈ G, g.length ≤ 5) : ∃ v m', ACalls Tryd.prog 14 #[.agg #[s]] m v m' ∧ (∃ w cs, v = .agg #[w] ∧ OwnR m.size m' w cs G ∧ Ext m m') := by
  obtain ⟨q, cap, rfl⟩ := hG.len
  refine wpF (args := [_]) mixed okf14 (fn := Tryd.f14) rfl rfl rfl (by simp) ?_
  refine cSeq ?_
  refine cRegion ?_
  refine sBox (v := .agg _) rfl ?_
  refine sAllocB (bl := m.size + 1) (by simp) Z24 (by kernel_rfl) ?_
  refine sNil (kSeqN ?_)
  refine cSeq ?_
  refine cRegion ?_
  refine sAllocB (bl := m.size + 2) (by simp) Z24 (by kernel_rfl) ?_
  refine sNil (kSeqN ?_)
  refine cSeq ?_
  refine cSeq ?_
  refine cRegion ?_
  refine sFA F24_0 rfl ?_
  refine sLd A22 rfl (by simp (disch := first | omega | (simp only [Array.size_push, Array.size_setIfInBounds]; done) | (simp only [Array.size_push, Array.size_setIfInBounds]; omega)) only [gP, gPn, gS, gSn]; try rfl) rfl ?_
  refine sLen T22 rfl ?_
  refine sMv (v := nv 0) rfl ?_
  refine sNil (kSeqN ?_)
  refine cBlock ?_
  refine wpC_loop (fun k ρ m' => ∃ i v cs, k = G.length - i ∧ i ≤ G.length ∧ Low (m.size + 2) (((m.push (.cells true #[.slice q G.length cap])).push (.cells true #[.slice none 0 0])).push (.cells true #[.slice none 0 0])) m' ∧ m.size + 3 ≤ m'.size ∧ Mem.get m' (m.size + 2) = .cells true #[v] ∧ OwnR (m.size + 3) m' v cs (G.take i) ∧ Has ρ [(1, .pointer (some ⟨m.size, 0, none⟩)), (2, .pointer (some ⟨m.size + 1, 0, none⟩)), (3, .pointer (some ⟨m.size + 2, 0, none⟩)), (7, .slice q G.length cap), (8, nv G.length), (9, nv i)]) ⟨0, .slice none 0 0, #[], rfl, Nat.zero_le _, .refl _ _, by simp, gP (by simp), .nil _ _, rfl, rfl, rfl, rfl, rfl, rfl, trivial⟩ ?_
  rintro k ρ m' ⟨i, v, cs, rfl, hi, hLo, hz, g2, hO, hh⟩
  obtain ⟨qv, cv, rfl⟩ := hO.1.len
  rw [hh.env]; clear hh
  have hE : Ext m m' := Low.to_ext ((Ext.push m _).trans ((Ext.push _ _).trans (Ext.push _ _))) hLo (by omega)
  refine cSeq ?_
  refine cRegion ?_
  refine sBin rfl rfl (aInt_lss) ?_
  refine sNil (kSeqN ?_)
  refine cSeq ?_   -- seq 5
  refine cCond rfl (fun c0 => ?_) (fun c0 => ?_)
  ·
    obtain ⟨b1, o1, p1, r1, cc, e1, g1, x1⟩ := hG.at (by omega)
    cases e1
    obtain ⟨s1, hs1, ha⟩ := x1 i G[i] (by simp)
    obtain ⟨qs, c1s, rfl⟩ := ha.len
    have hgl := hg G[i] (List.getElem_mem c0)
    have htl : (G.take i).length = i := by rw [List.length_take]; omega
    have ha1 := ha.ext hE
    refine cSkip (kSeqN ?_)
    refine cSeq ?_
    refine cBlock ?_
    refine cSeq ?_
    refine cRegion ?_
    refine sIx T22 S25 rfl rfl (by omega) ?_
    refine sLd (v := .slice _ _ _) A25 rfl (hE.cells g1) hs1 ?_
    refine sAs (v := .slice _ _ _) rfl ?_
    refine sNil (kSeqN ?_)
    refine cDrawH (hs := [(1,3),(1,5),(1,6)]) rfl (by decide) ?_
    refine lStepO (sFA F24_0 rfl (sNil fun e0 hm0 => ?_))
    refine lStepLd (v := .slice _ _ _) A22 rfl g2 rfl fun e1 hm1 hv1 hr1 => ?_
    refine lStepO (sBuildS (c := #[]) T25 S3 Z3 (by decide) (by decide) (by decide) (by kernel_rfl) rfl rfl (sNil fun e2 hm2 => ?_))
    refine lStepO (sMv (v := .slice _ _ _) rfl (sNil fun e3 hm3 => ?_))
    refine lStepO (sApp App25 rfl rfl (N := m'.size) (p := []) (.inr ⟨m'.size, 0, #[], rfl, Nat.le_refl _, gP rfl, by simp, by simp, by simp⟩) (ha1.ext (.push _ _)) (by simp) (by simp; omega) fun v17 m17 hO17 hL17 => (sNil fun e4 hm4 => ?_))
    rw [List.nil_append] at hO17
    have g217 := hL17.cells (show m.size + 2 < m'.size by omega) ((gPn (live g2)).trans g2)
    have z17 := hL17.1
    simp only [Array.size_push] at z17
    obtain ⟨q17, c17, rfl⟩ := hO17.ints.len
    have hE17 : Ext m' m17 := Low.to_ext (.push _ _) hL17 (Nat.le_refl _)
    refine lStepO (sBuildS T22 S25 Z25 (by decide) (by decide) (by decide) (by kernel_rfl) fillV rfl (sNil fun e5 hm5 => ?_))
    refine lStepO (sAppC El22 rfl rfl (N := m.size + 3) (n := (G.take i).length) (cs := cs) (d := #[.slice q17 G[i].length c17]) ((hO.ext hE17).ext (.push _ _)).1 (gP rfl) rfl (by kernel_rfl) (by simp; omega) (by omega) fun v' m4 hO4 hL4 hG4 => (sNil fun e6 hm6 => ?_))
    have g24 := hL4.cells (show m.size + 2 < m.size + 3 by omega) ((gPn (live g217)).trans g217)
    have hgr := ((hO.ext hE17).ext (.push _ _)).grew ((hO17.mono (by omega)).ext (.push _ _)) (fun b hb e => by
      have h1 := (hO17.lt hb).1
      have h2 := (hO.1.lt e).2
      omega) hG4 hO4
    obtain ⟨q4, cp4, rfl⟩ := hO4.len
    refine lStepO (sFA F24_0 rfl (sNil fun e7 hm7 => ?_))
    refine lStepO (sSt (v := .slice _ _ _) S22 rfl rfl g24 (by simp) rfl rfl (sNil fun e8 hm8 => ?_))
    refine ⟨?_, (kBlkN (kSeqN ?_))⟩
    ·
      refine obl_atE (e := e1) (e' := e3) (by simp) (by rfl) (by simp) ((hr1 e3.m _ _ (by rw [hm3, gPn (live g2)]; exact g2) (by rfl)).trans (congrArg some hv1.symm)) ?_
      refine obl_atE (e := e1) (e' := e5) (by simp) (by rfl) (by simp) ((hr1 e5.m _ _ (by rw [hm5]; exact g217) (by rfl)).trans (congrArg some hv1.symm)) ?_
      refine obl_atE (e := e1) (e' := e6) (by simp) (by rfl) (by simp) ((hr1 e6.m _ _ (by rw [hm6, gPn (live g217)]; exact g217) (by rfl)).trans (congrArg some hv1.symm)) ?_
      trivial
    refine cRegion ?_
    refine sBin rfl rfl (aInt_add (b := 1) (by omega)) ?_
    refine sMv (v := nv _) rfl ?_
    refine sNil (kSeqN ?_)
    refine ⟨_, ?_, i + 1, .slice q4 ((G.take i).length + 1) cp4, cs ++ #[.slice q17 G[i].length c17], rfl, by omega, hLo.trans ((Low.push _ (by omega) _).trans ((hL17.le (by omega)).trans ((Low.push _ (by omega) _).trans ((hL4.le (Nat.le_succ _)).trans (.set (Nat.le_refl _) _))))), ?_, by rw [gS rfl (live g24)]; rfl, ?_, rfl, rfl, rfl, rfl, rfl, rfl, trivial⟩
    · omega
    · have := hL4.1; simp only [Array.size_push] at this; simp only [Array.size_setIfInBounds]; omega
    · have := hgr.only (.set (m.size + 2) m4 (.cells true #[.slice q4 ((G.take i).length + 1) cp4])) (by omega)
      rw [List.take_add_one, List.getElem?_eq_getElem c0]
      exact this
  ·
    obtain rfl : i = G.length := by omega
    refine cExit (kSeqE (kSeqE (kBlkS (kSeqN ?_))))
    refine cSeq ?_
    refine cRegion ?_
    refine sLdAll A24 S24 rfl g2 rfl ?_
    refine sStAll S24 rfl rfl (hLo.cells (show m.size + 1 < m.size + 2 by omega) (by rw [gPn (by simp), gP (by simp)])) rfl rfl (by kernel_rfl) ?_
    refine sNil (kSeqN ?_)
    refine cRet ?_
    have g0 := hLo.cells (show m.size + 1 < m.size + 2 by omega) (r := true) (c := #[.slice none 0 0]) (by rw [gPn (by simp), gP (by simp)])
    rw [List.take_length] at hO ⊢
    exact ⟨.inr rfl, _, resRs_agg A24 S24 rfl (gS rfl (live g0)) rfl, _, cs, rfl, (hO.only (.set (m.size + 1) _ _) (by omega)).mono (by omega), hE.set (b := m.size + 1) (by omega) _⟩

theorem okf41 : okF Tryd.prog H0 41 57 = true := by kernel_rfl
theorem spec_refCheck {m : Mem} {s : Value} {G : List (List Int)} (hG : RowsAt m s G) : ∃ v m', ACalls Tryd.prog 41 #[.agg #[s]] m v m' ∧ (v = nv (checkG G) ∧ Ext m m') := by
  obtain ⟨q, cap, rfl⟩ := hG.len
  have he : Ext m (m.push (.cells true #[.slice q G.length cap])) := .push _ _
  refine wpF (args := [_]) mixed okf41 (fn := Tryd.f41) rfl rfl rfl (by simp) ?_
  refine cSeq ?_
  refine cRegion ?_
  refine sBox (v := .agg _) rfl ?_
  refine sAs (v := nv 0) rfl ?_
  refine sNil (kSeqN ?_)
  refine cSeq ?_   -- seq 1
  refine cSeq ?_
  refine cRegion ?_
  refine sFA F24_0 rfl ?_
  refine sLd A22 rfl (by simp (disch := first | omega | (simp only [Array.size_push, Array.size_setIfInBounds]; done) | (simp only [Array.size_push, Array.size_setIfInBounds]; omega)) only [gP, gPn, gS, gSn]; try rfl) rfl ?_
  refine sLen T22 rfl ?_
  refine sBin (b := 1) rfl rfl aInt_lss ?_
  refine sMv (v := .bool _) rfl ?_
  by_cases h1 : G.length < 1
  ·
    rw [decide_eq_true h1]
    refine sGno (q' := true) rfl rfl (by simp) ?_
    refine sGno (q' := true) rfl rfl (by simp) ?_
    refine sGno (q' := true) rfl rfl (by simp) ?_
    refine sGno (q' := true) rfl rfl (by simp) ?_
    refine sP (v := .bool _) rfl ?_
    refine sNil (kSeqN ?_)
    refine cCondT rfl ?_
    refine cSeq ?_
    refine cRegion ?_
    refine sAs (v := nv 2) rfl ?_
    refine sNil (kSeqN ?_)
    refine cRet (kSeqR ?_)
    exact ⟨.inr rfl, _, rfl, by rw [checkG, if_pos (.inl h1)]; rfl, he⟩
  ·
    rw [decide_eq_false h1]
    refine sG rfl rfl ?_
    refine sFA F24_0 rfl ?_
    refine sG rfl rfl ?_
    refine sLd A22 rfl (by simp (disch := first | omega | (simp only [Array.size_push, Array.size_setIfInBounds]; done) | (simp only [Array.size_push, Array.size_setIfInBounds]; omega)) only [gP, gPn, gS, gSn]; try rfl) rfl ?_
    refine sG rfl rfl ?_
    refine sLen T22 rfl ?_
    refine sG rfl rfl ?_
    refine sBin (b := 10) rfl rfl aInt_gtr ?_
    refine sP (v := .bool _) rfl ?_
    refine sNil (kSeqN ?_)
    refine cCond (p := 10 < G.length) rfl (fun c1 => ?_) (fun c1 => ?_)
    ·
      refine cSeq ?_
      refine cRegion ?_
      refine sAs (v := nv 2) rfl ?_
      refine sNil (kSeqN ?_)
      refine cRet (kSeqR ?_)
      exact ⟨.inr rfl, _, rfl, by rw [checkG, if_pos (.inr c1)]; rfl, he⟩
    ·
      have hck : checkG G = rowsE 0 G := by rw [checkG, if_neg (by omega)]
      rw [hck]
      refine cSkip (kSeqN ?_)
      refine cSeq ?_
      refine cSeq ?_
      refine cRegion ?_
      refine sFA F24_0 rfl ?_
      refine sLd A22 rfl (by simp (disch := first | omega | (simp only [Array.size_push, Array.size_setIfInBounds]; done) | (simp only [Array.size_push, Array.size_setIfInBounds]; omega)) only [gP, gPn, gS, gSn]; try rfl) rfl ?_
      refine sLen T22 rfl ?_
      refine sMv (v := nv 0) rfl ?_
      refine sNil (kSeqN ?_)
      refine cBlock ?_
      refine wpC_loop (fun k ρ m' => ∃ i, k = G.length - i ∧ i ≤ G.length ∧ rowsE 0 G = rowsE i (G.drop i) ∧ m.push (.cells true #[.slice q G.length cap]) = m' ∧ Has ρ [(1, .pointer (some ⟨m.size, 0, none⟩)), (18, .slice q G.length cap), (19, nv G.length), (20, nv i)]) ⟨0, rfl, by omega, rfl, rfl, rfl, rfl, rfl, rfl, trivial⟩ ?_
      rintro k ρ _ ⟨i, rfl, hi, hr, rfl, hh⟩
      rw [hh.env]; clear hh
      refine cSeq ?_
      refine cRegion ?_
      refine sBin rfl rfl (aInt_lss) ?_
      refine sNil (kSeqN ?_)
      refine cSeq ?_   -- seq 8
      refine cCond rfl (fun c2 => ?_) (fun c2 => ?_)
      ·
        obtain ⟨b1, o1, p1, r1, cc, e1, g1, x1⟩ := hG.at (by omega)
        cases e1
        obtain ⟨s1, hs1, ha⟩ := x1 i G[i] (by simp)
        obtain ⟨qs, cs, rfl⟩ := ha.len
        generalize hg : G[i] = g at *
        have hr2 : rowsE i (G.drop i) = if 2 < g.length then 2 else if rowE i (-1) g ≠ 0 then 15 else rowsE (i + 1) (G.drop (i + 1)) := by rw [drop_cons c2, hg, rowsE]
        refine cSkip (kSeqN ?_)
        refine cSeq ?_
        refine cBlock ?_
        refine cSeq ?_
        refine cRegion ?_
        refine sMv (v := nv _) rfl ?_
        refine sIx T22 S25 rfl rfl (by omega) ?_
        refine sLd (v := .slice _ _ _) A25 rfl (he.cells g1) hs1 ?_
        refine sAs (v := nv _) rfl ?_
        refine sAs (v := .slice _ _ _) rfl ?_
        refine sNil (kSeqN ?_)
        refine cSeq ?_   -- seq 11
        refine cSeq ?_
        refine cRegion ?_
        refine sMv (v := .slice _ _ _) rfl ?_
        refine sLen T25 rfl ?_
        refine sBin (b := 2) rfl rfl aInt_gtr ?_
        refine sNil (kSeqN ?_)
        refine cCond rfl (fun c3 => ?_) (fun c3 => ?_)
        ·
          refine cSeq ?_
          refine cRegion ?_
          refine sAs (v := nv 2) rfl ?_
          refine sNil (kSeqN ?_)
          refine cRet (kSeqR (kBlkR (kSeqR (kSeqR (kBlkR (kSeqR ?_))))))
          exact ⟨.inr rfl, _, rfl, by rw [hr, hr2, if_pos c3]; rfl, he⟩
        ·
          rw [if_neg c3] at hr2
          refine cSkip (kSeqN ?_)
          refine cSeq ?_
          refine cRegion ?_
          refine sMv (v := .slice _ _ _) rfl ?_
          refine sLen T25 rfl ?_
          refine sMv (v := nv 0) rfl ?_
          refine sNil (kSeqN ?_)
          refine cBlock ?_
          refine wpC_loop (fun k ρ m' => ∃ j last, k = g.length - j ∧ j ≤ g.length ∧ rowE i (-1) g = rowE i last (g.drop j) ∧ -1 ≤ last ∧ (j = 0 → last = -1) ∧ (∀ h, h + 1 = j → g[h]? = some last) ∧ m.push (.cells true #[.slice (some ⟨b1, o1, some 1⟩) G.length cap]) = m' ∧ Has ρ [(1, .pointer (some ⟨m.size, 0, none⟩)), (18, .slice (some ⟨b1, o1, some 1⟩) G.length cap), (19, nv G.length), (20, nv i), (3, nv i), (4, .slice qs g.length cs), (28, .slice qs g.length cs), (29, nv g.length), (30, nv j)]) ⟨0, -1, rfl, by omega, rfl, by omega, fun _ => rfl, fun h hh => by omega, rfl, rfl, rfl, rfl, rfl, rfl, rfl, rfl, rfl, rfl, trivial⟩ ?_
          rintro k ρ _ ⟨j, last, rfl, hj, hr3, hl1, hl0, hlk, rfl, hh⟩
          rw [hh.env]; clear hh
          refine cSeq ?_
          refine cRegion ?_
          refine sBin rfl rfl (aInt_lss) ?_
          refine sNil (kSeqN ?_)
          refine cSeq ?_   -- seq 16
          refine cCond rfl (fun c4 => ?_) (fun c4 => ?_)
          ·
            obtain ⟨b2, o2, p2, r2, cd, e2, g2, x2⟩ := ha.at (by omega)
            cases e2
            have hr4 : rowE i last (g.drop j) = if g[j] ≤ last ∨ Int.ofNat i ≤ g[j] then 15 else rowE i g[j] (g.drop (j + 1)) := by rw [drop_cons c4, rowE]
            refine cSkip (kSeqN ?_)
            refine cSeq ?_
            refine cBlock ?_
            refine cSeq ?_
            refine cRegion ?_
            refine sMv (v := nv _) rfl ?_
            refine sIx T25 S3 rfl rfl (by omega) ?_
            refine sLd (v := .int _ _) A3 rfl (he.cells g2) (x2 j g[j] (by simp)) ?_
            refine sAs (v := nv _) rfl ?_
            refine sAs (v := .int _ _) rfl ?_
            refine sNil (kSeqN ?_)
            refine cSeq ?_
            refine cRegion ?_
            refine sMv (v := .int _ _) rfl ?_
            refine sBinI (v := .bool (decide (g[j] < 0))) rfl rfl rfl ?_
            refine sMv (v := .bool _) rfl ?_
            by_cases h5 : g[j] < 0
            ·
              rw [decide_eq_true h5]
              refine sGno (q' := true) rfl rfl (by simp) ?_
              refine sGno (q' := true) rfl rfl (by simp) ?_
              refine sGno (q' := true) rfl rfl (by simp) ?_
              refine sP (v := .bool _) rfl ?_
              refine sMv (v := .bool _) rfl ?_
              refine sGno (q' := true) rfl rfl (by simp) ?_
              refine sGno (q' := true) rfl rfl (by simp) ?_
              refine sGno (q' := true) rfl rfl (by simp) ?_
              refine sGnoU rfl rfl ?_
              refine sGnoU rfl rfl ?_
              refine sGnoU rfl rfl ?_
              refine sGnoU rfl rfl ?_
              refine sGnoU rfl rfl ?_
              refine sGnoU rfl rfl ?_
              refine sGnoU rfl rfl ?_
              refine sGno (q' := true) rfl rfl (by simp) ?_
              refine sP (v := .bool _) rfl ?_
              refine sNil (kSeqN ?_)
              refine cCondT rfl ?_
              refine cSeq ?_
              refine cRegion ?_
              refine sAs (v := nv 15) rfl ?_
              refine sNil (kSeqN ?_)
              refine cRet (kBlkR (kSeqR (kSeqR (kBlkR (kBlkR (kSeqR (kSeqR (kBlkR (kSeqR ?_)))))))))
              exact ⟨.inr rfl, _, rfl, by rw [hr, hr2, if_pos (by rw [hr3, hr4, if_pos (.inl (by omega))]; decide)]; rfl, he⟩
            ·
              rw [decide_eq_false h5]
              refine sG rfl rfl ?_
              refine sMv (v := .int _ _) rfl ?_
              refine sG rfl rfl ?_
              refine sMv (v := nv _) rfl ?_
              refine sG rfl rfl ?_
              refine sBinI (b := Int.ofNat i) rfl rfl aInt_geqI ?_
              refine sP (v := .bool _) rfl ?_
              refine sMv (v := .bool _) rfl ?_
              by_cases h6 : Int.ofNat i ≤ g[j]
              ·
                rw [decide_eq_true h6]
                refine sGno (q' := true) rfl rfl (by simp) ?_
                refine sGno (q' := true) rfl rfl (by simp) ?_
                refine sGno (q' := true) rfl rfl (by simp) ?_
                refine sGnoU rfl rfl ?_
                refine sGnoU rfl rfl ?_
                refine sGnoU rfl rfl ?_
                refine sGnoU rfl rfl ?_
                refine sGnoU rfl rfl ?_
                refine sGnoU rfl rfl ?_
                refine sGnoU rfl rfl ?_
                refine sGno (q' := true) rfl rfl (by simp) ?_
                refine sP (v := .bool _) rfl ?_
                refine sNil (kSeqN ?_)
                refine cCondT rfl ?_
                refine cSeq ?_
                refine cRegion ?_
                refine sAs (v := nv 15) rfl ?_
                refine sNil (kSeqN ?_)
                refine cRet (kBlkR (kSeqR (kSeqR (kBlkR (kBlkR (kSeqR (kSeqR (kBlkR (kSeqR ?_)))))))))
                exact ⟨.inr rfl, _, rfl, by rw [hr, hr2, if_pos (by rw [hr3, hr4, if_pos (.inr h6)]; decide)]; rfl, he⟩
              ·
                rw [decide_eq_false h6]
                refine sG rfl rfl ?_
                refine sMv (v := nv _) rfl ?_
                refine sG rfl rfl ?_
                refine sBin (b := 0) rfl rfl aInt_gtr ?_
                refine sG rfl rfl ?_
                refine sMv (v := .bool _) rfl ?_
                by_cases h7 : 0 < j
                ·
                  rw [decide_eq_true h7]
                  obtain ⟨h, rfl⟩ : ∃ h, j = h + 1 := ⟨j - 1, by omega⟩
                  have hlh := hlk h rfl
                  refine sG rfl rfl ?_
                  refine sMv (v := .int _ _) rfl ?_
                  refine sG rfl rfl ?_
                  refine sMv (v := .slice _ _ _) rfl ?_
                  refine sG rfl rfl ?_
                  refine sMv (v := nv _) rfl ?_
                  refine sG rfl rfl ?_
                  refine sBin (v := nv h) rfl rfl (aInt_sub (b := 1) (by omega)) ?_
                  refine sG rfl rfl ?_
                  refine sIx T25 S3 rfl rfl (by omega) ?_
                  refine sG rfl rfl ?_
                  refine sLd (v := .int _ _) A3 rfl (he.cells g2) (x2 h last hlh) ?_
                  refine sG rfl rfl ?_
                  refine sBinI rfl rfl aInt_leqI ?_
                  refine sG rfl rfl ?_
                  refine sP (v := .bool _) rfl ?_
                  refine sP (v := .bool _) rfl ?_
                  refine sNil (kSeqN ?_)
                  refine cCond (p := g[h + 1] ≤ last) rfl (fun c7 => ?_) (fun c7 => ?_)
                  ·
                    refine cSeq ?_
                    refine cRegion ?_
                    refine sAs (v := nv 15) rfl ?_
                    refine sNil (kSeqN ?_)
                    refine cRet (kBlkR (kSeqR (kSeqR (kBlkR (kBlkR (kSeqR (kSeqR (kBlkR (kSeqR ?_)))))))))
                    exact ⟨.inr rfl, _, rfl, by rw [hr, hr2, if_pos (by rw [hr3, hr4, if_pos (.inl c7)]; decide)]; rfl, he⟩
                  ·
                    refine cSkip (kBlkN (kSeqN ?_))
                    refine cRegion ?_
                    refine sBin rfl rfl (aInt_add (b := 1) (by omega)) ?_
                    refine sMv (v := nv _) rfl ?_
                    refine sNil (kSeqN ?_)
                    refine ⟨_, ?_, h + 2, g[h + 1], rfl, by omega, by rw [hr3, hr4, if_neg (by omega)], by omega, by omega, fun u hu => (by obtain rfl : u = h + 1 := (by omega); simp), rfl, rfl, rfl, rfl, rfl, rfl, rfl, rfl, rfl, rfl, trivial⟩
                    omega
                ·
                  rw [decide_eq_false h7]
                  refine sGno (q' := false) rfl rfl (by simp) ?_
                  refine sGno (q' := false) rfl rfl (by simp) ?_
                  refine sGno (q' := false) rfl rfl (by simp) ?_
                  refine sGno (q' := false) rfl rfl (by simp) ?_
                  refine sGno (q' := false) rfl rfl (by simp) ?_
                  refine sGno (q' := false) rfl rfl (by simp) ?_
                  refine sGno (q' := false) rfl rfl (by simp) ?_
                  refine sG rfl rfl ?_
                  refine sP (v := .bool _) rfl ?_
                  refine sP (v := .bool _) rfl ?_
                  refine sNil (kSeqN ?_)
                  refine cCondF rfl ?_
                  refine cSkip (kBlkN (kSeqN ?_))
                  refine cRegion ?_
                  refine sBin rfl rfl (aInt_add (b := 1) (by omega)) ?_
                  refine sMv (v := nv _) rfl ?_
                  refine sNil (kSeqN ?_)
                  obtain rfl : j = 0 := by omega
                  have := hl0 rfl
                  refine ⟨_, ?_, 1, g[0], rfl, by omega, by rw [hr3, hr4, if_neg (by omega)], by omega, by omega, fun u hu => (by obtain rfl : u = 0 := (by omega); simp), rfl, rfl, rfl, rfl, rfl, rfl, rfl, rfl, rfl, rfl, trivial⟩
                  omega
          ·
            have hz : rowE i (-1) g = 0 := by rw [hr3, List.drop_of_length_le (by omega), rowE]
            refine cExit (kSeqE (kSeqE (kBlkS (kBlkN (kSeqN ?_)))))
            refine cRegion ?_
            refine sBin rfl rfl (aInt_add (b := 1) (by omega)) ?_
            refine sMv (v := nv _) rfl ?_
            refine sNil (kSeqN ?_)
            refine ⟨_, ?_, i + 1, rfl, by omega, by rw [hr, hr2, if_neg (by rw [hz]; decide)], rfl, rfl, rfl, rfl, rfl, trivial⟩
            omega
      ·
        refine cExit (kSeqE (kSeqE (kBlkS (kSeqN ?_))))
        refine cSeq ?_
        refine cRegion ?_
        refine sAs (v := nv 0) rfl ?_
        refine sNil (kSeqN ?_)
        refine cRet ?_
        exact ⟨.inr rfl, _, rfl, by rw [hr, List.drop_of_length_le (by omega)]; rfl, he⟩

theorem okf64 : okF Tryd.prog H0 64 25 = true := by kernel_rfl
theorem spec_May {m : Mem} {s : Value} {N : List (List Nat)} {x n : Nat} (hG : RowsAt m s (ofs2 N)) (hN : Dag N) (hx : x < 9223372036854775808) (hn : n < N.length) : ∃ v m', ACalls Tryd.prog 64 #[.agg #[s], nv x, nv n] m v m' ∧ (v = .bool (mayM (needsM N) x n) ∧ Ext m m') := by
  obtain ⟨q, cap, rfl⟩ := hG.len
  have he : Ext m (m.push (.cells true #[.slice q (ofs2 N).length cap])) := .push _ _
  obtain ⟨b1, o1, p1, r1, cc, e1, g1, x1⟩ := hG.at (by rw [ofs2_length]; omega)
  cases e1
  have hni : (ofs2 N)[n]? = some (ofs (N.getD n [])) := by simp [ofs2, List.getD_eq_getElem?_getD, List.getElem?_eq_getElem hn]
  obtain ⟨s1, hs1, ha⟩ := x1 n _ hni
  obtain ⟨qs, cs, rfl⟩ := ha.lenN
  have hlt : ∀ k ∈ N.getD n [], k < n := hN.less n _ (by rw [List.getD_eq_getElem?_getD, List.getElem?_eq_getElem hn]; rfl)
  have hiff := mayM_iff hn x
  have h2 : (N.getD n []).length ≤ 2 := hN.two _ (by rw [List.getD_eq_getElem?_getD, List.getElem?_eq_getElem hn]; simp)
  generalize hg : N.getD n [] = g at *
  refine wpF (args := [_, _, _]) mixed okf64 (fn := Tryd.f64) rfl rfl rfl (by simp) ?_
  refine cSeq ?_
  refine cRegion ?_
  refine sBox (v := .agg _) rfl ?_
  refine sAs (v := .bool _) rfl ?_
  refine sNil (kSeqN ?_)
  refine cSeq ?_
  refine cSeq ?_
  refine cRegion ?_
  refine sFA F24_0 rfl ?_
  refine sLd A22 rfl (by simp (disch := first | omega | (simp only [Array.size_push, Array.size_setIfInBounds]; done) | (simp only [Array.size_push, Array.size_setIfInBounds]; omega)) only [gP, gPn, gS, gSn]; try rfl) rfl ?_
  refine sMv (v := nv _) rfl ?_
  refine sIx T22 S25 rfl rfl (by rw [ofs2_length]; omega) ?_
  refine sLd (v := .slice _ _ _) A25 rfl (he.cells g1) hs1 ?_
  refine sLen T25 rfl ?_
  refine sMv (v := nv 0) rfl ?_
  refine sNil (kSeqN ?_)
  refine cBlock ?_
  refine wpC_loop (fun k ρ m' => ∃ i, k = g.length - i ∧ i ≤ g.length ∧ (∀ j u, j < i → g[j]? = some u → x.testBit u = true) ∧ m.push (.cells true #[.slice (some ⟨b1, o1, some 1⟩) (ofs2 N).length cap]) = m' ∧ Has ρ [(1, nv x), (13, .slice qs g.length cs), (14, nv g.length), (15, nv i)]) ⟨0, rfl, by omega, by omega, rfl, rfl, rfl, rfl, rfl, trivial⟩ ?_
  rintro k ρ _ ⟨i, rfl, hi, hr, rfl, hh⟩
  rw [hh.env]; clear hh
  refine cSeq ?_
  refine cRegion ?_
  refine sBin rfl rfl (aInt_lss) ?_
  refine sNil (kSeqN ?_)
  refine cSeq ?_   -- seq 4
  refine cCond rfl (fun c0 => ?_) (fun c0 => ?_)
  ·
    obtain ⟨b2, o2, p2, r2, cd, e2, g2, x2⟩ := ha.atN (by omega)
    cases e2
    have hsh := Nat.shiftRight_le x g[i]
    refine cSkip (kSeqN ?_)
    refine cSeq ?_
    refine cBlock ?_
    refine cSeq ?_
    refine cRegion ?_
    refine sIx T25 S3 rfl rfl (by omega) ?_
    refine sLd (v := nv g[i]) A3 rfl (he.cells g2) (x2 i g[i] (by simp)) ?_
    refine sAs (v := nv _) rfl ?_
    refine sNil (kSeqN ?_)
    refine cSeq ?_
    refine cRegion ?_
    refine sMv (v := nv _) rfl ?_
    refine sMv (v := nv _) rfl ?_
    refine sBin (a := x) (b := g[i]) rfl rfl (aInt_shr (by omega)) ?_
    refine sBin (b := 1) rfl rfl (aInt_and (by omega)) ?_
    refine sBin (b := 0) rfl rfl aInt_eql ?_
    refine sNil (kSeqN ?_)
    refine cCond rfl (fun c1 => ?_) (fun c1 => ?_)
    ·
      have hf : ¬ mayM (needsM N) x n = true := fun h => by
        have := (bit_one x g[i]).2 (hiff.1 h g[i] (List.getElem_mem c0))
        omega
      refine cSeq ?_
      refine cRegion ?_
      refine sAs (v := .bool _) rfl ?_
      refine sNil (kSeqN ?_)
      refine cRet (kBlkR (kSeqR (kSeqR (kBlkR (kSeqR ?_)))))
      exact ⟨.inr rfl, _, rfl, by rw [Bool.eq_false_iff.2 hf]; rfl, he⟩
    ·
      refine cSkip (kBlkN (kSeqN ?_))
      refine cRegion ?_
      refine sBin rfl rfl (aInt_add (b := 1) (by omega)) ?_
      refine sMv (v := nv _) rfl ?_
      refine sNil (kSeqN ?_)
      refine ⟨_, ?_, i + 1, rfl, by omega, fun j u hj hu => ?_, rfl, rfl, rfl, rfl, rfl, trivial⟩
      · omega
      · by_cases e : j = i
        · subst e
          rw [List.getElem?_eq_getElem c0] at hu
          obtain rfl := Option.some.inj hu
          exact (bit_one _ _).1 (by
            have h3 : x >>> g[j] &&& 1 = (x >>> g[j]) % 2 := Nat.and_one_is_mod _
            have h4 := Nat.mod_lt (x >>> g[j]) (show 0 < 2 by omega)
            omega)
        · exact hr j u (by omega) hu
  ·
    refine cExit (kSeqE (kSeqE (kBlkS (kSeqN ?_))))
    refine cSeq ?_
    refine cRegion ?_
    refine sAs (v := .bool _) rfl ?_
    refine sNil (kSeqN ?_)
    refine cRet ?_
    have ht : mayM (needsM N) x n = true := hiff.2 fun u hu => by
      obtain ⟨j, hj, e⟩ := List.getElem_of_mem hu
      exact hr j u (by omega) (by rw [List.getElem?_eq_getElem hj, e])
    exact ⟨.inr rfl, _, rfl, by rw [ht]; rfl, he⟩

theorem okf71 : okF Tryd.prog H0 71 17 = true := by kernel_rfl
theorem spec_has {m : Mem} {a : Value} {l : List Nat} {x : Nat} (ha : IntsAt m a (ofs l)) (hl : l.length < 1000000) : ACalls Tryd.prog 71 #[a, nv x] m (.bool (decide (x ∈ l))) m := by
  suffices h : ∃ v m', ACalls Tryd.prog 71 #[a, nv x] m v m' ∧ (v = .bool (decide (x ∈ l)) ∧ m' = m) by
    obtain ⟨v, m', h, rfl, rfl⟩ := h; exact h
  obtain ⟨q, cap, rfl⟩ := ha.lenN
  refine wpF (args := [_, _]) mixed okf71 (fn := Tryd.f71) rfl rfl rfl (by simp) ?_
  refine cSeq ?_
  refine cRegion ?_
  refine sAs (v := .bool _) rfl ?_
  refine sNil (kSeqN ?_)
  refine cSeq ?_
  refine cSeq ?_
  refine cRegion ?_
  refine sMv (v := .slice _ _ _) rfl ?_
  refine sLen T25 rfl ?_
  refine sMv (v := nv 0) rfl ?_
  refine sNil (kSeqN ?_)
  refine cBlock ?_
  refine wpC_loop (fun k ρ m' => ∃ i, k = l.length - i ∧ i ≤ l.length ∧ (∀ j, j < i → l[j]? ≠ some x) ∧ m = m' ∧ Has ρ [(1, nv x), (7, .slice q l.length cap), (8, nv l.length), (9, nv i)]) ⟨0, rfl, by omega, by omega, rfl, rfl, rfl, rfl, rfl, trivial⟩ ?_
  rintro k ρ _ ⟨i, rfl, hi, hr, rfl, hh⟩
  rw [hh.env]; clear hh
  refine cSeq ?_
  refine cRegion ?_
  refine sBin rfl rfl (aInt_lss) ?_
  refine sNil (kSeqN ?_)
  refine cSeq ?_   -- seq 4
  refine cCond rfl (fun c0 => ?_) (fun c0 => ?_)
  ·
    obtain ⟨b1, o1, p1, r1, cc, e1, g1, x1⟩ := ha.atN (by omega)
    cases e1
    refine cSkip (kSeqN ?_)
    refine cSeq ?_
    refine cBlock ?_
    refine cSeq ?_
    refine cRegion ?_
    refine sIx T25 S3 rfl rfl (by omega) ?_
    refine sLd (v := nv l[i]) A3 rfl g1 (x1 i l[i] (by simp)) ?_
    refine sAs (v := nv _) rfl ?_
    refine sNil (kSeqN ?_)
    refine cSeq ?_
    refine cRegion ?_
    refine sMv (v := nv _) rfl ?_
    refine sMv (v := nv _) rfl ?_
    refine sBin (a := l[i]) (b := x) rfl rfl aInt_eql ?_
    refine sNil (kSeqN ?_)
    refine cCond rfl (fun c1 => ?_) (fun c1 => ?_)
    ·
      refine cSeq ?_
      refine cRegion ?_
      refine sAs (v := .bool _) rfl ?_
      refine sNil (kSeqN ?_)
      refine cRet (kBlkR (kSeqR (kSeqR (kBlkR (kSeqR ?_)))))
      have hm : x ∈ l := by have := List.getElem_mem c0; rwa [c1] at this
      exact ⟨.inr rfl, _, rfl, by rw [decide_eq_true hm]; rfl, rfl⟩
    ·
      refine cSkip (kBlkN (kSeqN ?_))
      refine cRegion ?_
      refine sBin rfl rfl (aInt_add (b := 1) (by omega)) ?_
      refine sMv (v := nv _) rfl ?_
      refine sNil (kSeqN ?_)
      refine ⟨_, ?_, i + 1, rfl, by omega, fun j hj e => ?_, rfl, rfl, rfl, rfl, rfl, trivial⟩
      · omega
      · by_cases h : j = i
        · subst h
          rw [List.getElem?_eq_getElem c0] at e
          exact c1 (Option.some.inj e)
        · exact hr j (by omega) e
  ·
    refine cExit (kSeqE (kSeqE (kBlkS (kSeqN ?_))))
    refine cSeq ?_
    refine cRegion ?_
    refine sAs (v := .bool _) rfl ?_
    refine sNil (kSeqN ?_)
    refine cRet ?_
    have hm : ¬ x ∈ l := fun h => by
      obtain ⟨j, hj, e⟩ := List.getElem_of_mem h
      exact hr j (by omega) (by rw [List.getElem?_eq_getElem hj, e])
    exact ⟨.inr rfl, _, rfl, by rw [decide_eq_false hm]; rfl, rfl⟩

theorem okf72 : okF Tryd.prog H0 72 13 = true := by kernel_rfl
theorem spec_Pebbles {m : Mem} {x : Nat} (hx : x < 2 ^ 62) : ACalls Tryd.prog 72 #[nv x] m (nv (popc x)) m := by
  suffices h : ∃ v m', ACalls Tryd.prog 72 #[nv x] m v m' ∧ (v = nv (popc x) ∧ m' = m) by
    obtain ⟨v, m', h, rfl, rfl⟩ := h; exact h
  have hp := popc_le_of_lt hx
  refine wpF (args := [_]) mixed okf72 (fn := Tryd.f72) rfl rfl rfl (by simp) ?_
  refine cSeq ?_
  refine cRegion ?_
  refine sAs (v := nv 0) rfl ?_
  refine sNil (kSeqN ?_)
  refine cSeq ?_
  refine cRegion ?_
  refine sAs (v := nv 0) rfl ?_
  refine sNil (kSeqN ?_)
  refine cSeq ?_
  refine cBlock ?_
  refine wpC_loop (fun k ρ m' => ∃ y c, k = y ∧ y < 2 ^ 62 ∧ c + popc y = popc x ∧ m = m' ∧ Has ρ [(0, nv y), (3, nv c)]) ⟨x, 0, rfl, hx, by omega, rfl, rfl, rfl, trivial⟩ ?_
  rintro k ρ _ ⟨y, c, rfl, hy, hc, rfl, hh⟩
  rw [hh.env]; clear hh
  refine cSeq ?_   -- seq 3
  refine cSeq ?_
  refine cRegion ?_
  refine sMv (v := nv _) rfl ?_
  refine sBin (b := 0) rfl rfl aInt_gtr ?_
  refine sNil (kSeqN ?_)
  refine cCond rfl (fun c0 => ?_) (fun c0 => ?_)
  ·
    have hh := popc_half k
    refine cSkip (kSeqN ?_)
    refine cSeq ?_
    refine cBlock ?_
    refine cRegion ?_
    refine sMv (v := nv _) rfl ?_
    refine sMv (v := nv _) rfl ?_
    refine sBin (b := 1) rfl rfl (aInt_and (by omega)) ?_
    have h3 : k &&& 1 = k % 2 := Nat.and_one_is_mod _
    refine sBin rfl rfl (aInt_add (by omega)) ?_
    refine sAs (v := nv _) rfl ?_
    refine sNil (kBlkN (kSeqN ?_))
    refine cRegion ?_
    refine sMv (v := nv _) rfl ?_
    refine sShr (a := k) (b := 1) rfl rfl (by omega) ?_
    have h4 : k >>> 1 = k / 2 := by rw [Nat.shiftRight_eq_div_pow]
    refine sAs (v := nv _) rfl ?_
    refine sNil (kSeqN ?_)
    refine ⟨k / 2, by omega, k / 2, c + (k &&& 1), rfl, by omega, by omega, rfl, by rw [← h4]; rfl, rfl, trivial⟩
  ·
    refine cExit (kSeqE (kSeqE (kBlkS (kSeqN ?_))))
    refine cSeq ?_
    refine cRegion ?_
    refine sMv (v := nv _) rfl ?_
    refine sAs (v := nv _) rfl ?_
    refine sNil (kSeqN ?_)
    refine cRet ?_
    obtain rfl : k = 0 := by omega
    have h0 : popc 0 = 0 := rfl
    refine ⟨.inr rfl, _, rfl, ?_, rfl⟩
    rw [← hc, h0]; rfl

theorem okf60 : okF Tryd.prog H0 60 56 = true := by kernel_rfl
theorem spec_goaled {m : Mem} {s a : Value} {G : List (List Int)} {gs : List Int} (hG : RowsAt m s G) (ha : IntsAt m a gs) (hl : gs.length < 1000000) : ∃ v m', ACalls Tryd.prog 60 #[.agg #[s], a] m v m' ∧ (v = .tuple #[nv (ifOk (withE G gs) (posM (nats gs)) 0), nv (withE G gs)] ∧ Ext m m') := by
  obtain ⟨q, cap, rfl⟩ := hG.len
  obtain ⟨qg, cg, rfl⟩ := ha.len
  have he : Ext m (m.push (.cells true #[.slice q G.length cap])) := .push _ _
  refine wpF (args := [_, _]) mixed okf60 (fn := Tryd.f60) rfl rfl rfl (by simp) ?_
  refine cSeq ?_
  refine cRegion ?_
  refine sBox (v := .agg _) rfl ?_
  refine sAs (v := nv 0) rfl ?_
  refine sAs (v := nv 0) rfl ?_
  refine sNil (kSeqN ?_)
  refine cSeq ?_
  refine cSeq ?_
  refine cRegion ?_
  refine sLdAll A24 S24 rfl (gP rfl) rfl ?_
  obtain ⟨v12, m12, h12, rfl, k12⟩ := spec_refCheck (hG.ext he)
  have e12 : Ext m m12 := he.trans k12
  have g12 : Mem.get m12 m.size = .cells true #[.slice q G.length cap] := k12.cells (gP rfl)
  refine sCall1 rfl call41 rfl h12 ?_
  refine sAs (v := nv _) rfl ?_
  refine sNil (kSeqN ?_)
  refine cSeq ?_
  refine cRegion ?_
  refine sMv (v := nv _) rfl ?_
  refine sBin (b := 0) rfl rfl aInt_neq ?_
  refine sNil (kSeqN ?_)
  refine cCond rfl (fun c0 => ?_) (fun c0 => ?_)
  ·
    refine cSeq ?_
    refine cRegion ?_
    refine sMv (v := nv _) rfl ?_
    refine sAs (v := nv 0) rfl ?_
    refine sAs (v := nv _) rfl ?_
    refine sNil (kSeqN ?_)
    refine cRet (kSeqR ?_)
    exact ⟨.inr rfl, _, rfl, by rw [withE, if_neg c0, ifOk_n c0]; rfl, e12⟩
  ·
    have h0 := Decidable.not_not.1 c0
    have hw : withE G gs = goalsE G.length gs := by rw [withE, if_pos h0]
    rw [hw]
    have h10 : G.length ≤ 10 := by
      unfold checkG at h0
      split at h0
      · cases h0
      · omega
    refine cSkip (kSeqN ?_)
    refine cSeq ?_   -- seq 5
    refine cSeq ?_
    refine cRegion ?_
    refine sMv (v := .slice _ _ _) rfl ?_
    refine sLen T25 rfl ?_
    refine sBin (b := 0) rfl rfl aInt_eql ?_
    refine sNil (kSeqN ?_)
    refine cCond rfl (fun c1 => ?_) (fun c1 => ?_)
    ·
      refine cSeq ?_
      refine cRegion ?_
      refine sAs (v := nv 0) rfl ?_
      refine sAs (v := nv 2) rfl ?_
      refine sNil (kSeqN ?_)
      refine cRet (kSeqR ?_)
      exact ⟨.inr rfl, _, rfl, by rw [goalsE, if_pos c1, ifOk_n (by decide)]; rfl, e12⟩
    ·
      refine cSkip (kSeqN ?_)
      refine cSeq ?_
      refine cRegion ?_
      refine sAs (v := nv 0) rfl ?_
      refine sNil (kSeqN ?_)
      refine cSeq ?_
      refine cSeq ?_
      refine cRegion ?_
      refine sMv (v := .slice _ _ _) rfl ?_
      refine sLen T25 rfl ?_
      refine sMv (v := nv 0) rfl ?_
      refine sNil (kSeqN ?_)
      refine cBlock ?_
      refine wpC_loop (fun k ρ m' => ∃ i x, k = gs.length - i ∧ i ≤ gs.length ∧ (∀ j u, j < i → gs[j]? = some u → 0 ≤ u ∧ u < Int.ofNat G.length) ∧ x = posM (nats (gs.take i)) ∧ x < 2 ^ 10 ∧ m12 = m' ∧ Has ρ [(1, .slice qg gs.length cg), (2, .pointer (some ⟨m.size, 0, none⟩)), (7, nv x), (19, .slice qg gs.length cg), (20, nv gs.length), (21, nv i)]) ⟨0, 0, rfl, by omega, by omega, rfl, by omega, rfl, rfl, rfl, rfl, rfl, rfl, rfl, trivial⟩ ?_
      rintro k ρ _ ⟨i, x, rfl, hi, hr, hx, hx10, rfl, hh⟩
      rw [hh.env]; clear hh
      refine cSeq ?_
      refine cRegion ?_
      refine sBin rfl rfl (aInt_lss) ?_
      refine sNil (kSeqN ?_)
      refine cSeq ?_   -- seq 12
      refine cCond rfl (fun c2 => ?_) (fun c2 => ?_)
      ·
        obtain ⟨b1, o1, p1, r1, cc, e1, gg, x1⟩ := ha.at (by omega)
        cases e1
        have hgi : gs[i]? = some gs[i] := by simp
        generalize hni : gs[i] = n at *
        refine cSkip (kSeqN ?_)
        refine cSeq ?_
        refine cBlock ?_
        refine cSeq ?_
        refine cRegion ?_
        refine sIx T25 S3 rfl rfl (by omega) ?_
        refine sLd (v := .int _ _) A3 rfl (e12.cells gg) (x1 i n hgi) ?_
        refine sAs (v := .int _ _) rfl ?_
        refine sNil (kSeqN ?_)
        refine cSeq ?_   -- seq 15
        refine cSeq ?_
        refine cRegion ?_
        refine sMv (v := .int _ _) rfl ?_
        refine sBinI (v := .bool (decide (n < 0))) rfl rfl rfl ?_
        refine sMv (v := .bool _) rfl ?_
        by_cases h5 : n < 0
        ·
          rw [decide_eq_true h5]
          refine sGno (q' := true) rfl rfl (by simp) ?_
          refine sGno (q' := true) rfl rfl (by simp) ?_
          refine sGno (q' := true) rfl rfl (by simp) ?_
          refine sGno (q' := true) rfl rfl (by simp) ?_
          refine sGno (q' := true) rfl rfl (by simp) ?_
          refine sP (v := .bool _) rfl ?_
          refine sNil (kSeqN ?_)
          refine cCondT rfl ?_
          refine cSeq ?_
          refine cRegion ?_
          refine sAs (v := nv 0) rfl ?_
          refine sAs (v := nv 1) rfl ?_
          refine sNil (kSeqN ?_)
          refine cRet (kSeqR (kBlkR (kSeqR (kSeqR (kBlkR (kSeqR ?_))))))
          have h1 : goalsE G.length gs = 1 := by
            rw [goalsE, if_neg c1, if_pos (List.any_eq_true.2 ⟨n, List.mem_of_getElem? hgi, decide_eq_true (.inl h5)⟩)]
          exact ⟨.inr rfl, _, rfl, by rw [h1, ifOk_n (by decide)]; rfl, e12⟩
        ·
          rw [decide_eq_false h5]
          refine sG rfl rfl ?_
          refine sMv (v := .int _ _) rfl ?_
          refine sG rfl rfl ?_
          refine sFA F24_0 rfl ?_
          refine sG rfl rfl ?_
          refine sLd A22 rfl (by simp (disch := first | omega | (simp only [Array.size_push, Array.size_setIfInBounds]; done) | (simp only [Array.size_push, Array.size_setIfInBounds]; omega)) only [gP, gPn, gS, gSn, g12]; try rfl) rfl ?_
          refine sG rfl rfl ?_
          refine sLen T22 rfl ?_
          refine sG rfl rfl ?_
          refine sBinI (b := Int.ofNat G.length) rfl rfl aInt_geqI ?_
          refine sP (v := .bool _) rfl ?_
          refine sNil (kSeqN ?_)
          refine cCond (p := Int.ofNat G.length ≤ n) rfl (fun c4 => ?_) (fun c4 => ?_)
          ·
            refine cSeq ?_
            refine cRegion ?_
            refine sAs (v := nv 0) rfl ?_
            refine sAs (v := nv 1) rfl ?_
            refine sNil (kSeqN ?_)
            refine cRet (kSeqR (kBlkR (kSeqR (kSeqR (kBlkR (kSeqR ?_))))))
            have h1 : goalsE G.length gs = 1 := by
              rw [goalsE, if_neg c1, if_pos (List.any_eq_true.2 ⟨n, List.mem_of_getElem? hgi, decide_eq_true (.inr c4)⟩)]
            exact ⟨.inr rfl, _, rfl, by rw [h1, ifOk_n (by decide)]; rfl, e12⟩
          ·
            obtain ⟨n', rfl⟩ : ∃ n' : Nat, n = Int.ofNat n' := ⟨n.toNat, by simp; omega⟩
            have hn' : n' < 10 := by simp at c4; omega
            have hp : (2 : Nat) ^ n' < 2 ^ 10 := Nat.pow_lt_pow_right (by omega) hn'
            have hor : x ||| 2 ^ n' < 2 ^ 10 := Nat.or_lt_two_pow hx10 hp
            refine cSkip (kSeqN ?_)
            refine cRegion ?_
            refine sMv (v := nv _) rfl ?_
            refine sMv (v := nv n') rfl ?_
            refine sBin (a := 1) (b := n') rfl rfl (aInt_shl (a := 1) (by omega)) ?_
            rw [Nat.shiftLeft_eq, Nat.one_mul]
            refine sBin rfl rfl (aInt_or (by omega)) ?_
            refine sAs (v := nv _) rfl ?_
            refine sNil (kBlkN (kSeqN ?_))
            refine cRegion ?_
            refine sBin rfl rfl (aInt_add (b := 1) (by omega)) ?_
            refine sMv (v := nv _) rfl ?_
            refine sNil (kSeqN ?_)
            refine ⟨_, ?_, i + 1, x ||| 2 ^ n', rfl, by omega, fun j u hj hu => ?_, ?_, hor, rfl, rfl, rfl, rfl, rfl, rfl, rfl, trivial⟩
            · omega
            · by_cases e : j = i
              · subst e
                rw [hgi] at hu
                obtain rfl := Option.some.inj hu
                exact ⟨by simp, by simp at c4 ⊢; omega⟩
              · exact hr j u (by omega) hu
            · rw [List.take_add_one, hgi, hx]
              simp only [Option.toList, nats, List.map_append, List.map_cons, List.map_nil]
              rw [posM_snoc]; rfl
      ·
        obtain rfl : i = gs.length := by omega
        rw [List.take_length] at hx
        have hany : ¬ (gs.any fun g => decide (g < 0 ∨ Int.ofNat G.length ≤ g)) = true := fun h => by
          obtain ⟨u, hu, h2⟩ := List.any_eq_true.1 h
          obtain ⟨j, hj, e⟩ := List.getElem_of_mem hu
          have := hr j u hj (by rw [List.getElem?_eq_getElem hj, e])
          have := of_decide_eq_true h2
          omega
        refine cExit (kSeqE (kSeqE (kBlkS (kSeqN ?_))))
        refine cSeq ?_
        refine cSeq ?_
        refine cRegion ?_
        refine sAs (v := nv 1) rfl ?_
        refine sNil (kSeqN ?_)
        refine cBlock ?_
        refine wpC_loop (fun k ρ m' => ∃ i, k = gs.length - i ∧ 1 ≤ i ∧ i ≤ gs.length ∧ (∀ j, j + 1 < i → ¬ (gs.getD (j + 1) 0 ≤ gs.getD j 0)) ∧ m12 = m' ∧ Has ρ [(1, .slice qg gs.length cg), (7, nv x), (10, nv i)]) ⟨1, rfl, by omega, by omega, by omega, rfl, rfl, rfl, rfl, trivial⟩ ?_
        rintro k ρ _ ⟨i, rfl, hi1, hi, hj, rfl, hh⟩
        rw [hh.env]; clear hh
        refine cSeq ?_   -- seq 21
        refine cSeq ?_
        refine cRegion ?_
        refine sMv (v := nv _) rfl ?_
        refine sMv (v := .slice _ _ _) rfl ?_
        refine sLen T25 rfl ?_
        refine sBin rfl rfl (aInt_lss) ?_
        refine sNil (kSeqN ?_)
        refine cCond rfl (fun c5 => ?_) (fun c5 => ?_)
        ·
          obtain ⟨b1, o1, p1, r1, cc, e1, gg, x1⟩ := ha.at (by omega)
          cases e1
          obtain ⟨j, rfl⟩ : ∃ j, i = j + 1 := ⟨i - 1, by omega⟩
          refine cSkip (kSeqN ?_)
          refine cSeq ?_
          refine cBlock ?_
          refine cSeq ?_
          refine cDraw rfl ?_
          refine sMv (v := .slice _ _ _) rfl ?_
          refine sMv (v := nv _) rfl ?_
          refine sIx T25 S3 rfl rfl (by omega) ?_
          refine sLd (v := .int _ _) A3 rfl (e12.cells gg) (x1 (j + 1) (gs.getD (j + 1) 0) (getDI c5)) ?_
          refine sMv (v := .slice _ _ _) rfl ?_
          refine sMv (v := nv _) rfl ?_
          refine sBin (v := nv j) rfl rfl (aInt_sub (b := 1) (by omega)) ?_
          refine sIx T25 S3 rfl rfl (by omega) ?_
          refine sLd (v := .int _ _) A3 rfl (e12.cells gg) (x1 j (gs.getD j 0) (getDI (by omega))) ?_
          refine sBinI rfl rfl aInt_leqI ?_
          refine sNil (kSeqN ?_)
          refine cCond rfl (fun c6 => ?_) (fun c6 => ?_)
          ·
            refine cSeq ?_
            refine cRegion ?_
            refine sAs (v := nv 0) rfl ?_
            refine sAs (v := nv 15) rfl ?_
            refine sNil (kSeqN ?_)
            refine cRet (kBlkR (kSeqR (kSeqR (kBlkR (kSeqR ?_)))))
            have h15 : goalsE G.length gs = 15 := by
              rw [goalsE, if_neg c1, if_neg hany, if_pos]
              exact List.any_eq_true.2 ⟨j, List.mem_range.2 (by omega), decide_eq_true c6⟩
            exact ⟨.inr rfl, _, rfl, by rw [h15, ifOk_n (by decide)]; rfl, e12⟩
          ·
            refine cSkip (kBlkN (kSeqN ?_))
            refine cRegion ?_
            refine sMv (v := nv _) rfl ?_
            refine sBin rfl rfl (aInt_add (b := 1) (by omega)) ?_
            refine sAs (v := nv _) rfl ?_
            refine sNil (kSeqN ?_)
            refine ⟨_, ?_, j + 2, rfl, by omega, by omega, fun k hk => ?_, rfl, rfl, rfl, rfl, trivial⟩
            · omega
            · by_cases h : k = j
              · subst h; exact c6
              · exact hj k (by omega)
        ·
          refine cExit (kSeqE (kSeqE (kBlkS (kSeqN ?_))))
          refine cSeq ?_
          refine cRegion ?_
          refine sMv (v := nv _) rfl ?_
          refine sAs (v := nv _) rfl ?_
          refine sAs (v := nv 0) rfl ?_
          refine sNil (kSeqN ?_)
          refine cRet ?_
          obtain rfl : i = gs.length := by omega
          have h15 : goalsE G.length gs = 0 := by
            rw [goalsE, if_neg c1, if_neg hany, if_neg]
            intro h
            obtain ⟨j, hj1, hj2⟩ := List.any_eq_true.1 h
            exact hj j (by have := List.mem_range.1 hj1; omega) (of_decide_eq_true hj2)
          exact ⟨.inr rfl, _, rfl, by rw [h15, ifOk_0 rfl, ← hx]; rfl, e12⟩

end Go.AM

/-! ### P28 -/
namespace Go.AM
open Go.Proofs
set_option maxRecDepth 100000
set_option linter.unusedVariables false
set_option linter.unusedSimpArgs false
theorem posFrom_or (x : Nat) (l : List Nat) : posFrom x l = x ||| posM l := Nat.eq_of_testBit_eq fun i => by rw [posFrom_bit, Nat.testBit_or, posM_bit]
theorem posFrom_snoc (x : Nat) (l : List Nat) (n : Nat) : posFrom x (l ++ [n]) = posFrom x l ||| 2 ^ n := by simp [posFrom]
theorem nodesUp_full {x n : Nat} (hx : x < 2 ^ n) : ∀ k, n ≤ k → nodesUp x k = nodesUp x n
  | 0, h => by obtain rfl : n = 0 := (by omega); rfl
  | k + 1, h => by
    by_cases e : n = k + 1
    · rw [e]
    · rw [nodesUp_succ, nodesUp_full hx k (by omega), Nat.testBit_lt_two_pow (Nat.lt_of_lt_of_le hx (Nat.pow_le_pow_right (by omega) (by omega)))]
      simp
theorem needsM_getD {N : List (List Nat)} {n : Nat} (hn : n < N.length) : (needsM N).getD n 0 = posM (N.getD n []) := by
  simp [needsM, List.getD_eq_getElem?_getD, List.getElem?_map, List.getElem?_eq_getElem hn]
theorem ofs2_getD {N : List (List Nat)} {n : Nat} (hn : n < N.length) : (ofs2 N)[n]? = some (ofs (N.getD n [])) := by simp [ofs2, List.getD_eq_getElem?_getD, List.getElem?_eq_getElem hn]
theorem getDr {N : List (List Nat)} {n : Nat} (hn : n < N.length) : N[n]? = some (N.getD n []) := by rw [List.getD_eq_getElem?_getD, List.getElem?_eq_getElem hn]; rfl
theorem mostM_snoc (l : List Nat) (x : Nat) : mostM (l ++ [x]) = max (mostM l) (popc x) := by simp [mostM]
theorem mostM_le {n : Nat} : ∀ {l : List Nat}, (∀ x ∈ l, x < 2 ^ n) → mostM l ≤ n := by
  suffices h : ∀ (l : List Nat) (a : Nat), a ≤ n → (∀ x ∈ l, x < 2 ^ n) → l.foldl (fun a x => max a (popc x)) a ≤ n from fun {l} h' => h l 0 (by omega) h'
  intro l
  induction l with
  | nil => intro a ha _; exact ha
  | cons y l ih =>
    intro a ha h
    exact ih _ (Nat.max_le.2 ⟨ha, popc_le_of_lt (h y (by simp))⟩) fun x hx => h x (by simp [hx])
theorem gPlay_lt {G : List (List Int)} {l : List Int} (h : gPlayE G l = 0) : (∀ y ∈ playedL l, y < 1024) ∧ (playedL l).length ≤ 121 ∧ checkG G = 0 := by
  unfold gPlayE at h
  split at h
  · rename_i h0
    obtain ⟨N, rfl, hN⟩ := checkG_nat h0
    refine ⟨playedL_lt (P := needsM (natsG (ofs2 N))) (by rw [natsG_ofs2, needsM_length]; exact hN.ten) h, ?_, h0⟩
    unfold playedE at h
    split at h
    · cases h
    · rw [playedL, List.length_cons, playL_len]; omega
  · rename_i h0; exact absurd h h0

theorem okf37 : okF Tryd.prog H0 37 67 = true := by kernel_rfl
theorem spec_refNeeded {m : Mem} {s a : Value} {G : List (List Int)} {gs : List Int} (hG : RowsAt m s G) (ha : IntsAt m a gs) (hl : gs.length < 1000000) : ∃ v m', ACalls Tryd.prog 37 #[.agg #[s], a] m v m' ∧ (∃ w, v = .tuple #[w, nv (withE G gs)] ∧ OwnF m.size m' w (ofs (ifOk (withE G gs) (neededG G gs) [])) ∧ Ext m m') := by
  obtain ⟨q, cap, rfl⟩ := hG.len
  obtain ⟨qg, cg, rfl⟩ := ha.len
  have he : Ext m (m.push (.cells true #[.slice q G.length cap])) := .push _ _
  refine wpF (args := [_, _]) mixed okf37 (fn := Tryd.f37) rfl rfl rfl (by simp) ?_
  refine cSeq ?_
  refine cRegion ?_
  refine sBox (v := .agg _) rfl ?_
  refine sAs (v := .slice _ _ _) rfl ?_
  refine sAs (v := nv 0) rfl ?_
  refine sNil (kSeqN ?_)
  refine cSeq ?_
  refine cRegion ?_
  refine sLdAll A24 S24 rfl (gP rfl) rfl ?_
  refine sMv (v := .slice _ _ _) rfl ?_
  obtain ⟨v16, m16, h16, rfl, k16⟩ := spec_goaled (hG.ext he) (ha.ext he) hl
  have e16 : Ext m m16 := he.trans k16
  have g16 : Mem.get m16 m.size = .cells true #[.slice q G.length cap] := k16.cells (gP rfl)
  refine sCall2 rfl call60 rfl rfl h16 ?_
  refine sMv (v := .tuple _) rfl ?_
  refine sP (v := nv _) rfl ?_   -- extract ['t13', '0']
  refine sP (v := nv _) rfl ?_   -- extract ['t13', '1']
  refine sAs (v := nv _) rfl ?_
  refine sAs (v := nv _) rfl ?_
  refine sNil (kSeqN ?_)
  refine cSeq ?_   -- seq 2
  refine cSeq ?_
  refine cRegion ?_
  refine sMv (v := nv _) rfl ?_
  refine sBin (b := 0) rfl rfl aInt_neq ?_
  refine sNil (kSeqN ?_)
  refine cCond rfl (fun c0 => ?_) (fun c0 => ?_)
  ·
    refine cSeq ?_
    refine cRegion ?_
    refine sMv (v := nv _) rfl ?_
    refine sAs (v := .slice _ _ _) rfl ?_
    refine sAs (v := nv _) rfl ?_
    refine sNil (kSeqN ?_)
    refine cRet (kSeqR ?_)
    exact ⟨.inr rfl, _, rfl, _, rfl, by rw [ifOk_n (α := List Nat) c0]; exact .nil _ _, e16⟩
  ·
    have h0 := Decidable.not_not.1 c0
    obtain ⟨N, g, rfl, hN, rfl, hg⟩ := withE_nat h0
    rw [h0]
    rw [ofs2_length] at *
    have h10 := hN.ten
    have h1 := hN.one
    have hpl : posM g < 2 ^ N.length := posM_lt fun k hk => hg.lt k hk
    have hNG : neededG (ofs2 N) (ofs g) = nodesUp (neededF (needsM N) N.length (posM g)) 10 := by rw [neededG, natsG_ofs2, nats_ofs]; rfl
    rw [hNG, ifOk_0 rfl]
    rw [ifOk_0 rfl, nats_ofs]
    have hNl : ∀ x ∈ needsM N, x < 2 ^ N.length := fun x hx => by
      obtain ⟨j, hj, e⟩ := List.getElem_of_mem hx
      have := hN.needs_lt (i := j) (x := x) (by rw [List.getElem?_eq_getElem hj, e])
      rw [needsM_length] at hj
      exact Nat.lt_of_lt_of_le this (Nat.pow_le_pow_right (by omega) (by omega))
    refine cSkip (kSeqN ?_)
    refine cSeq ?_
    refine cSeq ?_
    refine cRegion ?_
    refine sFA F24_0 rfl ?_
    refine sLd A22 rfl (by simp (disch := first | omega | (simp only [Array.size_push, Array.size_setIfInBounds]; done) | (simp only [Array.size_push, Array.size_setIfInBounds]; omega)) only [gP, gPn, gS, gSn, g16]; try rfl) rfl ?_
    refine sLen T22 rfl ?_
    refine sBinI (v := .int .i64 (Int.ofNat N.length - 1)) (a := Int.ofNat N.length) (b := 1) rfl rfl (aInt_subI (by simp; omega)) ?_
    refine sAs (v := .int _ _) rfl ?_
    refine sNil (kSeqN ?_)
    refine cBlock ?_
    refine wpC_loop (fun k ρ m' => ∃ i x, k = i ∧ i ≤ N.length ∧ neededF (needsM N) N.length (posM g) = neededF (needsM N) i x ∧ x < 2 ^ N.length ∧ m16 = m' ∧ Has ρ [(2, .pointer (some ⟨m.size, 0, none⟩)), (6, nv x), (8, .int .i64 (Int.ofNat i - 1))]) ⟨N.length, _, rfl, Nat.le_refl _, rfl, hpl, rfl, rfl, rfl, rfl, trivial⟩ ?_
    rintro k ρ _ ⟨i, x, rfl, hi, hr0, hx, rfl, hh⟩
    rw [hh.env]; clear hh
    refine cSeq ?_   -- seq 7
    refine cSeq ?_
    refine cRegion ?_
    refine sMv (v := .int _ _) rfl ?_
    refine sBinI (b := 0) rfl rfl aInt_geqI ?_
    refine sNil (kSeqN ?_)
    refine cCond rfl (fun c1 => ?_) (fun c1 => ?_)
    ·
      obtain ⟨i, rfl⟩ : ∃ j, k = j + 1 := ⟨k - 1, by simp at c1; omega⟩
      have hj : Int.ofNat (i + 1) - 1 = Int.ofNat i := by simp
      rw [hj]
      have hin : i < N.length := by omega
      obtain ⟨b1, o1, p1, r1, cc, e1, g1, x1⟩ := hG.at (by rw [ofs2_length]; omega)
      rw [ofs2_length] at e1
      cases e1
      obtain ⟨s1, hs1, har⟩ := x1 i _ (ofs2_getD hin)
      obtain ⟨qs, cs, rfl⟩ := har.lenN
      have hless := hN.less i _ (getDr hin)
      have htwo := hN.two _ (List.mem_of_getElem? (getDr hin))
      have hneed := needsM_getD hin
      rw [neededF, hneed] at hr0
      generalize hr : N.getD i [] = r at *
      have hx2 : ∀ t : List Nat, (∀ k ∈ t, k < i) → posFrom x t < 2 ^ N.length := fun t ht => posFrom_lt hx fun k hk => by have := ht k hk; omega
      refine cSkip (kSeqN ?_)
      refine cSeq ?_
      refine cBlock ?_
      refine cSeq ?_
      refine cRegion ?_
      refine sFA F24_0 rfl ?_
      refine sLd A22 rfl (by simp (disch := first | omega | (simp only [Array.size_push, Array.size_setIfInBounds]; done) | (simp only [Array.size_push, Array.size_setIfInBounds]; omega)) only [gP, gPn, gS, gSn, g16]; try rfl) rfl ?_
      refine sMv (v := nv i) rfl ?_
      refine sIx T22 S25 rfl rfl (by omega) ?_
      refine sLd (v := .slice _ _ _) A25 rfl (e16.cells g1) hs1 ?_
      refine sLen T25 rfl ?_
      refine sMv (v := nv 0) rfl ?_
      refine sNil (kSeqN ?_)
      refine cBlock ?_
      refine wpC_loop (fun k ρ m' => ∃ j y, k = r.length - j ∧ j ≤ r.length ∧ y = (if x.testBit i then posFrom x (r.take j) else x) ∧ m16 = m' ∧ Has ρ [(2, .pointer (some ⟨m.size, 0, none⟩)), (6, nv y), (8, nv i), (34, .slice qs r.length cs), (35, nv r.length), (36, nv j)]) ⟨0, x, rfl, by omega, by simp [posFrom], rfl, rfl, rfl, rfl, rfl, rfl, rfl, trivial⟩ ?_
      rintro k ρ _ ⟨j, y, rfl, hjr, hy, rfl, hh⟩
      rw [hh.env]; clear hh
      have hylt : y < 2 ^ 10 := by
        refine Nat.lt_of_lt_of_le ?_ (Nat.pow_le_pow_right (n := 2) (by omega) h10)
        rw [hy]; split
        · exact hx2 _ fun k hk => hless k (List.mem_of_mem_take hk)
        · exact hx
      have hbit : y.testBit i = x.testBit i := by
        rw [hy]; split
        · rename_i hb
          rw [posFrom_bit, hb]; rfl
        · rfl
      refine cSeq ?_
      refine cRegion ?_
      refine sBin rfl rfl (aInt_lss) ?_
      refine sNil (kSeqN ?_)
      refine cSeq ?_   -- seq 12
      refine cCond rfl (fun c2 => ?_) (fun c2 => ?_)
      ·
        obtain ⟨b2, o2, p2, r2, cd, e2, g2, x2⟩ := har.atN (by omega)
        cases e2
        have hrj := hless r[j] (List.getElem_mem c2)
        have hp : (2 : Nat) ^ r[j] < 2 ^ 10 := Nat.pow_lt_pow_right (by omega) (by omega)
        have hor : y ||| 2 ^ r[j] < 2 ^ 10 := Nat.or_lt_two_pow hylt hp
        have hsh := Nat.shiftRight_le y i
        refine cSkip (kSeqN ?_)
        refine cSeq ?_
        refine cBlock ?_
        refine cSeq ?_
        refine cRegion ?_
        refine sIx T25 S3 rfl rfl (by omega) ?_
        refine sLd (v := nv r[j]) A3 rfl (e16.cells g2) (x2 j r[j] (by simp)) ?_
        refine sAs (v := nv _) rfl ?_
        refine sNil (kSeqN ?_)
        refine cSeq ?_
        refine cRegion ?_
        refine sMv (v := nv _) rfl ?_
        refine sMv (v := nv i) rfl ?_
        refine sBin (a := y) (b := i) rfl rfl (aInt_shr (by omega)) ?_
        refine sBin (b := 1) rfl rfl (aInt_and (by omega)) ?_
        refine sBin (b := 1) rfl rfl aInt_eql ?_
        refine sNil (kSeqN ?_)
        refine cCond rfl (fun c3 => ?_) (fun c3 => ?_)
        ·
          have hb := (bit_one y i).1 c3
          rw [hbit] at hb
          refine cRegion ?_
          refine sMv (v := nv _) rfl ?_
          refine sMv (v := nv _) rfl ?_
          refine sBin (a := 1) (b := r[j]) rfl rfl (aInt_shl (a := 1) (by omega)) ?_
          rw [Nat.shiftLeft_eq, Nat.one_mul]
          refine sBin rfl rfl (aInt_or (by omega)) ?_
          refine sAs (v := nv _) rfl ?_
          refine sNil (kBlkN (kSeqN ?_))
          refine cRegion ?_
          refine sBin rfl rfl (aInt_add (b := 1) (by omega)) ?_
          refine sMv (v := nv _) rfl ?_
          refine sNil (kSeqN ?_)
          refine ⟨_, ?_, j + 1, _, rfl, by omega, ?_, rfl, rfl, rfl, rfl, rfl, rfl, rfl, trivial⟩
          · omega
          · rw [if_pos hb] at hy ⊢
            rw [List.take_add_one, List.getElem?_eq_getElem c2, Option.toList, posFrom_snoc, ← hy]
        ·
          refine cSkip (kBlkN (kSeqN ?_))
          refine cRegion ?_
          refine sBin rfl rfl (aInt_add (b := 1) (by omega)) ?_
          refine sMv (v := nv _) rfl ?_
          refine sNil (kSeqN ?_)
          refine ⟨_, ?_, j + 1, _, rfl, by omega, ?_, rfl, rfl, rfl, rfl, rfl, rfl, rfl, trivial⟩
          · omega
          · have hb : ¬ x.testBit i = true := fun h => c3 ((bit_one y i).2 (by rw [hbit]; exact h))
            rw [if_neg hb] at hy ⊢; exact hy
      ·
        obtain rfl : j = r.length := by omega
        rw [List.take_length] at hy
        refine cExit (kSeqE (kSeqE (kBlkS (kBlkN (kSeqN ?_)))))
        refine cRegion ?_
        refine sMv (v := nv i) rfl ?_
        refine sBinI (v := .int .i64 (Int.ofNat i - 1)) (a := Int.ofNat i) (b := 1) rfl rfl (aInt_subI (by simp; omega)) ?_
        refine sAs (v := .int _ _) rfl ?_
        refine sNil (kSeqN ?_)
        refine ⟨i, by omega, i, y, rfl, by omega, by rw [hr0, hy]; congr 1; split <;> simp_all [posFrom_or], ?_, rfl, rfl, rfl, rfl, trivial⟩
        rw [hy]; split
        · exact hx2 _ hless
        · exact hx
    ·
      obtain rfl : k = 0 := by simp at c1; omega
      rw [neededF] at hr0
      rw [hr0]
      refine cExit (kSeqE (kSeqE (kBlkS (kSeqN ?_))))
      refine cSeq ?_
      refine cRegion ?_
      refine sAs (v := .slice _ _ _) rfl ?_
      refine sNil (kSeqN ?_)
      refine cSeq ?_
      refine cSeq ?_
      refine cRegion ?_
      refine sFA F24_0 rfl ?_
      refine sLd A22 rfl (by simp (disch := first | omega | (simp only [Array.size_push, Array.size_setIfInBounds]; done) | (simp only [Array.size_push, Array.size_setIfInBounds]; omega)) only [gP, gPn, gS, gSn, g16]; try rfl) rfl ?_
      refine sLen T22 rfl ?_
      refine sMv (v := nv 0) rfl ?_
      refine sNil (kSeqN ?_)
      refine cBlock ?_
      refine wpC_loop (fun k ρ m' => ∃ i v, k = N.length - i ∧ i ≤ N.length ∧ Low m16.size m16 m' ∧ OwnF m16.size m' v (ofs (nodesUp x i)) ∧ Has ρ [(6, nv x), (11, v), (52, nv N.length), (53, nv i)]) ⟨0, _, rfl, by omega, .refl _ _, .nil _ _, rfl, rfl, rfl, rfl, trivial⟩ ?_
      rintro k ρ m' ⟨i, v, rfl, hi, hLo, hO, hh⟩
      obtain ⟨qv, cv, rfl⟩ := hO.ints.lenN
      rw [hh.env]; clear hh
      have hsz := hLo.1
      have hnl := nodesUp_len x i
      have hx10 : x < 2 ^ 10 := Nat.lt_of_lt_of_le hx (Nat.pow_le_pow_right (n := 2) (by omega) h10)
      refine cSeq ?_
      refine cRegion ?_
      refine sBin rfl rfl (aInt_lss) ?_
      refine sNil (kSeqN ?_)
      refine cSeq ?_   -- seq 20
      refine cCond rfl (fun c4 => ?_) (fun c4 => ?_)
      ·
        refine cSkip (kSeqN ?_)
        refine cSeq ?_
        refine cBlock ?_
        refine cSeq ?_
        refine cRegion ?_
        refine sMv (v := nv _) rfl ?_
        refine sAs (v := nv _) rfl ?_
        refine sNil (kSeqN ?_)
        refine cSeq ?_
        refine cRegion ?_
        refine sMv (v := nv _) rfl ?_
        refine sMv (v := nv _) rfl ?_
        refine sBin (a := x) (b := i) rfl rfl (aInt_shr (by omega)) ?_
        have hsh := Nat.shiftRight_le x i
        refine sBin (b := 1) rfl rfl (aInt_and (by omega)) ?_
        refine sBin (b := 1) rfl rfl aInt_eql ?_
        refine sNil (kSeqN ?_)
        refine cCond rfl (fun c5 => ?_) (fun c5 => ?_)
        ·
          have hb := (bit_one x i).1 c5
          refine cRegion ?_
          refine sMv (v := .slice _ _ _) rfl ?_
          refine sMv (v := nv _) rfl ?_
          refine sBuildS T25 S3 Z3 (by decide) (by decide) (by decide) (by kernel_rfl) fill1 rfl ?_
          refine sApp App25 rfl rfl (N := m16.size) (hO.ext (.push _ _)) one_ints (by simp; omega) (by simp; omega) fun v3 m3 hO3 hL3 => ?_
          have hI3 := hO3.ints
          obtain ⟨q3, cp3, rfl⟩ := hI3.len
          refine sAs (v := .slice _ _ _) rfl ?_
          refine sNil (kBlkN (kSeqN ?_))
          refine cRegion ?_
          refine sBin rfl rfl (aInt_add (b := 1) (by omega)) ?_
          refine sMv (v := nv _) rfl ?_
          refine sNil (kSeqN ?_)
          refine ⟨_, ?_, i + 1, _, rfl, by omega, hLo.trans ((Low.push _ hsz _).trans hL3), by rw [nodesUp_succ, if_pos hb, ofs_append]; exact hO3, rfl, rfl, rfl, rfl, trivial⟩
          omega
        ·
          refine cSkip (kBlkN (kSeqN ?_))
          refine cRegion ?_
          refine sBin rfl rfl (aInt_add (b := 1) (by omega)) ?_
          refine sMv (v := nv _) rfl ?_
          refine sNil (kSeqN ?_)
          refine ⟨_, ?_, i + 1, _, rfl, by omega, hLo, by rw [nodesUp_succ, if_neg (fun h => c5 ((bit_one x i).2 h)), List.append_nil]; exact hO, rfl, rfl, rfl, rfl, trivial⟩
          omega
      ·
        refine cExit (kSeqE (kSeqE (kBlkS (kSeqN ?_))))
        refine cSeq ?_
        refine cRegion ?_
        refine sMv (v := .slice _ _ _) rfl ?_
        refine sAs (v := .slice _ _ _) rfl ?_
        refine sAs (v := nv 0) rfl ?_
        refine sNil (kSeqN ?_)
        refine cRet ?_
        obtain rfl : i = N.length := by omega
        rw [nodesUp_full hx 10 h10]
        exact ⟨.inr rfl, _, rfl, _, rfl, hO.mono e16.1, Low.to_ext e16 hLo (by have := e16.1; omega)⟩

theorem okf43 : okF Tryd.prog H0 43 55 = true := by kernel_rfl
theorem spec_refPlay {m : Mem} {s a : Value} {G : List (List Int)} {l : List Int} (hG : RowsAt m s G) (ha : IntsAt m a l) : ∃ v m', ACalls Tryd.prog 43 #[.agg #[s], a] m v m' ∧ (∃ w, v = .tuple #[w, nv (gPlayE G l)] ∧ OwnF m.size m' w (ofs (ifOk (gPlayE G l) (playedL l) [])) ∧ Ext m m') := by
  obtain ⟨q, cap, rfl⟩ := hG.len
  obtain ⟨qg, cg, rfl⟩ := ha.len
  have he : Ext m (m.push (.cells true #[.slice q G.length cap])) := .push _ _
  refine wpF (args := [_, _]) mixed okf43 (fn := Tryd.f43) rfl rfl rfl (by simp) ?_
  refine cSeq ?_
  refine cRegion ?_
  refine sBox (v := .agg _) rfl ?_
  refine sAs (v := .slice _ _ _) rfl ?_
  refine sAs (v := nv 0) rfl ?_
  refine sNil (kSeqN ?_)
  refine cSeq ?_
  refine cSeq ?_
  refine cRegion ?_
  refine sLdAll A24 S24 rfl (gP rfl) rfl ?_
  obtain ⟨v12, m12, h12, rfl, k12⟩ := spec_refCheck (hG.ext he)
  have e12 : Ext m m12 := he.trans k12
  have g12 : Mem.get m12 m.size = .cells true #[.slice q G.length cap] := k12.cells (gP rfl)
  refine sCall1 rfl call41 rfl h12 ?_
  refine sAs (v := nv _) rfl ?_
  refine sNil (kSeqN ?_)
  refine cSeq ?_
  refine cRegion ?_
  refine sMv (v := nv _) rfl ?_
  refine sBin (b := 0) rfl rfl aInt_neq ?_
  refine sNil (kSeqN ?_)
  refine cCond rfl (fun c0 => ?_) (fun c0 => ?_)
  ·
    refine cSeq ?_
    refine cRegion ?_
    refine sMv (v := nv _) rfl ?_
    refine sAs (v := .slice _ _ _) rfl ?_
    refine sAs (v := nv _) rfl ?_
    refine sNil (kSeqN ?_)
    refine cRet (kSeqR ?_)
    exact ⟨.inr rfl, _, rfl, _, by rw [gPlayE, if_neg c0]; rfl, by rw [gPlayE, if_neg c0, ifOk_n c0]; exact .nil _ _, e12⟩
  ·
    have h0 := Decidable.not_not.1 c0
    obtain ⟨N, rfl, hN⟩ := checkG_nat h0
    have hpe : gPlayE (ofs2 N) l = playedE (needsM N) l := by rw [gPlayE, if_pos h0, natsG_ofs2]
    rw [hpe]
    clear hpe
    rw [ofs2_length] at *
    have h10 := hN.ten
    have h1 := hN.one
    unfold playedE
    refine cSkip (kSeqN ?_)
    refine cSeq ?_   -- seq 5
    refine cSeq ?_
    refine cRegion ?_
    refine sMv (v := .slice _ _ _) rfl ?_
    refine sLen T25 rfl ?_
    refine sBin (b := 120) rfl rfl aInt_gtr ?_
    refine sNil (kSeqN ?_)
    refine cCond rfl (fun c1 => ?_) (fun c1 => ?_)
    ·
      refine cSeq ?_
      refine cRegion ?_
      refine sAs (v := .slice _ _ _) rfl ?_
      refine sAs (v := nv 2) rfl ?_
      refine sNil (kSeqN ?_)
      refine cRet (kSeqR ?_)
      exact ⟨.inr rfl, _, rfl, _, by rw [if_pos c1]; rfl, by rw [if_pos c1, ifOk_n (by decide)]; exact .nil _ _, e12⟩
    ·
      rw [if_neg c1]
      refine cSkip (kSeqN ?_)
      refine cSeq ?_
      refine cRegion ?_
      refine sBuildS T25 S3 Z3 (by decide) (by decide) (by decide) (by kernel_rfl) fill1 rfl ?_
      refine sAs (v := .slice _ _ _) rfl ?_
      refine sNil (kSeqN ?_)
      refine cSeq ?_
      refine cSeq ?_
      refine cRegion ?_
      refine sMv (v := .slice _ _ _) rfl ?_
      refine sLen T25 rfl ?_
      refine sMv (v := nv 0) rfl ?_
      refine sNil (kSeqN ?_)
      refine cBlock ?_
      refine wpC_loop (fun k ρ m' => ∃ i x L v, k = l.length - i ∧ i ≤ l.length ∧ playE (needsM N) 0 l = playE (needsM N) x (l.drop i) ∧ playedL l = L ++ playL x (l.drop i) ∧ L.length = i + 1 ∧ L[i]? = some x ∧ x < 1024 ∧ Low m12.size m12 m' ∧ OwnF m12.size m' v (ofs L) ∧ Has ρ [(2, .pointer (some ⟨m.size, 0, none⟩)), (7, v), (20, .slice qg l.length cg), (21, nv l.length), (22, nv i)]) ⟨0, 0, [0], _, rfl, by omega, rfl, rfl, rfl, rfl, by omega, .push _ (Nat.le_refl _) _, .ofCells (l := [0]) (r := []) (Nat.le_refl _) (gP rfl), rfl, rfl, rfl, rfl, rfl, trivial⟩ ?_
      rintro k ρ m' ⟨i, x, L, v, rfl, hi, hr1, hr2, hLl, hLx, hx, hLo, hO, hh⟩
      obtain ⟨qv, cv, rfl⟩ := hO.ints.lenN
      rw [hh.env]; clear hh
      have hE := Low.to_ext e12 hLo (by have := e12.1; omega)
      have hsz := hLo.1
      have g3 : Mem.get m' m.size = .cells true #[.slice q N.length cap] := hLo.cells (live g12) g12
      refine cSeq ?_
      refine cRegion ?_
      refine sBin rfl rfl (aInt_lss) ?_
      refine sNil (kSeqN ?_)
      refine cSeq ?_   -- seq 12
      refine cCond rfl (fun c2 => ?_) (fun c2 => ?_)
      ·
        obtain ⟨b1, o1, p1, r1, cc, e1, gg, x1⟩ := ha.at (by omega)
        cases e1
        rw [drop_cons c2, playE] at hr1
        rw [drop_cons c2, playL] at hr2
        rw [needsM_length] at hr1
        generalize hni : l[i] = n at *
        obtain ⟨b2, o2, p2, r2, cd, e2, g2, x2⟩ := hO.ints.atN (show 0 < L.length by omega)
        cases e2
        refine cSkip (kSeqN ?_)
        refine cSeq ?_
        refine cBlock ?_
        refine cSeq ?_
        refine cRegion ?_
        refine sIx T25 S3 rfl rfl (by omega) ?_
        refine sLd (v := .int _ _) A3 rfl (hE.cells gg) (x1 i n (by rw [← hni]; simp)) ?_
        refine sAs (v := .int _ _) rfl ?_
        refine sNil (kSeqN ?_)
        refine cSeq ?_   -- seq 15
        refine cSeq ?_
        refine cRegion ?_
        refine sMv (v := .int _ _) rfl ?_
        refine sBinI (v := .bool (decide (n < 0))) rfl rfl rfl ?_
        refine sMv (v := .bool _) rfl ?_
        by_cases h2 : n < 0
        ·
          rw [decide_eq_true h2]
          refine sGno (q' := true) rfl rfl (by simp) ?_
          refine sGno (q' := true) rfl rfl (by simp) ?_
          refine sGno (q' := true) rfl rfl (by simp) ?_
          refine sGno (q' := true) rfl rfl (by simp) ?_
          refine sGno (q' := true) rfl rfl (by simp) ?_
          refine sP (v := .bool _) rfl ?_
          refine sNil (kSeqN ?_)
          refine cCondT rfl ?_
          refine cSeq ?_
          refine cRegion ?_
          refine sAs (v := .slice _ _ _) rfl ?_
          refine sAs (v := nv 1) rfl ?_
          refine sNil (kSeqN ?_)
          refine cRet (kSeqR (kBlkR (kSeqR (kSeqR (kBlkR (kSeqR ?_))))))
          rw [if_pos (.inl h2)] at hr1
          exact ⟨.inr rfl, _, rfl, _, by rw [hr1]; rfl, by rw [hr1, ifOk_n (by decide)]; exact .nil _ _, hE⟩
        ·
          rw [decide_eq_false h2]
          refine sG rfl rfl ?_
          refine sMv (v := .int _ _) rfl ?_
          refine sG rfl rfl ?_
          refine sFA F24_0 rfl ?_
          refine sG rfl rfl ?_
          refine sLd A22 rfl (by simp (disch := first | omega | (simp only [Array.size_push, Array.size_setIfInBounds]; done) | (simp only [Array.size_push, Array.size_setIfInBounds]; omega)) only [gP, gPn, gS, gSn, g3]; try rfl) rfl ?_
          refine sG rfl rfl ?_
          refine sLen T22 rfl ?_
          refine sG rfl rfl ?_
          refine sBinI (b := Int.ofNat N.length) rfl rfl aInt_geqI ?_
          refine sP (v := .bool _) rfl ?_
          refine sNil (kSeqN ?_)
          refine cCond (p := Int.ofNat N.length ≤ n) rfl (fun c4 => ?_) (fun c4 => ?_)
          ·
            refine cSeq ?_
            refine cRegion ?_
            refine sAs (v := .slice _ _ _) rfl ?_
            refine sAs (v := nv 1) rfl ?_
            refine sNil (kSeqN ?_)
            refine cRet (kSeqR (kBlkR (kSeqR (kSeqR (kBlkR (kSeqR ?_))))))
            rw [if_pos (.inr c4)] at hr1
            exact ⟨.inr rfl, _, rfl, _, by rw [hr1]; rfl, by rw [hr1, ifOk_n (by decide)]; exact .nil _ _, hE⟩
          ·
            rw [if_neg (by omega)] at hr1
            obtain ⟨y, rfl⟩ : ∃ y : Nat, n = Int.ofNat y := ⟨n.toNat, by simp; omega⟩
            have hy : y < N.length := by simp at c4; omega
            have hty : (Int.ofNat y).toNat = y := rfl
            rw [hty] at hr1 hr2
            refine cSkip (kSeqN ?_)
            refine cSeq ?_
            refine cRegion ?_
            refine sMv (v := .slice _ _ _) rfl ?_
            refine sMv (v := .slice _ _ _) rfl ?_
            refine sLen T25 rfl ?_
            refine sBin (v := nv i) rfl rfl (by rw [hLl]; exact aInt_sub (a := i + 1) (b := 1) (by omega)) ?_
            refine sIx T25 S3 rfl rfl (by omega) ?_
            refine sLd (v := nv x) A3 rfl g2 (x2 i x hLx) ?_
            refine sAs (v := nv _) rfl ?_
            refine sNil (kSeqN ?_)
            refine cSeq ?_   -- seq 20
            refine cSeq ?_
            refine cRegion ?_
            refine sLdAll A24 S24 rfl g3 rfl ?_
            refine sMv (v := nv _) rfl ?_
            refine sMv (v := nv y) rfl ?_
            obtain ⟨v44, m44, h44, rfl, k44⟩ := spec_May (hG.ext hE) hN (x := x) (n := y) (by omega) hy
            refine sCall3 rfl call64 rfl rfl rfl h44 ?_
            refine sP (v := .bool (!mayM (needsM N) x y)) rfl ?_
            refine sNil (kSeqN ?_)
            refine cCond (p := mayM (needsM N) x y = false) (by show Value.bool _ = Value.bool _; cases mayM (needsM N) x y <;> rfl) (fun c5 => ?_) (fun c5 => ?_)
            ·
              refine cSeq ?_
              refine cRegion ?_
              refine sAs (v := .slice _ _ _) rfl ?_
              refine sAs (v := nv 15) rfl ?_
              refine sNil (kSeqN ?_)
              refine cRet (kSeqR (kBlkR (kSeqR (kSeqR (kBlkR (kSeqR ?_))))))
              exact ⟨.inr rfl, _, rfl, _, by rw [hr1, c5]; rfl, by rw [hr1, c5]; exact .nil _ _, hE.trans k44⟩
            ·
              have c5' : mayM (needsM N) x y = true := by simpa using c5
              rw [c5', if_pos rfl] at hr1
              have h2y : 2 ^ y < 2 ^ 10 := Nat.pow_lt_pow_right (by omega) (by omega)
              have hxy : x ^^^ 2 ^ y < 2 ^ 10 := Nat.xor_lt_two_pow hx h2y
              refine cSkip (kSeqN ?_)
              refine cRegion ?_
              refine sMv (v := .slice _ _ _) rfl ?_
              refine sMv (v := nv _) rfl ?_
              refine sMv (v := nv y) rfl ?_
              refine sBin (a := 1) (b := y) rfl rfl (aInt_shl (by omega)) ?_
              rw [Nat.shiftLeft_eq, Nat.one_mul]
              refine sBin rfl rfl (aInt_xor (by omega)) ?_
              refine sBuildS T25 S3 Z3 (by decide) (by decide) (by decide) (by kernel_rfl) fill1 rfl ?_
              refine sApp App25 rfl rfl (N := m12.size) ((hO.ext k44).ext (.push _ _)) one_ints (by have := k44.1; simp; omega) (by rw [ofs_length]; simp; omega) fun v3 m3 hO3 hL3 => ?_
              have hI3 := hO3.ints
              obtain ⟨q3, cp3, rfl⟩ := hI3.len
              refine sAs (v := .slice _ _ _) rfl ?_
              refine sNil (kBlkN (kSeqN ?_))
              refine cRegion ?_
              refine sBin rfl rfl (aInt_add (b := 1) (by omega)) ?_
              refine sMv (v := nv _) rfl ?_
              refine sNil (kSeqN ?_)
              refine ⟨_, ?_, i + 1, x ^^^ 2 ^ y, L ++ [x ^^^ 2 ^ y], _, rfl, by omega, hr1, by rw [hr2, List.append_assoc]; rfl, by simp; omega, by rw [← hLl]; simp, hxy, hLo.trans ((Low.of_ext k44 hsz).trans ((Low.push _ (by have := k44.1; omega) _).trans hL3)), by rw [ofs_append]; exact hO3, rfl, rfl, rfl, rfl, rfl, trivial⟩
              omega
      ·
        refine cExit (kSeqE (kSeqE (kBlkS (kSeqN ?_))))
        refine cSeq ?_
        refine cRegion ?_
        refine sMv (v := .slice _ _ _) rfl ?_
        refine sAs (v := .slice _ _ _) rfl ?_
        refine sAs (v := nv 0) rfl ?_
        refine sNil (kSeqN ?_)
        refine cRet ?_
        obtain rfl : i = l.length := by omega
        rw [List.drop_length] at hr1 hr2
        have hz : playE (needsM N) 0 l = 0 := hr1
        rw [playL, List.append_nil] at hr2
        exact ⟨.inr rfl, _, rfl, _, by rw [hz]; rfl, by rw [hz, ifOk_0 rfl, hr2]; exact hO.mono e12.1, hE⟩

theorem okf45 : okF Tryd.prog H0 45 32 = true := by kernel_rfl
theorem spec_refMost {m : Mem} {s a : Value} {G : List (List Int)} {l : List Int} (hG : RowsAt m s G) (ha : IntsAt m a l) : ∃ v m', ACalls Tryd.prog 45 #[.agg #[s], a] m v m' ∧ (v = .tuple #[nv (mostM (ifOk (gPlayE G l) (playedL l) [])), nv (gPlayE G l)] ∧ Ext m m') := by
  obtain ⟨q, cap, rfl⟩ := hG.len
  obtain ⟨qg, cg, rfl⟩ := ha.len
  have he : Ext m (m.push (.cells true #[.slice q G.length cap])) := .push _ _
  refine wpF (args := [_, _]) mixed okf45 (fn := Tryd.f45) rfl rfl rfl (by simp) ?_
  refine cSeq ?_
  refine cRegion ?_
  refine sBox (v := .agg _) rfl ?_
  refine sAs (v := nv 0) rfl ?_
  refine sAs (v := nv 0) rfl ?_
  refine sNil (kSeqN ?_)
  refine cSeq ?_
  refine cRegion ?_
  refine sLdAll A24 S24 rfl (gP rfl) rfl ?_
  refine sMv (v := .slice _ _ _) rfl ?_
  obtain ⟨v14, m14, h14, w14, rfl, o14, k14⟩ := spec_refPlay (hG.ext he) (ha.ext he)
  have e14 : Ext m m14 := he.trans k14
  have i14 := o14.ints
  obtain ⟨q14, c14, rfl⟩ := i14.lenN
  refine sCall2 rfl call43 rfl rfl h14 ?_
  refine sMv (v := .tuple _) rfl ?_
  refine sP (v := .slice _ _ _) rfl ?_   -- extract ['t11', '0']
  refine sP (v := nv _) rfl ?_   -- extract ['t11', '1']
  refine sAs (v := .slice _ _ _) rfl ?_
  refine sAs (v := nv _) rfl ?_
  refine sNil (kSeqN ?_)
  refine cSeq ?_   -- seq 2
  refine cSeq ?_
  refine cRegion ?_
  refine sMv (v := nv _) rfl ?_
  refine sBin (b := 0) rfl rfl aInt_neq ?_
  refine sNil (kSeqN ?_)
  refine cCond rfl (fun c0 => ?_) (fun c0 => ?_)
  ·
    refine cSeq ?_
    refine cRegion ?_
    refine sMv (v := nv _) rfl ?_
    refine sAs (v := nv 0) rfl ?_
    refine sAs (v := nv _) rfl ?_
    refine sNil (kSeqN ?_)
    refine cRet (kSeqR ?_)
    exact ⟨.inr rfl, _, rfl, by rw [ifOk_n c0]; rfl, e14⟩
  ·
    have h0 := Decidable.not_not.1 c0
    obtain ⟨hlt, hlen, _⟩ := gPlay_lt h0
    rw [ifOk_0 h0] at i14 ⊢
    rw [h0]
    generalize playedL l = L at *
    refine cSkip (kSeqN ?_)
    refine cSeq ?_
    refine cRegion ?_
    refine sAs (v := nv 0) rfl ?_
    refine sNil (kSeqN ?_)
    refine cSeq ?_
    refine cSeq ?_
    refine cRegion ?_
    refine sMv (v := .slice _ _ _) rfl ?_
    refine sLen T25 rfl ?_
    refine sMv (v := nv 0) rfl ?_
    refine sNil (kSeqN ?_)
    refine cBlock ?_
    refine wpC_loop (fun k ρ m' => ∃ i, k = L.length - i ∧ i ≤ L.length ∧ m14 = m' ∧ Has ρ [(8, nv (mostM (L.take i))), (20, .slice q14 L.length c14), (21, nv L.length), (22, nv i)]) ⟨0, rfl, by omega, rfl, rfl, rfl, rfl, rfl, trivial⟩ ?_
    rintro k ρ _ ⟨i, rfl, hi, rfl, hh⟩
    rw [hh.env]; clear hh
    refine cSeq ?_
    refine cRegion ?_
    refine sBin rfl rfl (aInt_lss) ?_
    refine sNil (kSeqN ?_)
    refine cSeq ?_   -- seq 9
    refine cCond rfl (fun c1 => ?_) (fun c1 => ?_)
    ·
      obtain ⟨b1, o1, p1, r1, cc, e1, gg, x1⟩ := i14.atN (by omega)
      cases e1
      refine cSkip (kSeqN ?_)
      refine cSeq ?_
      refine cBlock ?_
      refine cSeq ?_
      refine cRegion ?_
      refine sIx T25 S3 rfl rfl (by omega) ?_
      refine sLd (v := nv L[i]) A3 rfl gg (x1 i L[i] (by simp)) ?_
      refine sAs (v := nv _) rfl ?_
      refine sNil (kSeqN ?_)
      refine cRegion ?_
      refine sMv (v := nv _) rfl ?_
      refine sMv (v := nv _) rfl ?_
      refine sCall1 rfl call72 rfl (spec_Pebbles (by have := hlt L[i] (List.getElem_mem c1); omega)) ?_
      refine sP (v := nv (max (mostM (L.take i)) (popc L[i]))) maxN ?_
      refine sAs (v := nv _) rfl ?_
      refine sNil (kBlkN (kSeqN ?_))
      refine cRegion ?_
      refine sBin rfl rfl (aInt_add (b := 1) (by omega)) ?_
      refine sMv (v := nv _) rfl ?_
      refine sNil (kSeqN ?_)
      refine ⟨_, ?_, i + 1, rfl, by omega, rfl, by rw [List.take_add_one, List.getElem?_eq_getElem c1, Option.toList, mostM_snoc]; rfl, rfl, rfl, rfl, trivial⟩
      omega
    ·
      refine cExit (kSeqE (kSeqE (kBlkS (kSeqN ?_))))
      refine cSeq ?_
      refine cRegion ?_
      refine sMv (v := nv _) rfl ?_
      refine sAs (v := nv _) rfl ?_
      refine sAs (v := nv 0) rfl ?_
      refine sNil (kSeqN ?_)
      refine cRet ?_
      obtain rfl : i = L.length := by omega
      rw [List.take_length]
      exact ⟨.inr rfl, _, rfl, rfl, e14⟩

theorem okf47 : okF Tryd.prog H0 47 37 = true := by kernel_rfl
theorem spec_refReaches {m : Mem} {s a b : Value} {G : List (List Int)} {gs l : List Int} (hG : RowsAt m s G) (ha : IntsAt m a gs) (hl : gs.length < 1000000) (hb : IntsAt m b l) : ∃ v m', ACalls Tryd.prog 47 #[.agg #[s], a, b] m v m' ∧ (v = .tuple #[.bool (reachesB G gs l), nv (reachesE G gs l)] ∧ Ext m m') := by
  obtain ⟨q, cap, rfl⟩ := hG.len
  obtain ⟨qg, cg, rfl⟩ := ha.len
  obtain ⟨qb, cb, rfl⟩ := hb.len
  have he : Ext m (m.push (.cells true #[.slice q G.length cap])) := .push _ _
  refine wpF (args := [_, _, _]) mixed okf47 (fn := Tryd.f47) rfl rfl rfl (by simp) ?_
  refine cSeq ?_
  refine cRegion ?_
  refine sBox (v := .agg _) rfl ?_
  refine sAs (v := .bool _) rfl ?_
  refine sAs (v := nv 0) rfl ?_
  refine sNil (kSeqN ?_)
  refine cSeq ?_
  refine cRegion ?_
  refine sLdAll A24 S24 rfl (gP rfl) rfl ?_
  refine sMv (v := .slice _ _ _) rfl ?_
  obtain ⟨v14, m14, h14, rfl, k14⟩ := spec_goaled (hG.ext he) (ha.ext he) hl
  have e14 : Ext m m14 := he.trans k14
  have g14 : Mem.get m14 m.size = .cells true #[.slice q G.length cap] := k14.cells (gP rfl)
  refine sCall2 rfl call60 rfl rfl h14 ?_
  refine sMv (v := .tuple _) rfl ?_
  refine sP (v := nv _) rfl ?_   -- extract ['t11', '0']
  refine sP (v := nv _) rfl ?_   -- extract ['t11', '1']
  refine sAs (v := nv _) rfl ?_
  refine sAs (v := nv _) rfl ?_
  refine sNil (kSeqN ?_)
  refine cSeq ?_   -- seq 2
  refine cSeq ?_
  refine cRegion ?_
  refine sMv (v := nv _) rfl ?_
  refine sBin (b := 0) rfl rfl aInt_neq ?_
  refine sNil (kSeqN ?_)
  refine cCond rfl (fun c0 => ?_) (fun c0 => ?_)
  ·
    refine cSeq ?_
    refine cRegion ?_
    refine sMv (v := nv _) rfl ?_
    refine sAs (v := .bool _) rfl ?_
    refine sAs (v := nv _) rfl ?_
    refine sNil (kSeqN ?_)
    refine cRet (kSeqR ?_)
    have hre : reachesE G gs l = withE G gs := by rw [reachesE, if_neg c0]
    have hb : reachesB G gs l = false := by
      rw [reachesB, hre]
      exact decide_eq_false fun h => c0 h.1
    exact ⟨.inr rfl, _, rfl, by rw [hb, hre]; rfl, e14⟩
  ·
    have h0 := Decidable.not_not.1 c0
    have hck : checkG G = 0 := by
      unfold withE at h0
      split at h0
      · assumption
      · exact h0
    have hre : reachesE G gs l = gPlayE G l := by rw [reachesE, if_pos h0, gPlayE, if_pos hck]
    rw [reachesB, hre, h0, ifOk_0 rfl]
    refine cSkip (kSeqN ?_)
    refine cSeq ?_
    refine cRegion ?_
    refine sLdAll A24 S24 rfl g14 rfl ?_
    refine sMv (v := .slice _ _ _) rfl ?_
    obtain ⟨v23, m23, h23, w23, rfl, o23, k23⟩ := spec_refPlay (hG.ext e14) (hb.ext e14)
    have i23 := o23.ints
    obtain ⟨q23, c23, rfl⟩ := i23.lenN
    refine sCall2 rfl call43 rfl rfl h23 ?_
    refine sMv (v := .tuple _) rfl ?_
    refine sP (v := .slice _ _ _) rfl ?_   -- extract ['t20', '0']
    refine sP (v := nv _) rfl ?_   -- extract ['t20', '1']
    refine sAs (v := .slice _ _ _) rfl ?_
    refine sAs (v := nv _) rfl ?_
    refine sNil (kSeqN ?_)
    refine cSeq ?_   -- seq 6
    refine cSeq ?_
    refine cRegion ?_
    refine sMv (v := nv _) rfl ?_
    refine sBin (b := 0) rfl rfl aInt_neq ?_
    refine sNil (kSeqN ?_)
    refine cCond rfl (fun c1 => ?_) (fun c1 => ?_)
    ·
      refine cSeq ?_
      refine cRegion ?_
      refine sMv (v := nv _) rfl ?_
      refine sAs (v := .bool _) rfl ?_
      refine sAs (v := nv _) rfl ?_
      refine sNil (kSeqN ?_)
      refine cRet (kSeqR ?_)
      have hb : decide (gPlayE G l = 0 ∧ (playedL l).getLastD 0 = posM (nats gs)) = false := decide_eq_false fun h => c1 h.1
      exact ⟨.inr rfl, _, rfl, by rw [hb]; rfl, e14.trans k23⟩
    ·
      have h1 := Decidable.not_not.1 c1
      obtain ⟨hlt, hlen, _⟩ := gPlay_lt h1
      rw [ifOk_0 h1] at i23 ⊢
      rw [h1]
      have hlast := playedL_last l
      have hpos : 0 < (playedL l).length := by simp [playedL]
      obtain ⟨b1, o1, p1, r1, cc, e1, gg, x1⟩ := i23.atN hpos
      cases e1
      refine cSkip (kSeqN ?_)
      refine cSeq ?_
      refine cRegion ?_
      refine sMv (v := .slice _ _ _) rfl ?_
      refine sMv (v := .slice _ _ _) rfl ?_
      refine sLen T25 rfl ?_
      refine sBin (v := nv ((playedL l).length - 1)) rfl rfl (aInt_sub (b := 1) (by omega)) ?_
      refine sIx T25 S3 rfl rfl (by omega) ?_
      refine sLd (v := nv ((playedL l).getLastD 0)) A3 rfl gg (x1 _ _ hlast) ?_
      refine sMv (v := nv _) rfl ?_
      refine sBin (a := (playedL l).getLastD 0) (b := posM (nats gs)) rfl rfl aInt_eql ?_
      refine sAs (v := .bool _) rfl ?_
      refine sAs (v := nv 0) rfl ?_
      refine sNil (kSeqN ?_)
      refine cRet ?_
      refine ⟨.inr rfl, _, rfl, ?_, e14.trans k23⟩
      simp only [true_and]; rfl

theorem okf39 : okF Tryd.prog H0 39 58 = true := by kernel_rfl
theorem spec_refPlain {m : Mem} {s a : Value} {G : List (List Int)} {gs : List Int} (hG : RowsAt m s G) (ha : IntsAt m a gs) (hl : gs.length < 1000000) : ∃ v m', ACalls Tryd.prog 39 #[.agg #[s], a] m v m' ∧ (∃ w, v = .tuple #[w, nv (withE G gs)] ∧ OwnF m.size m' w (ofs (ifOk (withE G gs) (plainM G gs) [])) ∧ Ext m m') := by
  obtain ⟨q, cap, rfl⟩ := hG.len
  obtain ⟨qg, cg, rfl⟩ := ha.len
  have he : Ext m (m.push (.cells true #[.slice q G.length cap])) := .push _ _
  refine wpF (args := [_, _]) mixed okf39 (fn := Tryd.f39) rfl rfl rfl (by simp) ?_
  refine cSeq ?_
  refine cRegion ?_
  refine sBox (v := .agg _) rfl ?_
  refine sAs (v := .slice _ _ _) rfl ?_
  refine sAs (v := nv 0) rfl ?_
  refine sNil (kSeqN ?_)
  refine cSeq ?_
  refine cRegion ?_
  refine sLdAll A24 S24 rfl (gP rfl) rfl ?_
  refine sMv (v := .slice _ _ _) rfl ?_
  obtain ⟨v16, m16, h16, w16, rfl, o16, k16⟩ := spec_refNeeded (hG.ext he) (ha.ext he) hl
  have e16 : Ext m m16 := he.trans k16
  have i16 := o16.ints
  obtain ⟨q16, c16, rfl⟩ := i16.lenN
  refine sCall2 rfl call37 rfl rfl h16 ?_
  refine sMv (v := .tuple _) rfl ?_
  refine sP (v := .slice _ _ _) rfl ?_   -- extract ['t13', '0']
  refine sP (v := nv _) rfl ?_   -- extract ['t13', '1']
  refine sAs (v := .slice _ _ _) rfl ?_
  refine sAs (v := nv _) rfl ?_
  refine sNil (kSeqN ?_)
  refine cSeq ?_   -- seq 2
  refine cSeq ?_
  refine cRegion ?_
  refine sMv (v := nv _) rfl ?_
  refine sBin (b := 0) rfl rfl aInt_neq ?_
  refine sNil (kSeqN ?_)
  refine cCond rfl (fun c0 => ?_) (fun c0 => ?_)
  ·
    refine cSeq ?_
    refine cRegion ?_
    refine sMv (v := nv _) rfl ?_
    refine sAs (v := .slice _ _ _) rfl ?_
    refine sAs (v := nv _) rfl ?_
    refine sNil (kSeqN ?_)
    refine cRet (kSeqR ?_)
    exact ⟨.inr rfl, _, rfl, _, rfl, by rw [ifOk_n c0 (plainM G gs)]; exact .nil _ _, e16⟩
  ·
    have h0 := Decidable.not_not.1 c0
    obtain ⟨N, g, rfl, hN, rfl, hg⟩ := withE_nat h0
    rw [ifOk_0 h0] at i16 ⊢
    rw [ifOk_0 h0, h0]
    have hnl : (neededG (ofs2 N) (ofs g)).length ≤ 10 := nodesM_len _
    rw [ofs_length] at *
    unfold plainM
    rw [nats_ofs]
    have hagX := ha.ext e16
    generalize neededG (ofs2 N) (ofs g) = L at *
    refine cSkip (kSeqN ?_)
    refine cSeq ?_
    refine cRegion ?_
    refine sBuildS (c := #[]) T25 S3 Z3 (by decide) (by decide) (by decide) (by kernel_rfl) rfl rfl ?_
    refine sMv (v := .slice _ _ _) rfl ?_
    refine sApp App25 rfl rfl (N := m16.size) (p := []) (.inr ⟨m16.size, 0, #[], rfl, Nat.le_refl _, gP rfl, by simp, by simp, by simp⟩) (i16.ext (.push _ _)) (by simp) (by simp; omega) fun v24 m24 hO24 hL24 => ?_
    rw [List.nil_append] at hO24
    obtain ⟨q24, c24, rfl⟩ := hO24.ints.lenN
    have e24 : Ext m16 m24 := Low.to_ext (.push _ _) hL24 (Nat.le_refl _)
    refine sAs (v := .slice _ _ _) rfl ?_
    refine sNil (kSeqN ?_)
    refine cSeq ?_
    refine cSeq ?_
    refine cRegion ?_
    refine sMv (v := .slice _ _ _) rfl ?_
    refine sLen T25 rfl ?_
    refine sBinI (v := .int .i64 (Int.ofNat L.length - 1)) (a := Int.ofNat L.length) (b := 1) rfl rfl (aInt_subI (by simp; omega)) ?_
    refine sAs (v := .int _ _) rfl ?_
    refine sNil (kSeqN ?_)
    refine cBlock ?_
    refine wpC_loop (fun k ρ m' => ∃ i v, k = i ∧ i ≤ L.length ∧ Low m16.size m16 m' ∧ OwnF m16.size m' v (ofs (L ++ ((L.drop i).filter fun i => !decide (i ∈ g)).reverse)) ∧ Has ρ [(1, .slice qg g.length cg), (6, .slice q16 L.length c16), (8, v), (9, .int .i64 (Int.ofNat i - 1))]) ⟨L.length, _, rfl, Nat.le_refl _, .of_ext e24 (Nat.le_refl _), by rw [List.drop_length]; simp; exact hO24, rfl, rfl, rfl, rfl, trivial⟩ ?_
    rintro k ρ m' ⟨i, v, rfl, hi, hLo, hO, hh⟩
    obtain ⟨qv, cv, rfl⟩ := hO.ints.lenN
    rw [hh.env]; clear hh
    have hsz := hLo.1
    have hE : Ext m m' := Low.to_ext e16 hLo (by have := e16.1; omega)
    refine cSeq ?_   -- seq 8
    refine cSeq ?_
    refine cRegion ?_
    refine sMv (v := .int _ _) rfl ?_
    refine sBinI (b := 0) rfl rfl aInt_geqI ?_
    refine sNil (kSeqN ?_)
    refine cCond rfl (fun c1 => ?_) (fun c1 => ?_)
    ·
      obtain ⟨i, rfl⟩ : ∃ j, k = j + 1 := ⟨k - 1, by simp at c1; omega⟩
      have hj : Int.ofNat (i + 1) - 1 = Int.ofNat i := by simp
      rw [hj]
      have hiL : i < L.length := by omega
      obtain ⟨b1, o1, p1, r1, cc, e1, g1, x1⟩ := (i16.ext (Low.to_ext (.refl _) hLo (Nat.le_refl _))).atN (show 0 < L.length by omega)
      cases e1
      refine cSkip (kSeqN ?_)
      refine cSeq ?_
      refine cBlock ?_
      refine cSeq ?_
      refine cRegion ?_
      refine sAs (v := .bool _) rfl ?_
      refine sNil (kSeqN ?_)
      refine cSeq ?_
      refine cSeq ?_
      refine cRegion ?_
      refine sMv (v := .slice _ _ _) rfl ?_
      refine sLen T25 rfl ?_
      refine sMv (v := nv 0) rfl ?_
      refine sNil (kSeqN ?_)
      refine cBlock ?_
      refine wpC_loop (fun k ρ mm => ∃ j, k = g.length - j ∧ j ≤ g.length ∧ m' = mm ∧ Has ρ [(1, .slice qg g.length cg), (6, .slice (some ⟨b1, o1, some 1⟩) L.length c16), (8, .slice qv (L ++ ((L.drop (i + 1)).filter fun i => !decide (i ∈ g)).reverse).length cv), (9, nv i), (10, .bool (decide (L[i] ∈ g.take j))), (32, .slice qg g.length cg), (33, nv g.length), (34, nv j)]) ⟨0, rfl, by omega, rfl, rfl, rfl, rfl, rfl, rfl, rfl, rfl, rfl, trivial⟩ ?_
      rintro k ρ _ ⟨j, rfl, hjg, rfl, hh⟩
      rw [hh.env]; clear hh
      refine cSeq ?_
      refine cRegion ?_
      refine sBin rfl rfl (aInt_lss) ?_
      refine sNil (kSeqN ?_)
      refine cSeq ?_   -- seq 15
      refine cCond rfl (fun c2 => ?_) (fun c2 => ?_)
      ·
        obtain ⟨b2, o2, p2, r2, cd, e2, g2, x2⟩ := ha.atN (by omega)
        cases e2
        have hst : ∀ b, decide (L[i] ∈ g.take j) = b → decide (L[i] ∈ g.take (j + 1)) = (b || decide (g[j] = L[i])) := fun b hb => by
          have h1 : (L[i] ∈ g.take (j + 1)) ↔ (L[i] ∈ g.take j ∨ g[j] = L[i]) := by
            rw [List.take_add_one, List.getElem?_eq_getElem c2, Option.toList, List.mem_append, List.mem_singleton]
            exact ⟨fun h => h.imp id Eq.symm, fun h => h.imp id Eq.symm⟩
          rw [decide_eq_decide.2 h1, ← hb]
          exact Bool.decide_or _ _
        refine cSkip (kSeqN ?_)
        refine cSeq ?_
        refine cBlock ?_
        refine cSeq ?_
        refine cRegion ?_
        refine sIx T25 S3 rfl rfl (by omega) ?_
        refine sLd (v := nv g[j]) A3 rfl (hE.cells g2) (x2 j g[j] (by simp)) ?_
        refine sAs (v := nv _) rfl ?_
        refine sNil (kSeqN ?_)
        refine cRegion ?_
        refine sMv (v := .bool _) rfl ?_
        refine sMv (v := .bool _) rfl ?_
        by_cases h3 : L[i] ∈ g.take j
        ·
          rw [decide_eq_true h3]
          refine sGno (q' := true) rfl rfl (by simp) ?_
          refine sGno (q' := true) rfl rfl (by simp) ?_
          refine sGno (q' := true) rfl rfl (by simp) ?_
          refine sGno (q' := true) rfl rfl (by simp) ?_
          refine sGno (q' := true) rfl rfl (by simp) ?_
          refine sGno (q' := true) rfl rfl (by simp) ?_
          refine sP (v := .bool _) rfl ?_
          refine sAs (v := .bool _) rfl ?_
          refine sNil (kBlkN (kSeqN ?_))
          refine cRegion ?_
          refine sBin rfl rfl (aInt_add (b := 1) (by omega)) ?_
          refine sMv (v := nv _) rfl ?_
          refine sNil (kSeqN ?_)
          refine ⟨_, ?_, j + 1, rfl, by omega, rfl, rfl, rfl, rfl, rfl, ?_, rfl, rfl, rfl, trivial⟩
          · omega
          · rw [hst true (decide_eq_true h3)]; rfl
        ·
          rw [decide_eq_false h3]
          refine sG rfl rfl ?_
          refine sMv (v := nv _) rfl ?_
          refine sG rfl rfl ?_
          refine sMv (v := .slice _ _ _) rfl ?_
          refine sG rfl rfl ?_
          refine sMv (v := nv i) rfl ?_
          refine sG rfl rfl ?_
          refine sIx T25 S3 rfl rfl (by omega) ?_
          refine sG rfl rfl ?_
          refine sLd (v := nv L[i]) A3 rfl g1 (x1 i L[i] (by simp)) ?_
          refine sG rfl rfl ?_
          refine sBin (a := g[j]) (b := L[i]) rfl rfl aInt_eql ?_
          refine sP (v := .bool _) rfl ?_
          refine sAs (v := .bool _) rfl ?_
          refine sNil (kBlkN (kSeqN ?_))
          refine cRegion ?_
          refine sBin rfl rfl (aInt_add (b := 1) (by omega)) ?_
          refine sMv (v := nv _) rfl ?_
          refine sNil (kSeqN ?_)
          refine ⟨_, ?_, j + 1, rfl, by omega, rfl, rfl, rfl, rfl, rfl, ?_, rfl, rfl, rfl, trivial⟩
          · omega
          · rw [hst false (decide_eq_false h3), Bool.false_or]; rfl
      ·
        obtain rfl : j = g.length := by omega
        rw [List.take_length]
        have hdr : L.drop i = L[i] :: L.drop (i + 1) := drop_cons hiL
        refine cExit (kSeqE (kSeqE (kBlkS (kSeqN ?_))))
        refine cSeq ?_
        refine cRegion ?_
        refine sMv (v := .bool _) rfl ?_
        refine sP (v := .bool (!decide (L[i] ∈ g))) rfl ?_
        refine sNil (kSeqN ?_)
        refine cCond (p := ¬ L[i] ∈ g) (by show Value.bool _ = Value.bool _; rw [← decide_not]) (fun c3 => ?_) (fun c3 => ?_)
        ·
          refine cRegion ?_
          refine sMv (v := .slice _ _ _) rfl ?_
          refine sMv (v := .slice _ _ _) rfl ?_
          refine sMv (v := nv i) rfl ?_
          refine sIx T25 S3 rfl rfl (by omega) ?_
          refine sLd (v := nv L[i]) A3 rfl g1 (x1 i L[i] (by simp)) ?_
          refine sBuildS T25 S3 Z3 (by decide) (by decide) (by decide) (by kernel_rfl) fill1 rfl ?_
          refine sApp App25 rfl rfl (N := m16.size) (hO.ext (.push _ _)) one_ints (by simp; omega) (by have := List.length_filter_le (fun i => !decide (i ∈ g)) (L.drop (i + 1)); have := List.length_drop (i := i + 1) (l := L); simp only [ofs_length, List.length_append, List.length_reverse, List.length_cons, List.length_nil]; omega) fun v3 m3 hO3 hL3 => ?_
          rw [show ofs (L ++ ((L.drop (i + 1)).filter fun i => !decide (i ∈ g)).reverse) ++ [Int.ofNat L[i]] = ofs (L ++ ((L.drop i).filter fun i => !decide (i ∈ g)).reverse) by
            rw [hdr, List.filter_cons, if_pos (by simp [c3]), List.reverse_cons, ← List.append_assoc]; exact (ofs_append _ [L[i]]).symm] at hO3
          obtain ⟨q3, cp3, rfl⟩ := hO3.ints.lenN
          refine sAs (v := .slice _ _ _) rfl ?_
          refine sNil (kBlkN (kSeqN ?_))
          refine cRegion ?_
          refine sMv (v := nv i) rfl ?_
          refine sBinI (v := .int .i64 (Int.ofNat i - 1)) (a := Int.ofNat i) (b := 1) rfl rfl (aInt_subI (by simp; omega)) ?_
          refine sAs (v := .int _ _) rfl ?_
          refine sNil (kSeqN ?_)
          refine ⟨i, by omega, i, _, rfl, by omega, hLo.trans ((Low.push _ hsz _).trans hL3), hO3, rfl, rfl, rfl, rfl, trivial⟩
        ·
          refine cSkip (kBlkN (kSeqN ?_))
          refine cRegion ?_
          refine sMv (v := nv i) rfl ?_
          refine sBinI (v := .int .i64 (Int.ofNat i - 1)) (a := Int.ofNat i) (b := 1) rfl rfl (aInt_subI (by simp; omega)) ?_
          refine sAs (v := .int _ _) rfl ?_
          refine sNil (kSeqN ?_)
          refine ⟨i, by omega, i, _, rfl, by omega, hLo, ?_, rfl, rfl, rfl, rfl, trivial⟩
          rw [hdr, List.filter_cons, if_neg (by simp at c3 ⊢; exact c3)]
          exact hO
    ·
      refine cExit (kSeqE (kSeqE (kBlkS (kSeqN ?_))))
      refine cSeq ?_
      refine cRegion ?_
      refine sMv (v := .slice _ _ _) rfl ?_
      refine sAs (v := .slice _ _ _) rfl ?_
      refine sAs (v := nv 0) rfl ?_
      refine sNil (kSeqN ?_)
      refine cRet ?_
      obtain rfl : k = 0 := by simp at c1; omega
      rw [List.drop_zero] at hO
      exact ⟨.inr rfl, _, rfl, _, rfl, hO.mono e16.1, hE⟩

end Go.AM

/-! ### P29 -/
namespace Go.AM
open Go.Proofs
set_option maxRecDepth 100000
set_option linter.unusedVariables false
set_option linter.unusedSimpArgs false
def distE (es : List (Nat × Nat)) (y : Nat) : Int := match lookE es y with
  | some d => Int.ofNat d
  | none => -1
def distL (es : List (Nat × Nat)) (n : Nat) : List Int := (List.range n).map (distE es)
theorem distL_len (es : List (Nat × Nat)) (n : Nat) : (distL es n).length = n := by simp [distL]
theorem distL_get {es : List (Nat × Nat)} {n y : Nat} (h : y < n) : (distL es n)[y]? = some (distE es y) := by simp [distL, h]
theorem distE_some {es : List (Nat × Nat)} {y d : Nat} (h : lookE es y = some d) : distE es y = Int.ofNat d := by simp only [distE, h]
theorem distE_none {es : List (Nat × Nat)} {y : Nat} (h : lookE es y = none) : distE es y = -1 := by simp only [distE, h]
theorem distE_neg (es : List (Nat × Nat)) (y : Nat) : distE es y < 0 ↔ lookE es y = none := by
  cases h : lookE es y with
  | none => rw [distE_none h]; simp
  | some d => rw [distE_some h]; simp
theorem mapRange_set {α : Type} (f g : Nat → α) (n i : Nat) (v : α) (hg : ∀ y, y < n → g y = if y = i then v else f y) : ((List.range n).map f).set i v = (List.range n).map g := by
  apply List.ext_getElem?
  intro j
  rw [List.getElem?_set]
  simp only [List.length_map, List.length_range, List.getElem?_map]
  by_cases hj : j < n
  · rw [List.getElem?_range hj]
    simp only [Option.map_some]
    by_cases e : i = j
    · subst e; rw [if_pos rfl, if_pos hj, hg i hj, if_pos rfl]
    · rw [if_neg e, hg j hj, if_neg (fun h => e h.symm)]
  · rw [List.getElem?_eq_none (by simpa using hj)]
    simp only [Option.map_none]
    by_cases e : i = j
    · subst e; rw [if_pos rfl, if_neg hj]
    · rw [if_neg e]
theorem distL_add {es : List (Nat × Nat)} {n y d : Nat} (h : lookE es y = none) : (distL es n).set y (Int.ofNat d) = distL (es ++ [(y, d)]) n := by
  refine mapRange_set _ _ _ _ _ fun z hz => ?_
  unfold distE
  rw [lookE_append, lookE_cons, lookE_nil]
  by_cases e : z = y
  · subst e; rw [h, if_pos rfl, if_pos rfl]; rfl
  · rw [if_neg e, if_neg e, Option.or_none]
theorem cellsI_set (l : List Int) (i : Nat) (x : Int) : (cellsI l).setIfInBounds i (.int .i64 x) = cellsI (l.set i x) := by
  apply Array.ext_getElem?
  intro j
  rw [Array.getElem?_setIfInBounds, cellsI_get, cellsI_get, cellsI_size, List.getElem?_set]
  by_cases e : i = j
  · subst e
    by_cases h : i < l.length
    · simp [h]
    · simp [h]
  · simp [e]
def fillM (i n : Nat) : List Int := (List.range n).map fun y => if y < i then -1 else 0
theorem fillM_0 (n : Nat) : fillM 0 n = ofs (List.replicate n 0) := by
  apply List.ext_getElem?
  intro j
  simp only [fillM, ofs, List.getElem?_map]
  by_cases hj : j < n
  · simp [hj]
  · rw [List.getElem?_eq_none (by simpa using hj), List.getElem?_eq_none (by simpa using hj)]; rfl
theorem fillM_set (i n : Nat) : (fillM i n).set i (-1) = fillM (i + 1) n := by
  refine mapRange_set _ _ _ _ _ fun z hz => ?_
  by_cases e : z = i
  · subst e; rw [if_pos (by omega), if_pos rfl]
  · rw [if_neg e]
    by_cases h : z < i
    · rw [if_pos h, if_pos (by omega)]
    · rw [if_neg h, if_neg (by omega)]
theorem fillM_n (n : Nat) : fillM n n = distL [] n := by
  refine List.map_congr_left fun j hj => ?_
  rw [if_pos (List.mem_range.1 hj)]; rfl
theorem cellsN_I (l : List Nat) : cellsN l = cellsI (ofs l) := by
  apply Array.ext_getElem?
  intro j
  simp [cellsN, cellsI, ofs]; rfl
theorem OwnF.ofI {N : Nat} {m : Mem} {b : Nat} {l : List Int} (hN : N ≤ b) (h : Mem.get m b = .cells true (cellsI l)) : OwnF N m (.slice (some ⟨b, 0, some 1⟩) l.length l.length) l :=
  .inr ⟨b, _, _, rfl, hN, h, Nat.le_refl _, (cellsI_size _).symm, fun i x hi => by rw [cellsI_get, hi]; rfl⟩
/-- The reference's far at work: distances in a block, a list of positions. -/
structure RefV (m : Mem) (q : Option Addr) (c n L : Nat) (es : List (Nat × Nat)) (v : Value) (m' : Mem) : Prop where
  low : Low (m.size + 1) (m.push (.cells true #[.slice q L c])) m'
  gd : Mem.get m' (m.size + 1) = .cells true (cellsI (distL es n))
  own : OwnF (m.size + 2) m' v (ofs (es.map (·.1)))
theorem RefV.ext {m : Mem} {q : Option Addr} {c n L : Nat} {es : List (Nat × Nat)} {v : Value} {m' m'' : Mem} (h : RefV m q c n L es v m') (he : Ext m' m'') : RefV m q c n L es v m'' :=
  ⟨h.low.trans_ext he (by have := live h.gd; omega), he.cells h.gd, h.own.ext he⟩
theorem RefV.gb {m : Mem} {q : Option Addr} {c n L : Nat} {es : List (Nat × Nat)} {v : Value} {m' : Mem} (h : RefV m q c n L es v m') : Mem.get m' m.size = .cells true #[.slice q L c] := h.low.cells (by omega) (gP rfl)
theorem RefV.add {m : Mem} {q : Option Addr} {c n L y d : Nat} {es : List (Nat × Nat)} {v v' : Value} {M M4 : Mem} (h : RefV m q c n L es v M) (hl : lookE es y = none)
    (hO : OwnF (m.size + 2) M4 v' (ofs (es.map (·.1)) ++ ofs [y])) (hL : Low (m.size + 2) ((M.setIfInBounds (m.size + 1) (.cells true ((cellsI (distL es n)).setIfInBounds y (nv d)))).push (.cells true #[nv y])) M4) : RefV m q c n L (es ++ [(y, d)]) v' M4 := by
  have hg := live h.gd
  refine ⟨((h.low.trans (.set (Nat.le_refl _) _)).trans (.push _ (by simp; omega) _)).trans (hL.le (Nat.le_succ _)), ?_, by rw [List.map_append, ofs_append]; exact hO⟩
  refine hL.cells (by omega) ?_
  rw [gPn (by simp; omega), gS rfl hg, show nv d = Value.int .i64 (Int.ofNat d) from rfl, cellsI_set, distL_add hl]

def H61 : Nat → List (Nat × Nat) := fun id => if id = 18 then [(17,7)] else []
theorem okf61 : okF Tryd.prog H61 61 93 = true := by kernel_rfl
theorem spec_refFar {m : Mem} {s : Value} {N : List (List Nat)} {x0 k : Nat} (hG : RowsAt m s (ofs2 N)) (hN : Dag N) (hx0 : x0 < 2 ^ N.length) (hk : k < 9223372036854775808) : ∃ v m', ACalls Tryd.prog 61 #[.agg #[s], nv x0, nv k] m v m' ∧ (OwnF m.size m' v (distL (farM (needsM N) k x0) (2 ^ N.length)) ∧ Ext m m') := by
  obtain ⟨q, cap, rfl⟩ := hG.len
  have he : Ext m (m.push (.cells true #[.slice q (ofs2 N).length cap])) := .push _ _
  have h10 := hN.ten
  have hp10 : 2 ^ N.length ≤ 2 ^ 10 := Nat.pow_le_pow_right (by omega) h10
  have hpl : (needsM N).length = N.length := needsM_length N
  have hpo : popc x0 ≤ 10 := popc_le_of_lt (by omega)
  rw [ofs2_length]
  rw [ofs2_length] at he
  refine wpF (args := [_, _, _]) mixed okf61 (fn := Tryd.f61) rfl rfl rfl (by simp) ?_
  refine cSeq ?_
  refine cRegion ?_
  refine sBox (v := .agg _) rfl ?_
  refine sAs (v := .slice _ _ _) rfl ?_
  refine sNil (kSeqN ?_)
  refine cSeq ?_
  refine cRegion ?_
  refine sFA F24_0 rfl ?_
  refine sLd A22 rfl (by simp (disch := first | omega | (simp only [Array.size_push, Array.size_setIfInBounds]; done) | (simp only [Array.size_push, Array.size_setIfInBounds]; omega)) only [gP, gPn, gS, gSn]; try rfl) rfl ?_
  refine sLen T22 rfl ?_
  refine sBin (a := 1) (b := N.length) rfl rfl (aInt_shl (by omega)) ?_
  rw [Nat.shiftLeft_eq, Nat.one_mul]
  refine sMkN T25 S3 Z3 bytes3 rfl rfl (by omega) ?_
  rw [cellsN_I, ← fillM_0, Array.size_push]
  refine sAs (v := .slice _ _ _) rfl ?_
  refine sNil (kSeqN ?_)
  refine cSeq ?_
  refine cSeq ?_
  refine cRegion ?_
  refine sMv (v := .slice _ _ _) rfl ?_
  refine sLen T25 rfl ?_
  refine sMv (v := nv 0) rfl ?_
  refine sNil (kSeqN ?_)
  refine cBlock ?_
  refine wpC_loop (fun k' ρ m' => ∃ i, k' = 2 ^ N.length - i ∧ i ≤ 2 ^ N.length ∧ (m.push (.cells true #[.slice q N.length cap])).push (.cells true (cellsI (fillM i (2 ^ N.length)))) = m' ∧ Has ρ [(1, nv x0), (2, nv k), (3, .pointer (some ⟨m.size, 0, none⟩)), (7, .slice (some ⟨m.size + 1, 0, some 1⟩) (2 ^ N.length) (2 ^ N.length)), (19, nv (2 ^ N.length)), (20, nv i)]) ⟨0, rfl, by omega, rfl, rfl, rfl, rfl, rfl, rfl, rfl, trivial⟩ ?_
  rintro k' ρ _ ⟨i, rfl, hi, rfl, hh⟩
  rw [hh.env]; clear hh
  refine cSeq ?_
  refine cRegion ?_
  refine sBin rfl rfl (aInt_lss) ?_
  refine sNil (kSeqN ?_)
  refine cSeq ?_   -- seq 5
  refine cCond rfl (fun c0 => ?_) (fun c0 => ?_)
  ·
    refine cSkip (kSeqN ?_)
    refine cSeq ?_
    refine cBlock ?_
    refine cSeq ?_
    refine cRegion ?_
    refine sMv (v := nv _) rfl ?_
    refine sAs (v := nv _) rfl ?_
    refine sNil (kSeqN ?_)
    refine cRegion ?_
    refine sMv (v := .slice _ _ _) rfl ?_
    refine sMv (v := nv _) rfl ?_
    refine sIx T25 S3 rfl rfl (by omega) ?_
    refine sSt (v := .int _ _) S3 rfl rfl (gP (by simp)) (by rw [cellsI_size]; simp [fillM]; omega) rfl rfl ?_
    refine sNil (kBlkN (kSeqN ?_))
    refine cRegion ?_
    refine sBin rfl rfl (aInt_add (b := 1) (by omega)) ?_
    refine sMv (v := nv _) rfl ?_
    refine sNil (kSeqN ?_)
    refine ⟨_, ?_, i + 1, rfl, by omega, ?_, rfl, rfl, rfl, rfl, rfl, rfl, trivial⟩
    · omega
    · rw [show m.size + 1 = (m.push (.cells true #[.slice q N.length cap])).size by simp, push_set, cellsI_set, Nat.zero_add, Nat.mul_one, fillM_set]
  ·
    obtain rfl : i = 2 ^ N.length := by omega
    rw [fillM_n]
    have gd0 : Mem.get ((m.push (.cells true #[.slice q N.length cap])).push (.cells true (cellsI (distL [] (2 ^ N.length))))) (m.size + 1) = .cells true (cellsI (distL [] (2 ^ N.length))) := gP (by simp)
    refine cExit (kSeqE (kSeqE (kBlkS (kSeqN ?_))))
    refine cSeq ?_   -- seq 8
    refine cSeq ?_
    refine cRegion ?_
    refine sMv (v := nv _) rfl ?_
    refine sCall1 rfl call72 rfl (spec_Pebbles (by omega)) ?_
    refine sMv (v := nv _) rfl ?_
    refine sBin (a := popc x0) (b := k) rfl rfl aInt_gtr ?_
    refine sNil (kSeqN ?_)
    refine cCond (p := k < popc x0) rfl (fun c1 => ?_) (fun c1 => ?_)
    ·
      refine cSeq ?_
      refine cRegion ?_
      refine sMv (v := .slice _ _ _) rfl ?_
      refine sAs (v := .slice _ _ _) rfl ?_
      refine sNil (kSeqN ?_)
      refine cRet (kSeqR ?_)
      refine ⟨.inr rfl, _, rfl, ?_, he.trans (.push _ _)⟩
      rw [farM, if_pos c1]
      have := OwnF.ofI (N := m.size) (by omega) gd0
      rw [distL_len] at this
      exact this
    ·
      refine cSkip (kSeqN ?_)
      refine cSeq ?_
      refine cRegion ?_
      refine sMv (v := .slice _ _ _) rfl ?_
      refine sMv (v := nv _) rfl ?_
      refine sIx T25 S3 rfl rfl hx0 ?_
      refine sSt (v := nv 0) S3 rfl rfl gd0 (by rw [cellsI_size, distL_len]; omega) rfl rfl ?_
      rw [Nat.zero_add, Nat.mul_one, show m.size + 1 = (m.push (.cells true #[.slice q N.length cap])).size by simp, push_set, show nv 0 = Value.int .i64 (Int.ofNat 0) from rfl, cellsI_set, distL_add (es := []) rfl, List.nil_append]
      refine sNil (kSeqN ?_)
      refine cSeq ?_
      refine cRegion ?_
      refine sMv (v := nv _) rfl ?_
      refine sBuildS T25 S3 Z3 (by decide) (by decide) (by decide) (by kernel_rfl) fill1 rfl ?_
      refine sAs (v := .slice _ _ _) rfl ?_
      refine sNil (kSeqN ?_)
      refine cSeq ?_
      refine cSeq ?_
      refine cRegion ?_
      refine sAs (v := nv 0) rfl ?_
      refine sNil (kSeqN ?_)
      refine cBlock ?_
      refine wpC_loop (fun k' ρ m' => ∃ i es v, k' = 1025 - i ∧ i ≤ es.length ∧ GoodE N.length es ∧ farM (needsM N) k x0 = farF (needsM N) k (1025 - i) i es ∧ RefV m q cap (2 ^ N.length) N.length es v m' ∧ Has ρ [(2, nv k), (3, .pointer (some ⟨m.size, 0, none⟩)), (7, .slice (some ⟨m.size + 1, 0, some 1⟩) (2 ^ N.length) (2 ^ N.length)), (9, v), (10, nv i)]) ⟨0, [(x0, 0)], _, rfl, by simp, .one hx0, by rw [farM, if_neg c1], ⟨?_, ?_, ?_⟩, rfl, rfl, by simp; rfl, rfl, rfl, trivial⟩ ?_
      · exact (Low.push _ (by simp) _).trans (.push _ (by simp) _)
      · rw [gPn (by simp), gP (by simp)]
      · exact .ofCells (l := [x0]) (r := []) (by simp) (gP rfl)
      rintro k' ρ m' ⟨i, es, v, rfl, hi, hg, hf, hV, hh⟩
      obtain ⟨qv, cv, rfl⟩ := hV.own.ints.lenN
      rw [hh.env]; clear hh
      have hel := hg.length
      have gb := hV.gb
      refine cSeq ?_   -- seq 15
      refine cSeq ?_
      refine cRegion ?_
      refine sMv (v := nv _) rfl ?_
      refine sMv (v := .slice _ _ _) rfl ?_
      refine sLen T25 rfl ?_
      refine sBin rfl rfl (aInt_lss) ?_
      refine sNil (kSeqN ?_)
      refine cCond rfl (fun c2 => ?_) (fun c2 => ?_)
      ·
        have hi' : i < es.length := by simpa using c2
        obtain ⟨x, d, hp⟩ : ∃ x d, es[i]? = some (x, d) := ⟨es[i].1, es[i].2, List.getElem?_eq_getElem hi'⟩
        have hxl : x < 2 ^ N.length := hg.lt _ (List.mem_of_getElem? hp)
        have hdi : d ≤ i := hg.low i _ hp
        refine cSkip (kSeqN ?_)
        refine cSeq ?_
        refine cBlock ?_
        refine cSeq ?_
        refine cRegion ?_
        refine sFA F24_0 rfl ?_
        refine sLd A22 rfl (by simp (disch := first | omega | (simp only [Array.size_push, Array.size_setIfInBounds]; done) | (simp only [Array.size_push, Array.size_setIfInBounds]; omega)) only [gP, gPn, gS, gSn, gb]; try rfl) rfl ?_
        refine sLen T22 rfl ?_
        refine sMv (v := nv 0) rfl ?_
        refine sNil (kSeqN ?_)
        refine cBlock ?_
        refine wpC_loop (fun k' ρ m' => ∃ j v, k' = N.length - j ∧ j ≤ N.length ∧ RefV m q cap (2 ^ N.length) N.length (roundE (needsM N) k x d j es) v m' ∧ Has ρ [(2, nv k), (3, .pointer (some ⟨m.size, 0, none⟩)), (7, .slice (some ⟨m.size + 1, 0, some 1⟩) (2 ^ N.length) (2 ^ N.length)), (9, v), (10, nv i), (45, nv N.length), (46, nv j)]) ⟨0, _, rfl, by omega, hV, rfl, rfl, rfl, rfl, rfl, rfl, rfl, trivial⟩ ?_
        rintro k' ρ m2 ⟨j, v, rfl, hj, hW, hh⟩
        have hgj := hg.round (P := needsM N) (k := k) hxl (show d < es.length by omega) j (by omega)
        have hget := roundE_get (P := needsM N) (k := k) (x := x) (d := d) hp j
        have hnext : roundE (needsM N) k x d (j + 1) es = if wayB (needsM N) k x j then stepE (d + 1) (x ^^^ 2 ^ j) (roundE (needsM N) k x d j es) else roundE (needsM N) k x d j es := rfl
        generalize hen : roundE (needsM N) k x d j es = en at *
        obtain ⟨qw, cw, rfl⟩ := hW.own.ints.lenN
        rw [hh.env]; clear hh
        refine cSeq ?_
        refine cRegion ?_
        refine sBin rfl rfl (aInt_lss) ?_
        refine sNil (kSeqN ?_)
        refine cSeq ?_   -- seq 20
        refine cCond rfl (fun c3 => ?_) (fun c3 => ?_)
        ·
          have hie : i < en.length := (List.getElem?_eq_some_iff.1 hget).1
          have hkx : (en.map (·.1))[i]? = some x := by simp [hget]
          obtain ⟨b1, o1, p1, r1, cc, e1, gg, x1⟩ := hW.own.ints.atN (show 0 < (en.map (·.1)).length by simp; omega)
          cases e1
          have hlx := hgj.look hget
          have hE : Ext m m2 := Low.to_ext (.push _ _) hW.low (Nat.le_succ _)
          have gb2 := hW.gb
          have gd2 := hW.gd
          have h2j : 2 ^ j < 2 ^ N.length := Nat.pow_lt_pow_right (by omega) c3
          have hnx : x ^^^ 2 ^ j < 2 ^ N.length := Nat.xor_lt_two_pow hxl h2j
          have henl := hgj.length
          refine cSkip (kSeqN ?_)
          refine cSeq ?_
          refine cBlock ?_
          refine cSeq ?_
          refine cRegion ?_
          refine sMv (v := nv _) rfl ?_
          refine sAs (v := nv _) rfl ?_
          refine sNil (kSeqN ?_)
          refine cSeq ?_
          refine cDraw rfl ?_
          refine sMv (v := .slice _ _ _) rfl ?_
          refine sMv (v := nv _) rfl ?_
          refine sIx T25 S3 rfl rfl (by simp; omega) ?_
          refine sLd (v := nv x) A3 rfl gg (x1 i x hkx) ?_
          refine sMv (v := nv _) rfl ?_
          refine sBin (a := 1) (b := j) rfl rfl (aInt_shl (by omega)) ?_
          rw [Nat.shiftLeft_eq, Nat.one_mul]
          refine sBin rfl rfl (aInt_xor (by omega)) ?_
          refine sAs (v := nv _) rfl ?_
          refine sNil (kSeqN ?_)
          refine cSeq ?_
          refine cDrawH (hs := [(17,7)]) rfl (by decide) ?_
          refine lStepLdA A24 S24 rfl gb2 rfl fun e0 hm0 hv0 hr0 => ?_
          refine lStepO (sMv (v := .slice _ _ _) rfl (sNil fun e1 hm1 => ?_))
          refine lStepO (sMv (v := nv _) rfl (sNil fun e2 hm2 => ?_))
          refine lStepO (sIx T25 S3 rfl rfl (by simp; omega) (sNil fun e3 hm3 => ?_))
          refine lStepLd (v := nv x) A3 rfl gg (x1 i x hkx) fun e4 hm4 hv4 hr4 => ?_
          refine lStepO (sMv (v := nv _) rfl (sNil fun e5 hm5 => ?_))
          obtain ⟨v62, m62, h62, rfl, k62⟩ := spec_May (hG.ext hE) hN (x := x) (n := j) (by omega) c3
          rw [ofs2_length] at h62
          have hW2 := hW.ext k62
          have gd3 := hW2.gd
          refine lStepO (sCall3 rfl call64 rfl rfl rfl h62 (sNil fun e6 hm6 => ?_))
          refine lStepO (sMv (v := .bool _) rfl (sNil fun e7 hm7 => ?_))
          by_cases h5 : mayM (needsM N) x j = true
          ·
            rw [h5]
            refine lG rfl rfl ?_
            refine lStepO (sMv (v := nv _) rfl (sNil fun e8 hm8 => ?_))
            refine lG rfl rfl ?_
            refine lStepO (sCall1 rfl call72 rfl (spec_Pebbles (by omega)) (sNil fun e9 hm9 => ?_))
            refine lG rfl rfl ?_
            refine lStepO (sMv (v := nv _) rfl (sNil fun e10 hm10 => ?_))
            refine lG rfl rfl ?_
            refine lStepO (sBin (a := popc (x ^^^ 2 ^ j)) (b := k) rfl rfl aInt_leq (sNil fun e11 hm11 => ?_))
            refine lStepO (sP (v := .bool _) rfl (sNil fun e12 hm12 => ?_))
            refine lStepO (sMv (v := .bool _) rfl (sNil fun e13 hm13 => ?_))
            by_cases h6 : popc (x ^^^ 2 ^ j) ≤ k
            ·
              rw [decide_eq_true h6]
              refine lG rfl rfl ?_
              refine lStepO (sMv (v := .slice _ _ _) rfl (sNil fun e14 hm14 => ?_))
              refine lG rfl rfl ?_
              refine lStepO (sMv (v := nv _) rfl (sNil fun e15 hm15 => ?_))
              refine lG rfl rfl ?_
              refine lStepO (sIx T25 S3 rfl rfl hnx (sNil fun e16 hm16 => ?_))
              refine lG rfl rfl ?_
              refine lStepLd (v := .int .i64 (distE en (x ^^^ 2 ^ j))) A3 rfl gd3 (by rw [Nat.zero_add, Nat.mul_one, cellsI_get, distL_get hnx]; rfl) fun e17 hm17 hv17 hr17 => ?_
              refine lG rfl rfl ?_
              refine lStepO (sBinI (v := .bool (decide (distE en (x ^^^ 2 ^ j) < 0))) rfl rfl rfl (sNil fun e18 hm18 => ?_))
              refine lStepO (sP (v := .bool _) rfl (sNil fun e19 hm19 => ?_))
              refine ⟨?_, (kSeqN ?_)⟩
              ·
                refine obl_atE (e := e17) (e' := e7) (by simp) (by rfl) (by simp) ((hr17 e7.m _ _ (by rw [hm7]; exact gd3) (by rw [Nat.zero_add, Nat.mul_one, cellsI_get, distL_get hnx]; rfl)).trans (congrArg some hv17.symm)) ?_
                trivial
              refine cCond (p := distE en (x ^^^ 2 ^ j) < 0) rfl (fun c4 => ?_) (fun c4 => ?_)
              ·
                have hno := (distE_neg en (x ^^^ 2 ^ j)).1 c4
                have gg3 := k62.cells gg
                refine cSeq ?_
                refine cRegion ?_
                refine sMv (v := .slice _ _ _) rfl ?_
                refine sMv (v := nv _) rfl ?_
                refine sMv (v := .slice _ _ _) rfl ?_
                refine sMv (v := .slice _ _ _) rfl ?_
                refine sMv (v := nv _) rfl ?_
                refine sIx T25 S3 rfl rfl (by simp; omega) ?_
                refine sLd (v := nv x) A3 rfl gg3 (x1 i x hkx) ?_
                refine sIx T25 S3 rfl rfl hxl ?_
                refine sLd (v := nv d) A3 rfl gd3 (by rw [Nat.zero_add, Nat.mul_one, cellsI_get, distL_get hxl, distE_some hlx]; rfl) ?_
                refine sBin rfl rfl (aInt_add (b := 1) (by omega)) ?_
                refine sIx T25 S3 rfl rfl hnx ?_
                refine sSt (v := nv (d + 1)) S3 rfl rfl gd3 (by rw [cellsI_size, distL_len]; omega) rfl rfl ?_
                rw [Nat.zero_add, Nat.mul_one (x ^^^ 2 ^ j)]
                refine sNil (kSeqN ?_)
                refine cRegion ?_
                refine sMv (v := .slice _ _ _) rfl ?_
                refine sMv (v := nv _) rfl ?_
                refine sBuildS T25 S3 Z3 (by decide) (by decide) (by decide) (by kernel_rfl) fill1 rfl ?_
                refine sApp App25 rfl rfl (N := m.size + 2) ((hW2.own.only (.set (m.size + 1) _ _) (by omega)).ext (.push _ _)) one_ints (by have := live gd3; simp; omega) (by simp; omega) fun v3 m3 hO3 hL3 => ?_
                rw [show ofs (en.map (·.1)) ++ [Int.ofNat (x ^^^ 2 ^ j)] = ofs (en.map (·.1)) ++ ofs [x ^^^ 2 ^ j] from rfl] at hO3
                have hadd := hW2.add (y := x ^^^ 2 ^ j) (d := d + 1) hno hO3 hL3
                obtain ⟨q3, cp3, rfl⟩ := hadd.own.ints.lenN
                refine sAs (v := .slice _ _ _) rfl ?_
                refine sNil (kBlkN (kSeqN ?_))
                refine cRegion ?_
                refine sBin rfl rfl (aInt_add (b := 1) (by omega)) ?_
                refine sMv (v := nv _) rfl ?_
                refine sNil (kSeqN ?_)
                refine ⟨_, ?_, j + 1, _, rfl, by omega, by rw [hnext, wayB, h5, decide_eq_true h6]; simp only [Bool.and_self, if_true]; rw [stepE, if_pos hno]; exact hadd, rfl, rfl, rfl, rfl, rfl, rfl, rfl, trivial⟩
                omega
              ·
                refine cSkip (kBlkN (kSeqN ?_))
                refine cRegion ?_
                refine sBin rfl rfl (aInt_add (b := 1) (by omega)) ?_
                refine sMv (v := nv _) rfl ?_
                refine sNil (kSeqN ?_)
                refine ⟨_, ?_, j + 1, _, rfl, by omega, ?_, rfl, rfl, rfl, rfl, rfl, rfl, rfl, trivial⟩
                · omega
                · have hs : ¬ lookE en (x ^^^ 2 ^ j) = none := fun h => c4 ((distE_neg _ _).2 h)
                  rw [hnext, stepE, if_neg hs]
                  split <;> exact hW2
            ·
              rw [decide_eq_false h6]
              refine lGno (q' := false) rfl rfl (by simp) fun e14 hm14 hq14 => ?_
              refine lGno (q' := false) rfl rfl (by simp) fun e15 hm15 hq15 => ?_
              refine lGno (q' := false) rfl rfl (by simp) fun e16 hm16 hq16 => ?_
              refine lGno (q' := false) rfl rfl (by simp) fun e17 hm17 hq17 => ?_
              refine lGno (q' := false) rfl rfl (by simp) fun e18 hm18 hq18 => ?_
              refine lStepO (sP (v := .bool _) rfl (sNil fun e19 hm19 => ?_))
              refine ⟨?_, (kSeqN ?_)⟩
              ·
                refine obl_no (e := e17) (by simp) (by rfl) rfl rfl hq17 (by simp) ?_
                trivial
              refine cCondF rfl ?_
              refine cSkip (kBlkN (kSeqN ?_))
              refine cRegion ?_
              refine sBin rfl rfl (aInt_add (b := 1) (by omega)) ?_
              refine sMv (v := nv _) rfl ?_
              refine sNil (kSeqN ?_)
              refine ⟨_, ?_, j + 1, _, rfl, by omega, ?_, rfl, rfl, rfl, rfl, rfl, rfl, rfl, trivial⟩
              · omega
              · rw [hnext, if_neg (by rw [wayB, decide_eq_false h6, Bool.and_false]; decide)]; exact hW2
          ·
            rw [Bool.eq_false_iff.2 h5]
            refine lGno (q' := false) rfl rfl (by simp) fun e8 hm8 hq8 => ?_
            refine lGno (q' := false) rfl rfl (by simp) fun e9 hm9 hq9 => ?_
            refine lGno (q' := false) rfl rfl (by simp) fun e10 hm10 hq10 => ?_
            refine lGno (q' := false) rfl rfl (by simp) fun e11 hm11 hq11 => ?_
            refine lStepO (sP (v := .bool _) rfl (sNil fun e12 hm12 => ?_))
            refine lStepO (sMv (v := .bool _) rfl (sNil fun e13 hm13 => ?_))
            refine lGno (q' := false) rfl rfl (by simp) fun e14 hm14 hq14 => ?_
            refine lGno (q' := false) rfl rfl (by simp) fun e15 hm15 hq15 => ?_
            refine lGno (q' := false) rfl rfl (by simp) fun e16 hm16 hq16 => ?_
            refine lGno (q' := false) rfl rfl (by simp) fun e17 hm17 hq17 => ?_
            refine lGno (q' := false) rfl rfl (by simp) fun e18 hm18 hq18 => ?_
            refine lStepO (sP (v := .bool _) rfl (sNil fun e19 hm19 => ?_))
            refine ⟨?_, (kSeqN ?_)⟩
            ·
              refine obl_no (e := e17) (by simp) (by rfl) rfl rfl hq17 (by simp) ?_
              trivial
            refine cCondF rfl ?_
            refine cSkip (kBlkN (kSeqN ?_))
            refine cRegion ?_
            refine sBin rfl rfl (aInt_add (b := 1) (by omega)) ?_
            refine sMv (v := nv _) rfl ?_
            refine sNil (kSeqN ?_)
            refine ⟨_, ?_, j + 1, _, rfl, by omega, ?_, rfl, rfl, rfl, rfl, rfl, rfl, rfl, trivial⟩
            · omega
            · rw [hnext, if_neg (by rw [wayB, Bool.eq_false_iff.2 h5, Bool.false_and]; decide)]; exact hW2
        ·
          obtain rfl : j = N.length := by omega
          refine cExit (kSeqE (kSeqE (kBlkS (kBlkN (kSeqN ?_)))))
          refine cRegion ?_
          refine sMv (v := nv _) rfl ?_
          refine sBin rfl rfl (aInt_add (b := 1) (by omega)) ?_
          refine sAs (v := nv _) rfl ?_
          refine sNil (kSeqN ?_)
          have hie : i < en.length := (List.getElem?_eq_some_iff.1 hget).1
          refine ⟨_, ?_, i + 1, en, _, rfl, by omega, hgj, ?_, hW, rfl, rfl, rfl, rfl, rfl, trivial⟩
          · omega
          · rw [hf, show 1025 - i = (1025 - (i + 1)) + 1 by omega, farF, hp]
            simp only [hpl, hen]
      ·
        refine cExit (kSeqE (kSeqE (kBlkS (kSeqN ?_))))
        refine cSeq ?_
        refine cRegion ?_
        refine sMv (v := .slice _ _ _) rfl ?_
        refine sAs (v := .slice _ _ _) rfl ?_
        refine sNil (kSeqN ?_)
        refine cRet ?_
        obtain rfl : i = es.length := by simp at c2; omega
        refine ⟨.inr rfl, _, rfl, ?_, Low.to_ext (.push _ _) hV.low (Nat.le_succ _)⟩
        have : farF (needsM N) k (1025 - es.length) es.length es = es := by
          rw [show 1025 - es.length = (1024 - es.length) + 1 by omega, farF, List.getElem?_eq_none (Nat.le_refl _)]
        rw [hf, this]
        have := OwnF.ofI (N := m.size) (by omega) hV.gd
        rw [distL_len] at this
        exact this

end Go.AM

/-! ### P30 -/
namespace Go.AM
open Go.Proofs
set_option maxRecDepth 100000
set_option linter.unusedVariables false
set_option linter.unusedSimpArgs false
theorem distE_iff {es : List (Nat × Nat)} {y d : Nat} : distE es y = Int.ofNat d ↔ lookE es y = some d := by
  cases h : lookE es y with
  | none => rw [distE_none h]; simp
  | some e => rw [distE_some h]; simp; omega
theorem lss_short (P : List Nat) (k g : Nat) : decide (distE (farM P k g) 0 < 0) = !isShort P k g := by
  rw [isShort]
  cases h : lookE (farM P k g) 0 with
  | none => rw [distE_none h]; rfl
  | some d => rw [distE_some h, decide_eq_false (by simp)]; rfl
theorem geq_look (es : List (Nat × Nat)) (y : Nat) : decide (0 ≤ distE es y) = (lookE es y).isSome := by
  cases h : lookE es y with
  | none => rw [distE_none h]; rfl
  | some d => rw [distE_some h, decide_eq_true (by simp)]; rfl
theorem geq_short (P : List Nat) (k g : Nat) : decide (0 ≤ distE (farM P k g) 0) = isShort P k g := geq_look _ _
theorem short_dist {P : List Nat} {k g : Nat} (h : isShort P k g = true) : distE (farM P k g) 0 = Int.ofNat (shortM P k g).length := by
  unfold isShort at h
  obtain ⟨d, hd⟩ := Option.isSome_iff_exists.1 h
  rw [distE_some hd, shortM, pathF_len, hd]; rfl
theorem trade_head {P : List Nat} {g n : Nat} (h1 : 1 ≤ n) (hlow : ∀ j, 1 ≤ j → j < n → isShort P j g = false) (hs : isShort P n g = true) : ∀ k, n ≤ k → ((tradeF P g k).headD (0, 0)).1 = n ∧ tradeF P g k ≠ [] := by
  have he : ∀ j, j < n → tradeF P g j = [] := by
    intro j
    induction j with
    | zero => exact fun _ => rfl
    | succ j ih =>
      intro hj
      rw [tradeF, if_neg (fun h => by rw [hlow (j + 1) (by omega) hj] at h; cases h.1)]
      exact ih (by omega)
  intro k
  induction k with
  | zero => intro h; omega
  | succ k ih =>
    intro hk
    rw [tradeF]
    by_cases e : n = k + 1
    · subst e
      rw [if_pos ⟨hs, .inl (by rw [he k (by omega)]; rfl)⟩, he k (by omega)]
      exact ⟨rfl, by simp⟩
    · obtain ⟨h2, h3⟩ := ih (by omega)
      split
      · refine ⟨?_, by simp⟩
        match ht : tradeF P g k, h3, h2 with
        | x :: r, _, h2 => exact h2
      · exact ⟨h2, h3⟩
theorem noPos {N : List (List Nat)} {g : List Nat} (hg : Goals N.length g) : posM g < 2 ^ N.length := posM_lt fun k hk => hg.lt k hk

theorem okf17 : okF Tryd.prog H0 17 28 = true := by kernel_rfl
theorem spec_refLeast {m : Mem} {s a : Value} {G : List (List Int)} {gs : List Int} (hG : RowsAt m s G) (ha : IntsAt m a gs) (hl : gs.length < 1000000) : ∃ v m', ACalls Tryd.prog 17 #[.agg #[s], a] m v m' ∧ (v = .tuple #[nv (ifOk (withE G gs) (leastG G gs) 0), nv (withE G gs)] ∧ Ext m m') := by
  obtain ⟨q, cap, rfl⟩ := hG.len
  obtain ⟨qg, cg, rfl⟩ := ha.len
  have he : Ext m (m.push (.cells true #[.slice q G.length cap])) := .push _ _
  refine wpF (args := [_, _]) mixed okf17 (fn := Tryd.f17) rfl rfl rfl (by simp) ?_
  refine cSeq ?_
  refine cRegion ?_
  refine sBox (v := .agg _) rfl ?_
  refine sAs (v := nv 0) rfl ?_
  refine sAs (v := nv 0) rfl ?_
  refine sNil (kSeqN ?_)
  refine cSeq ?_
  refine cRegion ?_
  refine sLdAll A24 S24 rfl (gP rfl) rfl ?_
  refine sMv (v := .slice _ _ _) rfl ?_
  obtain ⟨v16, m16, h16, rfl, k16⟩ := spec_goaled (hG.ext he) (ha.ext he) hl
  have e16 : Ext m m16 := he.trans k16
  have g16 : Mem.get m16 m.size = .cells true #[.slice q G.length cap] := k16.cells (gP rfl)
  refine sCall2 rfl call60 rfl rfl h16 ?_
  refine sMv (v := .tuple _) rfl ?_
  refine sP (v := nv _) rfl ?_   -- extract ['t9', '0']
  refine sP (v := nv _) rfl ?_   -- extract ['t9', '1']
  refine sAs (v := nv _) rfl ?_
  refine sAs (v := nv _) rfl ?_
  refine sNil (kSeqN ?_)
  refine cSeq ?_   -- seq 2
  refine cSeq ?_
  refine cRegion ?_
  refine sMv (v := nv _) rfl ?_
  refine sBin (b := 0) rfl rfl aInt_neq ?_
  refine sNil (kSeqN ?_)
  refine cCond rfl (fun c0 => ?_) (fun c0 => ?_)
  ·
    refine cSeq ?_
    refine cRegion ?_
    refine sMv (v := nv _) rfl ?_
    refine sAs (v := nv 0) rfl ?_
    refine sAs (v := nv _) rfl ?_
    refine sNil (kSeqN ?_)
    refine cRet (kSeqR ?_)
    exact ⟨.inr rfl, _, rfl, by rw [ifOk_n c0 (leastG G gs)]; rfl, e16⟩
  ·
    have h0 := Decidable.not_not.1 c0
    obtain ⟨N, g, rfl, hN, rfl, hg⟩ := withE_nat h0
    rw [ifOk_0 h0, ifOk_0 h0, h0, nats_ofs]
    have h10 := hN.ten
    have h1 := hN.one
    have hpl : (needsM N).length = N.length := needsM_length N
    have hpo := noPos hg
    have hall := fun k hk => isShort_all (P := needsM N) (k := k) (g := posM g) hN.lowP (by rw [hpl]; exact h10) (by rw [hpl]; exact hpo) hk
    have hlg : leastG (ofs2 N) (ofs g) = ((tradeF (needsM N) (posM g) N.length).headD (0, 0)).1 := by rw [leastG, tradeG, natsG_ofs2, nats_ofs, ofs2_length]
    rw [hlg]
    refine cSkip (kSeqN ?_)
    refine cSeq ?_
    refine cRegion ?_
    refine sAs (v := nv 1) rfl ?_
    refine sNil (kSeqN ?_)
    refine cSeq ?_
    refine cBlock ?_
    refine wpC_loop (fun k' ρ m' => ∃ n, k' = N.length - n ∧ 1 ≤ n ∧ n ≤ N.length ∧ (∀ j, 1 ≤ j → j < n → isShort (needsM N) j (posM g) = false) ∧ Ext m16 m' ∧ Has ρ [(2, .pointer (some ⟨m.size, 0, none⟩)), (6, nv (posM g)), (8, nv n)]) ⟨1, rfl, by omega, h1, by omega, .refl _, rfl, rfl, rfl, trivial⟩ ?_
    rintro k' ρ m' ⟨n, rfl, hn1, hn, hlow, hE, hh⟩
    rw [hh.env]; clear hh
    refine cSeq ?_   -- seq 7
    refine cSeq ?_
    refine cRegion ?_
    refine sLdAll A24 S24 rfl (hE.cells g16) rfl ?_
    refine sMv (v := nv _) rfl ?_
    refine sMv (v := nv _) rfl ?_
    obtain ⟨v21, m21, h21, o21, k21⟩ := spec_refFar (hG.ext (e16.trans hE)) hN hpo (k := n) (by omega)
    obtain ⟨q21, c21, rfl⟩ := o21.ints.len
    refine sCall3 rfl call61 rfl rfl rfl h21 ?_
    obtain ⟨b1, o1, p1, r1, cc, e1, gg, x1⟩ := o21.ints.at (by rw [distL_len]; exact Nat.two_pow_pos _)
    cases e1
    refine sIx (i := 0) T25 S3 rfl rfl (by rw [distL_len]; exact Nat.two_pow_pos _) ?_
    refine sLd (v := .int .i64 (distE (farM (needsM N) n (posM g)) 0)) A3 rfl gg (x1 0 _ (distL_get (Nat.two_pow_pos _))) ?_
    refine sBinI (v := .bool (!isShort (needsM N) n (posM g))) rfl rfl (by rw [← lss_short]; rfl) ?_
    refine sNil (kSeqN ?_)
    refine cCond (p := isShort (needsM N) n (posM g) = false) (by show Value.bool _ = Value.bool _; cases isShort (needsM N) n (posM g) <;> rfl) (fun c1 => ?_) (fun c1 => ?_)
    ·
      have hne : n ≠ N.length := fun e => by
        have := hall n (by omega)
        rw [c1] at this; cases this
      refine cSkip (kSeqN ?_)
      refine cBlock ?_
      refine cRegion ?_
      refine sMv (v := nv _) rfl ?_
      refine sBin rfl rfl (aInt_add (b := 1) (by omega)) ?_
      refine sAs (v := nv _) rfl ?_
      refine sNil (kBlkN (kSeqN ?_))
      refine ⟨_, ?_, n + 1, rfl, by omega, by omega, fun j hj1 hj2 => ?_, hE.trans k21, rfl, rfl, rfl, trivial⟩
      · omega
      · by_cases e : j = n
        · subst e; exact c1
        · exact hlow j hj1 (by omega)
    ·
      refine cExit (kSeqE (kSeqE (kBlkS (kSeqN ?_))))
      refine cSeq ?_
      refine cRegion ?_
      refine sMv (v := nv _) rfl ?_
      refine sAs (v := nv _) rfl ?_
      refine sAs (v := nv 0) rfl ?_
      refine sNil (kSeqN ?_)
      refine cRet ?_
      have hs : isShort (needsM N) n (posM g) = true := by simpa using c1
      rw [(trade_head hn1 hlow hs N.length hn).1]
      exact ⟨.inr rfl, _, rfl, rfl, e16.trans (hE.trans k21)⟩

theorem okf19 : okF Tryd.prog H0 19 73 = true := by kernel_rfl
theorem spec_refShortest {m : Mem} {s a : Value} {G : List (List Int)} {gs : List Int} {k : Int} (hG : RowsAt m s G) (ha : IntsAt m a gs) (hl : gs.length < 1000000) : ∃ v m', ACalls Tryd.prog 19 #[.agg #[s], a, .int .i64 k] m v m' ∧ (∃ w, v = .tuple #[w, nv (shortestE G gs k)] ∧ OwnF m.size m' w (ofs (ifOk (shortestE G gs k) (shortestG G gs k) [])) ∧ Ext m m') := by
  obtain ⟨q, cap, rfl⟩ := hG.len
  obtain ⟨qg, cg, rfl⟩ := ha.len
  have he : Ext m (m.push (.cells true #[.slice q G.length cap])) := .push _ _
  unfold shortestE
  refine wpF (args := [_, _, _]) mixed okf19 (fn := Tryd.f19) rfl rfl rfl (by simp) ?_
  refine cSeq ?_
  refine cRegion ?_
  refine sBox (v := .agg _) rfl ?_
  refine sAs (v := .slice _ _ _) rfl ?_
  refine sAs (v := nv 0) rfl ?_
  refine sNil (kSeqN ?_)
  refine cSeq ?_
  refine cRegion ?_
  refine sLdAll A24 S24 rfl (gP rfl) rfl ?_
  refine sMv (v := .slice _ _ _) rfl ?_
  obtain ⟨v16, m16, h16, rfl, k16⟩ := spec_goaled (hG.ext he) (ha.ext he) hl
  have e16 : Ext m m16 := he.trans k16
  have g16 : Mem.get m16 m.size = .cells true #[.slice q G.length cap] := k16.cells (gP rfl)
  refine sCall2 rfl call60 rfl rfl h16 ?_
  refine sMv (v := .tuple _) rfl ?_
  refine sP (v := nv _) rfl ?_   -- extract ['t14', '0']
  refine sP (v := nv _) rfl ?_   -- extract ['t14', '1']
  refine sAs (v := nv _) rfl ?_
  refine sAs (v := nv _) rfl ?_
  refine sNil (kSeqN ?_)
  refine cSeq ?_   -- seq 2
  refine cSeq ?_
  refine cRegion ?_
  refine sMv (v := nv _) rfl ?_
  refine sBin (b := 0) rfl rfl aInt_neq ?_
  refine sNil (kSeqN ?_)
  refine cCond rfl (fun c0 => ?_) (fun c0 => ?_)
  ·
    refine cSeq ?_
    refine cRegion ?_
    refine sMv (v := nv _) rfl ?_
    refine sAs (v := .slice _ _ _) rfl ?_
    refine sAs (v := nv _) rfl ?_
    refine sNil (kSeqN ?_)
    refine cRet (kSeqR ?_)
    exact ⟨.inr rfl, _, rfl, _, by rw [if_neg c0]; rfl, by rw [if_neg c0, ifOk_n c0 (shortestG G gs k)]; exact .nil _ _, e16⟩
  ·
    have h0 := Decidable.not_not.1 c0
    obtain ⟨N, g, rfl, hN, rfl, hg⟩ := withE_nat h0
    rw [if_pos h0, ifOk_0 h0, nats_ofs, natsG_ofs2]
    have h10 := hN.ten
    have h1 := hN.one
    have hpl : (needsM N).length = N.length := needsM_length N
    have hpo := noPos hg
    refine cSkip (kSeqN ?_)
    refine cSeq ?_   -- seq 5
    refine cSeq ?_
    refine cRegion ?_
    refine sMv (v := .int _ _) rfl ?_
    refine sBinI (v := .bool (decide (k < 1))) rfl rfl rfl ?_
    refine sMv (v := .bool _) rfl ?_
    by_cases h2 : k < 1
    ·
      rw [decide_eq_true h2]
      refine sGno (q' := true) rfl rfl (by simp) ?_
      refine sGno (q' := true) rfl rfl (by simp) ?_
      refine sP (v := .bool _) rfl ?_
      refine sNil (kSeqN ?_)
      refine cCondT rfl ?_
      refine cSeq ?_
      refine cRegion ?_
      refine sAs (v := .slice _ _ _) rfl ?_
      refine sAs (v := nv 3) rfl ?_
      refine sNil (kSeqN ?_)
      refine cRet (kSeqR ?_)
      exact ⟨.inr rfl, _, rfl, _, by rw [if_pos (.inl h2)]; rfl, by rw [if_pos (.inl h2), ifOk_n (by decide)]; exact .nil _ _, e16⟩
    ·
      rw [decide_eq_false h2]
      refine sG rfl rfl ?_
      refine sMv (v := .int _ _) rfl ?_
      refine sG rfl rfl ?_
      refine sBinI (v := .bool (decide (k > 10))) rfl rfl rfl ?_
      refine sP (v := .bool _) rfl ?_
      refine sNil (kSeqN ?_)
      refine cCond (p := k > 10) rfl (fun c2 => ?_) (fun c2 => ?_)
      ·
        refine cSeq ?_
        refine cRegion ?_
        refine sAs (v := .slice _ _ _) rfl ?_
        refine sAs (v := nv 3) rfl ?_
        refine sNil (kSeqN ?_)
        refine cRet (kSeqR ?_)
        exact ⟨.inr rfl, _, rfl, _, by rw [if_pos (.inr c2)]; rfl, by rw [if_pos (.inr c2), ifOk_n (by decide)]; exact .nil _ _, e16⟩
      ·
        rw [if_neg (by omega)]
        obtain ⟨K, rfl⟩ : ∃ K : Nat, k = Int.ofNat K := ⟨k.toNat, by simp; omega⟩
        have hK : K ≤ 10 := by simp at c2; omega
        have hsg : shortestG (ofs2 N) (ofs g) (Int.ofNat K) = shortM (needsM N) K (posM g) := by rw [shortestG, natsG_ofs2, nats_ofs]; rfl
        rw [hsg, show (Int.ofNat K).toNat = K from rfl]
        refine cSkip (kSeqN ?_)
        refine cSeq ?_
        refine cRegion ?_
        refine sLdAll A24 S24 rfl g16 rfl ?_
        refine sMv (v := nv _) rfl ?_
        refine sMv (v := nv K) rfl ?_
        obtain ⟨v32, m32, h32, o32, k32⟩ := spec_refFar (hG.ext e16) hN hpo (k := K) (by omega)
        have e32 := e16.trans k32
        have g32 := k32.cells g16
        obtain ⟨b1, o1, p1, r1, cc, e1, gg, x1⟩ := o32.ints.at (by rw [distL_len]; exact Nat.two_pow_pos _)
        subst e1
        refine sCall3 rfl call61 rfl rfl rfl h32 ?_
        rw [distL_len] at *
        refine sAs (v := .slice _ _ _) rfl ?_
        refine sNil (kSeqN ?_)
        refine cSeq ?_   -- seq 10
        refine cSeq ?_
        refine cRegion ?_
        refine sMv (v := .slice _ _ _) rfl ?_
        refine sIx (i := 0) T25 S3 rfl rfl (Nat.two_pow_pos _) ?_
        refine sLd (v := .int .i64 (distE (farM (needsM N) K (posM g)) 0)) A3 rfl gg (x1 0 _ (distL_get (Nat.two_pow_pos _))) ?_
        refine sBinI (v := .bool (!isShort (needsM N) K (posM g))) rfl rfl (by rw [← lss_short]; rfl) ?_
        refine sNil (kSeqN ?_)
        refine cCond (p := isShort (needsM N) K (posM g) = false) (by show Value.bool _ = Value.bool _; cases isShort (needsM N) K (posM g) <;> rfl) (fun c3 => ?_) (fun c3 => ?_)
        ·
          refine cSeq ?_
          refine cRegion ?_
          refine sAs (v := .slice _ _ _) rfl ?_
          refine sAs (v := nv 6) rfl ?_
          refine sNil (kSeqN ?_)
          refine cRet (kSeqR ?_)
          exact ⟨.inr rfl, _, rfl, _, by rw [c3]; rfl, by rw [c3, ifOk_n (by decide)]; exact .nil _ _, e32⟩
        ·
          have hs : isShort (needsM N) K (posM g) = true := by simpa using c3
          rw [hs, if_pos rfl, ifOk_0 rfl]
          have hgood := farM_good (P := needsM N) (k := K) (x := posM g) (by rw [hpl]; exact hpo)
          have hpk : popc (posM g) ≤ K := by
            refine Decidable.byContradiction fun h => ?_
            rw [isShort, farM, if_pos (by omega)] at hs
            cases hs
          have hbfs : Bfs (needsM N) K (posM g) (farM (needsM N) K (posM g)) := farM_bfs (by rw [hpl]; exact hpo) hpk
          have hlow := hN.lowP
          have hp10 : 2 ^ N.length ≤ 2 ^ 10 := Nat.pow_le_pow_right (by omega) h10
          unfold isShort at hs
          obtain ⟨d0, hd0⟩ := Option.isSome_iff_exists.1 hs
          have hsm : shortM (needsM N) K (posM g) = pathF (needsM N) K (farM (needsM N) K (posM g)) d0 0 := by rw [shortM, hd0]; rfl
          rw [hsm]
          have hd1024 : ∀ {y d}, lookE (farM (needsM N) K (posM g)) y = some d → d ≤ 1024 ∧ y < 2 ^ N.length := fun {y d} hd => by
            have h1 := hgood.length
            have h3 := hgood.lt _ (lookE_mem hd)
            rw [hpl] at h1 h3
            obtain ⟨j, hj, he⟩ := List.getElem_of_mem (lookE_mem hd)
            have h2 := hgood.low j _ (List.getElem?_eq_getElem hj)
            rw [he] at h2
            have : d ≤ j := h2
            exact ⟨by omega, h3⟩
          generalize hes : farM (needsM N) K (posM g) = es at *
          refine cSkip (kSeqN ?_)
          refine cSeq ?_
          refine cRegion ?_
          refine sAs (v := .slice _ _ _) rfl ?_
          refine sNil (kSeqN ?_)
          refine cSeq ?_
          refine cSeq ?_
          refine cRegion ?_
          refine sAs (v := nv 0) rfl ?_
          refine sNil (kSeqN ?_)
          refine cBlock ?_
          refine wpC_loop (fun k' ρ m' => ∃ d y L v, k' = d ∧ lookE es y = some d ∧ pathF (needsM N) K es d0 0 = L ++ pathF (needsM N) K es d y ∧ Low m32.size m32 m' ∧ OwnF m32.size m' v (ofs L) ∧ Has ρ [(3, .pointer (some ⟨m.size, 0, none⟩)), (10, .slice (some ⟨b1, o1, some 1⟩) (2 ^ N.length) p1), (11, v), (12, nv y)]) ⟨d0, 0, [], _, rfl, hd0, rfl, .refl _ _, .nil _ _, rfl, rfl, rfl, rfl, trivial⟩ ?_
          rintro k' ρ m' ⟨d, y, L, v, rfl, hd, hpath, hLo, hO, hh⟩
          obtain ⟨qv, cv, rfl⟩ := hO.ints.lenN
          rw [hh.env]; clear hh
          have hE' : Ext m32 m' := Low.to_ext (.refl _) hLo (Nat.le_refl _)
          have gg' := hE'.cells gg
          have hyl := (hd1024 hd).2
          have hdl := (hd1024 hd).1
          refine cSeq ?_   -- seq 16
          refine cSeq ?_
          refine cRegion ?_
          refine sMv (v := .slice _ _ _) rfl ?_
          refine sMv (v := nv _) rfl ?_
          refine sIx T25 S3 rfl rfl hyl ?_
          refine sLd (v := nv k') A3 rfl gg' (x1 y (Int.ofNat k') (by rw [distL_get hyl, distE_some hd])) ?_
          refine sBin (b := 0) rfl rfl aInt_gtr ?_
          refine sNil (kSeqN ?_)
          refine cCond rfl (fun c4 => ?_) (fun c4 => ?_)
          ·
            obtain ⟨d, rfl⟩ : ∃ d, k' = d + 1 := ⟨k' - 1, by omega⟩
            obtain ⟨hn1, hn2, hn3⟩ := nextN_spec hbfs hlow hd
            rw [hpl] at hn1
            rw [pathF] at hpath
            generalize hnx : nextN (needsM N) K es d y = nx at *
            have hhit : wayB (needsM N) K y nx = true ∧ lookE es (y ^^^ 2 ^ nx) = some d := by
              unfold hitB at hn2
              rw [Bool.and_eq_true] at hn2
              exact ⟨hn2.1, of_decide_eq_true hn2.2⟩
            have hLd : L.length ≤ 1024 := by
              have := congrArg List.length hpath
              rw [pathF_len, List.length_append] at this
              have := (hd1024 hd0).1
              omega
            refine cSkip (kSeqN ?_)
            refine cBlock ?_
            refine cSeq ?_
            refine cRegion ?_
            refine sAs (v := nv 0) rfl ?_
            refine sNil (kSeqN ?_)
            refine cSeq ?_
            refine cBlock ?_
            refine wpC_loop (fun k' ρ mm => ∃ n, k' = N.length - n ∧ n ≤ nx ∧ Ext m' mm ∧ Has ρ [(3, .pointer (some ⟨m.size, 0, none⟩)), (10, .slice (some ⟨b1, o1, some 1⟩) (2 ^ N.length) p1), (11, .slice qv L.length cv), (12, nv y), (13, nv n)]) ⟨0, rfl, by omega, .refl _, rfl, rfl, rfl, rfl, rfl, trivial⟩ ?_
            rintro k' ρ mm ⟨n, rfl, hnn, hM, hh⟩
            rw [hh.env]; clear hh
            have h2n : 2 ^ n < 2 ^ N.length := Nat.pow_lt_pow_right (by omega) (by omega)
            have hnx2 : y ^^^ 2 ^ n < 2 ^ N.length := Nat.xor_lt_two_pow hyl h2n
            refine cSeq ?_   -- seq 20
            refine cSeq ?_
            refine cDraw rfl ?_
            refine sLdAll A24 S24 rfl ((hE'.trans hM).cells g32) rfl ?_
            refine sMv (v := nv _) rfl ?_
            refine sMv (v := nv _) rfl ?_
            obtain ⟨v45, m45, h45, rfl, k45⟩ := spec_May (hG.ext ((e32.trans hE').trans hM)) hN (x := y) (n := n) (by omega) (by omega)
            refine sCall3 rfl call64 rfl rfl rfl h45 ?_
            have gg45 := k45.cells (hM.cells gg')
            refine sP (v := .bool (!mayM (needsM N) y n)) rfl ?_
            refine sMv (v := .bool _) rfl ?_
            by_cases h5 : mayM (needsM N) y n = false
            ·
              rw [h5]
              refine sGno (q' := true) rfl rfl (by simp) ?_
              refine sGno (q' := true) rfl rfl (by simp) ?_
              refine sGno (q' := true) rfl rfl (by simp) ?_
              refine sGno (q' := true) rfl rfl (by simp) ?_
              refine sGno (q' := true) rfl rfl (by simp) ?_
              refine sGno (q' := true) rfl rfl (by simp) ?_
              refine sGno (q' := true) rfl rfl (by simp) ?_
              refine sGno (q' := true) rfl rfl (by simp) ?_
              refine sGno (q' := true) rfl rfl (by simp) ?_
              refine sGno (q' := true) rfl rfl (by simp) ?_
              refine sGno (q' := true) rfl rfl (by simp) ?_
              refine sGno (q' := true) rfl rfl (by simp) ?_
              refine sGno (q' := true) rfl rfl (by simp) ?_
              refine sP (v := .bool _) rfl ?_
              refine sNil (kSeqN ?_)
              refine cCondT rfl ?_
              refine cSkip (kSeqN ?_)
              refine cBlock ?_
              refine cRegion ?_
              refine sMv (v := nv _) rfl ?_
              refine sBin rfl rfl (aInt_add (b := 1) (by omega)) ?_
              refine sAs (v := nv _) rfl ?_
              refine sNil (kBlkN (kSeqN ?_))
              have hne : n ≠ nx := fun e => by
                have := hhit.1
                rw [← e, wayB, h5, Bool.false_and] at this; cases this
              refine ⟨_, ?_, n + 1, rfl, by omega, hM.trans k45, rfl, rfl, rfl, rfl, rfl, trivial⟩
              omega
            ·
              rw [show mayM (needsM N) y n = true by simpa using h5]
              refine sG rfl rfl ?_
              refine sMv (v := .slice _ _ _) rfl ?_
              refine sG rfl rfl ?_
              refine sMv (v := nv _) rfl ?_
              refine sG rfl rfl ?_
              refine sMv (v := nv _) rfl ?_
              refine sG rfl rfl ?_
              refine sBin (a := 1) (b := n) rfl rfl (aInt_shl (by omega)) ?_
              rw [Nat.shiftLeft_eq, Nat.one_mul]
              refine sG rfl rfl ?_
              refine sBin rfl rfl (aInt_xor (by omega)) ?_
              refine sG rfl rfl ?_
              refine sIx T25 S3 rfl rfl hnx2 ?_
              refine sG rfl rfl ?_
              refine sLd (v := .int .i64 (distE es (y ^^^ 2 ^ n))) A3 rfl gg45 (x1 _ _ (distL_get hnx2)) ?_
              refine sG rfl rfl ?_
              refine sMv (v := .slice _ _ _) rfl ?_
              refine sG rfl rfl ?_
              refine sMv (v := nv _) rfl ?_
              refine sG rfl rfl ?_
              refine sIx T25 S3 rfl rfl hyl ?_
              refine sG rfl rfl ?_
              refine sLd (v := nv (d + 1)) A3 rfl gg45 (x1 y (Int.ofNat (d + 1)) (by rw [distL_get hyl, distE_some hd])) ?_
              refine sG rfl rfl ?_
              refine sBin (v := nv d) rfl rfl (aInt_sub (b := 1) (by omega)) ?_
              refine sG rfl rfl ?_
              refine sBinI (v := .bool (decide (distE es (y ^^^ 2 ^ n) ≠ Int.ofNat d))) rfl rfl aInt_neqI ?_
              refine sP (v := .bool _) rfl ?_
              refine sNil (kSeqN ?_)
              refine cCond (p := distE es (y ^^^ 2 ^ n) ≠ Int.ofNat d) rfl (fun c6 => ?_) (fun c6 => ?_)
              ·
                refine cSkip (kSeqN ?_)
                refine cBlock ?_
                refine cRegion ?_
                refine sMv (v := nv _) rfl ?_
                refine sBin rfl rfl (aInt_add (b := 1) (by omega)) ?_
                refine sAs (v := nv _) rfl ?_
                refine sNil (kBlkN (kSeqN ?_))
                have hne : n ≠ nx := fun e => by subst e; exact c6 (distE_iff.2 hhit.2)
                refine ⟨_, ?_, n + 1, rfl, by omega, hM.trans k45, rfl, rfl, rfl, rfl, rfl, trivial⟩
                omega
              ·
                have hld : lookE es (y ^^^ 2 ^ n) = some d := distE_iff.1 (Decidable.not_not.1 c6)
                obtain rfl : n = nx := by
                  refine Decidable.byContradiction fun hne => ?_
                  have := hn3 n (by omega)
                  rw [hitB, wayB, show mayM (needsM N) y n = true by simpa using h5, decide_eq_true (hbfs.pop _ (lookE_mem hld)), decide_eq_true hld] at this
                  cases this
                have kM := hM.trans k45
                have hO' := hO.ext kM
                refine cExit (kSeqE (kSeqE (kBlkS (kSeqN ?_))))
                refine cSeq ?_
                refine cRegion ?_
                refine sMv (v := .slice _ _ _) rfl ?_
                refine sMv (v := nv _) rfl ?_
                refine sBuildS T25 S3 Z3 (by decide) (by decide) (by decide) (by kernel_rfl) fill1 rfl ?_
                refine sApp App25 rfl rfl (N := m32.size) (hO'.ext (.push _ _)) one_ints (by have := kM.1; have := hLo.1; simp; omega) (by simp; omega) fun v3 m3 hO3 hL3 => ?_
                rw [show ofs L ++ [Int.ofNat n] = ofs (L ++ [n]) by rw [ofs_append]; rfl] at hO3
                obtain ⟨q3, cp3, rfl⟩ := hO3.ints.lenN
                refine sAs (v := .slice _ _ _) rfl ?_
                refine sNil (kSeqN ?_)
                refine cRegion ?_
                refine sMv (v := nv _) rfl ?_
                refine sMv (v := nv _) rfl ?_
                refine sBin (a := 1) (b := n) rfl rfl (aInt_shl (by omega)) ?_
                rw [Nat.shiftLeft_eq, Nat.one_mul]
                refine sBin rfl rfl (aInt_xor (by omega)) ?_
                refine sAs (v := nv _) rfl ?_
                refine sNil (kBlkN (kSeqN ?_))
                refine ⟨d, by omega, d, y ^^^ 2 ^ n, L ++ [n], _, rfl, hhit.2, by rw [hpath, List.append_assoc]; rfl, (hLo.trans_ext kM hLo.1).trans ((Low.push _ (by have := kM.1; have := hLo.1; omega) _).trans hL3), hO3, rfl, rfl, rfl, rfl, trivial⟩
          ·
            refine cExit (kSeqE (kSeqE (kBlkS (kSeqN ?_))))
            refine cSeq ?_
            refine cRegion ?_
            refine sMv (v := .slice _ _ _) rfl ?_
            refine sAs (v := .slice _ _ _) rfl ?_
            refine sAs (v := nv 0) rfl ?_
            refine sNil (kSeqN ?_)
            refine cRet ?_
            obtain rfl : k' = 0 := by omega
            rw [pathF, List.append_nil] at hpath
            rw [hpath]
            exact ⟨.inr rfl, _, rfl, _, rfl, hO.mono e32.1, e32.trans hE'⟩

theorem okf21 : okF Tryd.prog H0 21 58 = true := by kernel_rfl
theorem spec_refTrade {m : Mem} {s a : Value} {G : List (List Int)} {gs : List Int} (hG : RowsAt m s G) (ha : IntsAt m a gs) (hl : gs.length < 1000000) : ∃ v m', ACalls Tryd.prog 21 #[.agg #[s], a] m v m' ∧ (∃ w, v = .tuple #[w, nv (withE G gs)] ∧ OwnC m.size m' w 2 (ifOk (withE G gs) (tradeG G gs) []).length (cellsP (ifOk (withE G gs) (tradeG G gs) [])) ∧ Ext m m') := by
  obtain ⟨q, cap, rfl⟩ := hG.len
  obtain ⟨qg, cg, rfl⟩ := ha.len
  have he : Ext m (m.push (.cells true #[.slice q G.length cap])) := .push _ _
  refine wpF (args := [_, _]) mixed okf21 (fn := Tryd.f21) rfl rfl rfl (by simp) ?_
  refine cSeq ?_
  refine cRegion ?_
  refine sBox (v := .agg _) rfl ?_
  refine sAs (v := .slice _ _ _) rfl ?_
  refine sAs (v := nv 0) rfl ?_
  refine sNil (kSeqN ?_)
  refine cSeq ?_
  refine cRegion ?_
  refine sLdAll A24 S24 rfl (gP rfl) rfl ?_
  refine sMv (v := .slice _ _ _) rfl ?_
  obtain ⟨v16, m16, h16, rfl, k16⟩ := spec_goaled (hG.ext he) (ha.ext he) hl
  have e16 : Ext m m16 := he.trans k16
  have g16 : Mem.get m16 m.size = .cells true #[.slice q G.length cap] := k16.cells (gP rfl)
  refine sCall2 rfl call60 rfl rfl h16 ?_
  refine sMv (v := .tuple _) rfl ?_
  refine sP (v := nv _) rfl ?_   -- extract ['t11', '0']
  refine sP (v := nv _) rfl ?_   -- extract ['t11', '1']
  refine sAs (v := nv _) rfl ?_
  refine sAs (v := nv _) rfl ?_
  refine sNil (kSeqN ?_)
  refine cSeq ?_   -- seq 2
  refine cSeq ?_
  refine cRegion ?_
  refine sMv (v := nv _) rfl ?_
  refine sBin (b := 0) rfl rfl aInt_neq ?_
  refine sNil (kSeqN ?_)
  refine cCond rfl (fun c0 => ?_) (fun c0 => ?_)
  ·
    refine cSeq ?_
    refine cRegion ?_
    refine sMv (v := nv _) rfl ?_
    refine sAs (v := .slice _ _ _) rfl ?_
    refine sAs (v := nv _) rfl ?_
    refine sNil (kSeqN ?_)
    refine cRet (kSeqR ?_)
    exact ⟨.inr rfl, _, rfl, _, rfl, by rw [ifOk_n c0 (tradeG G gs)]; exact .nil _ _ _, e16⟩
  ·
    have h0 := Decidable.not_not.1 c0
    obtain ⟨N, g, rfl, hN, rfl, hg⟩ := withE_nat h0
    rw [ifOk_0 h0, ifOk_0 h0, nats_ofs]
    have h10 := hN.ten
    have h1 := hN.one
    have hpl : (needsM N).length = N.length := needsM_length N
    have hpo := noPos hg
    have htg : tradeG (ofs2 N) (ofs g) = tradeF (needsM N) (posM g) N.length := by rw [tradeG, natsG_ofs2, nats_ofs, ofs2_length]
    rw [htg]
    refine cSkip (kSeqN ?_)
    refine cSeq ?_
    refine cRegion ?_
    refine sAs (v := .slice _ _ _) rfl ?_
    refine sNil (kSeqN ?_)
    refine cSeq ?_
    refine cSeq ?_
    refine cRegion ?_
    refine sAs (v := nv 1) rfl ?_
    refine sNil (kSeqN ?_)
    refine cBlock ?_
    refine wpC_loop (fun k' ρ m' => ∃ k w, k' = N.length - k ∧ k ≤ N.length ∧ Low m16.size m16 m' ∧ OwnC m16.size m' w 2 (tradeF (needsM N) (posM g) k).length (cellsP (tradeF (needsM N) (posM g) k)) ∧ Has ρ [(2, .pointer (some ⟨m.size, 0, none⟩)), (6, nv (posM g)), (8, w), (9, nv (k + 1))]) ⟨0, _, rfl, Nat.zero_le _, .refl _ _, .nil _ _ _, rfl, rfl, rfl, rfl, trivial⟩ ?_
    rintro k' ρ m' ⟨k, w, rfl, hk, hLo, hO, hh⟩
    obtain ⟨qw, cw, rfl⟩ := hO.len
    rw [hh.env]; clear hh
    have hE : Ext m16 m' := Low.to_ext (.refl _) hLo (Nat.le_refl _)
    have g6 := hE.cells g16
    have htl := tradeF_len (needsM N) (posM g) k
    refine cSeq ?_   -- seq 8
    refine cSeq ?_
    refine cRegion ?_
    refine sMv (v := nv _) rfl ?_
    refine sFA F24_0 rfl ?_
    refine sLd A22 rfl (by simp (disch := first | omega | (simp only [Array.size_push, Array.size_setIfInBounds]; done) | (simp only [Array.size_push, Array.size_setIfInBounds]; omega)) only [gP, gPn, gS, gSn, g6]; try rfl) rfl ?_
    refine sLen T22 rfl ?_
    refine sBin (a := k + 1) (b := (ofs2 N).length) rfl rfl aInt_leq ?_
    refine sNil (kSeqN ?_)
    refine cCond rfl (fun c1 => ?_) (fun c1 => ?_)
    ·
      rw [ofs2_length] at c1
      refine cSkip (kSeqN ?_)
      refine cSeq ?_
      refine cBlock ?_
      refine cSeq ?_
      refine cRegion ?_
      refine sLdAll A24 S24 rfl g6 rfl ?_
      refine sMv (v := nv _) rfl ?_
      refine sMv (v := nv _) rfl ?_
      obtain ⟨v30, m30, h30, o30, k30⟩ := spec_refFar (hG.ext (e16.trans hE)) hN hpo (k := k + 1) (by omega)
      obtain ⟨b1, o1, p1, r1, cc, e1, gg, x1⟩ := o30.ints.at (by rw [distL_len]; exact Nat.two_pow_pos _)
      subst e1
      refine sCall3 rfl call61 rfl rfl rfl h30 ?_
      have hO30 := hO.ext k30
      have hz30 := k30.1
      refine sIx (i := 0) T25 S3 rfl rfl (by rw [distL_len]; exact Nat.two_pow_pos _) ?_
      refine sLd (v := .int .i64 (distE (farM (needsM N) (k + 1) (posM g)) 0)) A3 rfl gg (x1 0 _ (distL_get (Nat.two_pow_pos _))) ?_
      refine sAs (v := .int _ _) rfl ?_
      refine sNil (kSeqN ?_)
      refine cSeq ?_
      refine cRegion ?_
      refine sMv (v := .int _ _) rfl ?_
      refine sBinI (v := .bool (isShort (needsM N) (k + 1) (posM g))) rfl rfl (by rw [← geq_short]; rfl) ?_
      refine sMv (v := .bool _) rfl ?_
      by_cases hS : isShort (needsM N) (k + 1) (posM g) = true
      ·
        rw [hS, short_dist hS]
        refine sG rfl rfl ?_
        refine sMv (v := .slice _ _ _) rfl ?_
        refine sG rfl rfl ?_
        refine sLen T35 rfl ?_
        refine sG rfl rfl ?_
        refine sBin (a := (tradeF (needsM N) (posM g) k).length) (b := 0) rfl rfl aInt_eql ?_
        refine sG rfl rfl ?_
        refine sMv (v := .bool _) rfl ?_
        by_cases hz : (tradeF (needsM N) (posM g) k).length = 0
        ·
          rw [decide_eq_true hz]
          refine sGno (q' := true) rfl rfl (by simp) ?_
          refine sGno (q' := true) rfl rfl (by simp) ?_
          refine sGno (q' := true) rfl rfl (by simp) ?_
          refine sGno (q' := true) rfl rfl (by simp) ?_
          refine sGno (q' := true) rfl rfl (by simp) ?_
          refine sGno (q' := true) rfl rfl (by simp) ?_
          refine sGno (q' := true) rfl rfl (by simp) ?_
          refine sGno (q' := true) rfl rfl (by simp) ?_
          refine sGno (q' := true) rfl rfl (by simp) ?_
          refine sG rfl rfl ?_
          refine sP (v := .bool _) rfl ?_
          refine sP (v := .bool _) rfl ?_
          refine sNil (kSeqN ?_)
          refine cCondT rfl ?_
          refine cRegion ?_
          refine sMv (v := .slice _ _ _) rfl ?_
          refine sMv (v := nv _) rfl ?_
          refine sMv (v := nv (shortM (needsM N) (k + 1) (posM g)).length) rfl ?_
          refine sBuild B40 ?_
          refine sBuildS T35 S40 Z40 (by decide) (by decide) (by decide) (by kernel_rfl) fillA2 rfl ?_
          refine sAppC El35 rfl rfl (N := m16.size) (n := (tradeF (needsM N) (posM g) k).length) (cs := cellsP (tradeF (needsM N) (posM g) k)) (d := #[nv (k + 1), nv (shortM (needsM N) (k + 1) (posM g)).length]) (hO30.ext (.push _ _)) (gP rfl) rfl (by kernel_rfl) (by have := hLo.1; simp; omega) (by omega) fun v' m4 hO4 hL4 hG4 => ?_
          have hLo4 : Low m16.size m16 m4 := hLo.trans ((Low.of_ext k30 hLo.1).trans ((Low.push _ (by have := hLo.1; omega) _).trans hL4))
          obtain ⟨q4, cp4, rfl⟩ := hO4.len
          refine sAs (v := .slice _ _ _) rfl ?_
          refine sNil (kBlkN (kSeqN ?_))
          refine cRegion ?_
          refine sMv (v := nv _) rfl ?_
          refine sBin rfl rfl (aInt_add (b := 1) (by omega)) ?_
          refine sAs (v := nv _) rfl ?_
          refine sNil (kSeqN ?_)
          have ht : tradeF (needsM N) (posM g) (k + 1) = tradeF (needsM N) (posM g) k ++ [(k + 1, (shortM (needsM N) (k + 1) (posM g)).length)] := by rw [tradeF, if_pos ⟨hS, .inl hz⟩]
          refine ⟨_, ?_, k + 1, _, rfl, by omega, hLo4, by rw [ht, cellsP_append, List.length_append]; exact hO4, rfl, rfl, rfl, rfl, trivial⟩
          omega
        ·
          rw [decide_eq_false hz]
          refine sG rfl rfl ?_
          refine sMv (v := nv (shortM (needsM N) (k + 1) (posM g)).length) rfl ?_
          refine sG rfl rfl ?_
          refine sMv (v := .slice _ _ _) rfl ?_
          refine sG rfl rfl ?_
          refine sMv (v := .slice _ _ _) rfl ?_
          refine sG rfl rfl ?_
          refine sLen T35 rfl ?_
          refine sG rfl rfl ?_
          refine sBin (b := 1) rfl rfl (aInt_sub (b := 1) (by omega)) ?_
          refine sG rfl rfl ?_
          obtain ⟨bw, capw, cc2, hq, hbw, hcw, hcs, hcg⟩ := hO30.at (by omega)
          cases hq
          refine sIx T35 S40 rfl rfl (by omega) ?_
          refine sG rfl rfl ?_
          refine sIxA (i := 1) T40 S3 rfl rfl (by omega) ?_
          refine sG rfl rfl ?_
          obtain ⟨pl, hpl2⟩ : ∃ pl, (tradeF (needsM N) (posM g) k)[(tradeF (needsM N) (posM g) k).length - 1]? = some pl := ⟨_, List.getElem?_eq_getElem (by omega)⟩
          have hlast : (tradeF (needsM N) (posM g) k).getLastD (0, 0) = pl := by rw [List.getLastD_eq_getLast?, List.getLast?_eq_getElem?, hpl2]; rfl
          refine sLd (v := nv pl.2) A3 rfl hcw (by
            show cc2[0 + ((tradeF (needsM N) (posM g) k).length - 1) * 2 + 1 * 1]? = _
            rw [Nat.zero_add, Nat.one_mul, hcg _ (by omega)]; exact (cellsP_get hpl2).2) ?_
          refine sG rfl rfl ?_
          refine sBin (a := (shortM (needsM N) (k + 1) (posM g)).length) (b := pl.2) rfl rfl aInt_lss ?_
          refine sG rfl rfl ?_
          refine sP (v := .bool _) rfl ?_
          refine sP (v := .bool _) rfl ?_
          refine sNil (kSeqN ?_)
          refine cCond (p := (shortM (needsM N) (k + 1) (posM g)).length < pl.2) rfl (fun c3 => ?_) (fun c3 => ?_)
          ·
            refine cRegion ?_
            refine sMv (v := .slice _ _ _) rfl ?_
            refine sMv (v := nv _) rfl ?_
            refine sMv (v := nv (shortM (needsM N) (k + 1) (posM g)).length) rfl ?_
            refine sBuild B40 ?_
            refine sBuildS T35 S40 Z40 (by decide) (by decide) (by decide) (by kernel_rfl) fillA2 rfl ?_
            refine sAppC El35 rfl rfl (N := m16.size) (n := (tradeF (needsM N) (posM g) k).length) (cs := cellsP (tradeF (needsM N) (posM g) k)) (d := #[nv (k + 1), nv (shortM (needsM N) (k + 1) (posM g)).length]) (hO30.ext (.push _ _)) (gP rfl) rfl (by kernel_rfl) (by have := hLo.1; simp; omega) (by omega) fun v' m4 hO4 hL4 hG4 => ?_
            have hLo4 : Low m16.size m16 m4 := hLo.trans ((Low.of_ext k30 hLo.1).trans ((Low.push _ (by have := hLo.1; omega) _).trans hL4))
            obtain ⟨q4, cp4, rfl⟩ := hO4.len
            refine sAs (v := .slice _ _ _) rfl ?_
            refine sNil (kBlkN (kSeqN ?_))
            refine cRegion ?_
            refine sMv (v := nv _) rfl ?_
            refine sBin rfl rfl (aInt_add (b := 1) (by omega)) ?_
            refine sAs (v := nv _) rfl ?_
            refine sNil (kSeqN ?_)
            have ht : tradeF (needsM N) (posM g) (k + 1) = tradeF (needsM N) (posM g) k ++ [(k + 1, (shortM (needsM N) (k + 1) (posM g)).length)] := by rw [tradeF, if_pos ⟨hS, .inr (by rw [hlast]; exact c3)⟩]
            refine ⟨_, ?_, k + 1, _, rfl, by omega, hLo4, by rw [ht, cellsP_append, List.length_append]; exact hO4, rfl, rfl, rfl, rfl, trivial⟩
            omega
          ·
            refine cSkip (kBlkN (kSeqN ?_))
            refine cRegion ?_
            refine sMv (v := nv _) rfl ?_
            refine sBin rfl rfl (aInt_add (b := 1) (by omega)) ?_
            refine sAs (v := nv _) rfl ?_
            refine sNil (kSeqN ?_)
            have hnn : ¬ (isShort (needsM N) (k + 1) (posM g) = true ∧ ((tradeF (needsM N) (posM g) k).length = 0 ∨ (shortM (needsM N) (k + 1) (posM g)).length < ((tradeF (needsM N) (posM g) k).getLastD (0, 0)).2)) := fun h => h.2.elim hz fun h => c3 (by rw [hlast] at h; exact h)
            have ht : tradeF (needsM N) (posM g) (k + 1) = tradeF (needsM N) (posM g) k := by rw [tradeF, if_neg hnn]
            refine ⟨_, ?_, k + 1, _, rfl, by omega, hLo.trans (Low.of_ext k30 hLo.1), by rw [ht]; exact hO30, rfl, rfl, rfl, rfl, trivial⟩
            omega
      ·
        rw [show isShort (needsM N) (k + 1) (posM g) = false by simpa using hS]
        refine sGno (q' := false) rfl rfl (by simp) ?_
        refine sGno (q' := false) rfl rfl (by simp) ?_
        refine sGno (q' := false) rfl rfl (by simp) ?_
        refine sGno (q' := false) rfl rfl (by simp) ?_
        refine sGnoU rfl rfl ?_
        refine sGnoU rfl rfl ?_
        refine sGnoU rfl rfl ?_
        refine sGnoU rfl rfl ?_
        refine sGnoU rfl rfl ?_
        refine sGnoU rfl rfl ?_
        refine sGnoU rfl rfl ?_
        refine sGnoU rfl rfl ?_
        refine sGnoU rfl rfl ?_
        refine sGno (q' := false) rfl rfl (by simp) ?_
        refine sP (v := .bool _) rfl ?_
        refine sNil (kSeqN ?_)
        refine cCondF rfl ?_
        refine cSkip (kBlkN (kSeqN ?_))
        refine cRegion ?_
        refine sMv (v := nv _) rfl ?_
        refine sBin rfl rfl (aInt_add (b := 1) (by omega)) ?_
        refine sAs (v := nv _) rfl ?_
        refine sNil (kSeqN ?_)
        have ht : tradeF (needsM N) (posM g) (k + 1) = tradeF (needsM N) (posM g) k := by rw [tradeF, if_neg (fun h => hS h.1)]
        refine ⟨_, ?_, k + 1, _, rfl, by omega, hLo.trans (Low.of_ext k30 hLo.1), by rw [ht]; exact hO30, rfl, rfl, rfl, rfl, trivial⟩
        omega
    ·
      refine cExit (kSeqE (kSeqE (kBlkS (kSeqN ?_))))
      refine cSeq ?_
      refine cRegion ?_
      refine sMv (v := .slice _ _ _) rfl ?_
      refine sAs (v := .slice _ _ _) rfl ?_
      refine sAs (v := nv 0) rfl ?_
      refine sNil (kSeqN ?_)
      refine cRet ?_
      rw [ofs2_length] at c1
      obtain rfl : k = N.length := by omega
      exact ⟨.inr rfl, _, rfl, _, by rw [h0]; rfl, hO.mono e16.1, e16.trans hE⟩

theorem okf26 : okF Tryd.prog H0 26 38 = true := by kernel_rfl
theorem spec_refClosed {m : Mem} {s : Value} {G : List (List Int)} {k : Int} (hG : RowsAt m s G) : ∃ v m', ACalls Tryd.prog 26 #[.agg #[s], .int .i64 k] m v m' ∧ (∃ w, v = .tuple #[w, nv (closedE G k)] ∧ OwnF m.size m' w (ofs (ifOk (closedE G k) (closedG G k) [])) ∧ Ext m m') := by
  obtain ⟨q, cap, rfl⟩ := hG.len
  have he : Ext m (m.push (.cells true #[.slice q G.length cap])) := .push _ _
  unfold closedE
  refine wpF (args := [_, _]) mixed okf26 (fn := Tryd.f26) rfl rfl rfl (by simp) ?_
  refine cSeq ?_
  refine cRegion ?_
  refine sBox (v := .agg _) rfl ?_
  refine sAs (v := .slice _ _ _) rfl ?_
  refine sAs (v := nv 0) rfl ?_
  refine sNil (kSeqN ?_)
  refine cSeq ?_
  refine cSeq ?_
  refine cRegion ?_
  refine sLdAll A24 S24 rfl (gP rfl) rfl ?_
  obtain ⟨v12, m12, h12, rfl, k12⟩ := spec_refCheck (hG.ext he)
  have e12 : Ext m m12 := he.trans k12
  have g12 : Mem.get m12 m.size = .cells true #[.slice q G.length cap] := k12.cells (gP rfl)
  refine sCall1 rfl call41 rfl h12 ?_
  refine sAs (v := nv _) rfl ?_
  refine sNil (kSeqN ?_)
  refine cSeq ?_
  refine cRegion ?_
  refine sMv (v := nv _) rfl ?_
  refine sBin (b := 0) rfl rfl aInt_neq ?_
  refine sNil (kSeqN ?_)
  refine cCond rfl (fun c0 => ?_) (fun c0 => ?_)
  ·
    refine cSeq ?_
    refine cRegion ?_
    refine sMv (v := nv _) rfl ?_
    refine sAs (v := .slice _ _ _) rfl ?_
    refine sAs (v := nv _) rfl ?_
    refine sNil (kSeqN ?_)
    refine cRet (kSeqR ?_)
    exact ⟨.inr rfl, _, rfl, _, by rw [if_neg c0]; rfl, by rw [if_neg c0, ifOk_n c0]; exact .nil _ _, e12⟩
  ·
    have h0 := Decidable.not_not.1 c0
    rw [if_pos h0]
    obtain ⟨N, rfl, hN⟩ := checkG_nat h0
    refine cSkip (kSeqN ?_)
    refine cSeq ?_   -- seq 5
    refine cSeq ?_
    refine cRegion ?_
    refine sMv (v := .int _ _) rfl ?_
    refine sBinI (v := .bool (decide (k < 0))) rfl rfl rfl ?_
    refine sMv (v := .bool _) rfl ?_
    by_cases h1 : k < 0
    ·
      rw [decide_eq_true h1]
      refine sGno (q' := true) rfl rfl (by simp) ?_
      refine sGno (q' := true) rfl rfl (by simp) ?_
      refine sP (v := .bool _) rfl ?_
      refine sNil (kSeqN ?_)
      refine cCondT rfl ?_
      refine cSeq ?_
      refine cRegion ?_
      refine sAs (v := .slice _ _ _) rfl ?_
      refine sAs (v := nv 3) rfl ?_
      refine sNil (kSeqN ?_)
      refine cRet (kSeqR ?_)
      exact ⟨.inr rfl, _, rfl, _, by rw [if_pos (.inl h1)]; rfl, by rw [if_pos (.inl h1), ifOk_n (by decide)]; exact .nil _ _, e12⟩
    ·
      rw [decide_eq_false h1]
      refine sG rfl rfl ?_
      refine sMv (v := .int _ _) rfl ?_
      refine sG rfl rfl ?_
      refine sBinI (v := .bool (decide (k > 10))) rfl rfl rfl ?_
      refine sP (v := .bool _) rfl ?_
      refine sNil (kSeqN ?_)
      refine cCond (p := k > 10) rfl (fun c2 => ?_) (fun c2 => ?_)
      ·
        refine cSeq ?_
        refine cRegion ?_
        refine sAs (v := .slice _ _ _) rfl ?_
        refine sAs (v := nv 3) rfl ?_
        refine sNil (kSeqN ?_)
        refine cRet (kSeqR ?_)
        exact ⟨.inr rfl, _, rfl, _, by rw [if_pos (.inr c2)]; rfl, by rw [if_pos (.inr c2), ifOk_n (by decide)]; exact .nil _ _, e12⟩
      ·
        rw [if_neg (by omega)]
        obtain ⟨K, rfl⟩ : ∃ K : Nat, k = Int.ofNat K := ⟨k.toNat, by simp; omega⟩
        have hK : K ≤ 10 := by simp at c2; omega
        rw [ifOk_0 rfl, closedG, natsG_ofs2, ofs2_length, show (Int.ofNat K).toNat = K from rfl]
        have h10 := hN.ten
        have hp10 : 2 ^ N.length ≤ 2 ^ 10 := Nat.pow_le_pow_right (by omega) h10
        have hp1 := Nat.two_pow_pos N.length
        refine cSkip (kSeqN ?_)
        refine cSeq ?_
        refine cRegion ?_
        refine sAs (v := .slice _ _ _) rfl ?_
        refine sNil (kSeqN ?_)
        refine cSeq ?_
        refine cSeq ?_
        refine cRegion ?_
        refine sLdAll A24 S24 rfl g12 rfl ?_
        refine sMv (v := nv K) rfl ?_
        obtain ⟨v32, m32, h32, o32, k32⟩ := spec_refFar (hG.ext e12) hN (x0 := 0) (k := K) hp1 (by omega)
        have e32 := e12.trans k32
        obtain ⟨b1, o1, p1, r1, cc, e1, gg, x1⟩ := o32.ints.at (by rw [distL_len]; exact hp1)
        subst e1
        refine sCall3 rfl call61 rfl rfl rfl h32 ?_
        rw [distL_len] at *
        generalize hes : farM (needsM N) K 0 = es at *
        refine sLen T25 rfl ?_
        refine sMv (v := nv 0) rfl ?_
        refine sNil (kSeqN ?_)
        refine cBlock ?_
        refine wpC_loop (fun k' ρ m' => ∃ i v, k' = 2 ^ N.length - i ∧ i ≤ 2 ^ N.length ∧ Low m32.size m32 m' ∧ OwnF m32.size m' v (ofs (closedUp es i)) ∧ Has ρ [(7, v), (23, .slice (some ⟨b1, o1, some 1⟩) (2 ^ N.length) p1), (24, nv (2 ^ N.length)), (25, nv i)]) ⟨0, _, rfl, Nat.zero_le _, .refl _ _, .nil _ _, rfl, rfl, rfl, rfl, trivial⟩ ?_
        rintro k' ρ m' ⟨i, v, rfl, hi, hLo, hO, hh⟩
        obtain ⟨qv, cv, rfl⟩ := hO.ints.lenN
        rw [hh.env]; clear hh
        have hlen := closedUp_len es i
        have gg' : Mem.get m' b1 = .cells r1 cc := (Low.to_ext (.refl _) hLo (Nat.le_refl _)).cells gg
        refine cSeq ?_
        refine cRegion ?_
        refine sBin rfl rfl (aInt_lss) ?_
        refine sNil (kSeqN ?_)
        refine cSeq ?_   -- seq 13
        refine cCond rfl (fun c3 => ?_) (fun c3 => ?_)
        ·
          refine cSkip (kSeqN ?_)
          refine cSeq ?_
          refine cBlock ?_
          refine cSeq ?_
          refine cRegion ?_
          refine sMv (v := nv _) rfl ?_
          refine sIx T25 S3 rfl rfl c3 ?_
          refine sLd (v := .int .i64 (distE es i)) A3 rfl gg' (x1 i _ (distL_get c3)) ?_
          refine sAs (v := nv _) rfl ?_
          refine sAs (v := .int _ _) rfl ?_
          refine sNil (kSeqN ?_)
          refine cSeq ?_
          refine cRegion ?_
          refine sMv (v := .int _ _) rfl ?_
          refine sBinI (v := .bool (lookE es i).isSome) rfl rfl (by rw [← geq_look]; rfl) ?_
          refine sNil (kSeqN ?_)
          refine cCond (p := (lookE es i).isSome = true) (by show Value.bool _ = Value.bool _; rw [Bool.decide_eq_true]) (fun c4 => ?_) (fun c4 => ?_)
          ·
            refine cRegion ?_
            refine sMv (v := .slice _ _ _) rfl ?_
            refine sMv (v := nv _) rfl ?_
            refine sBuildS T25 S3 Z3 (by decide) (by decide) (by decide) (by kernel_rfl) fill1 rfl ?_
            refine sApp App25 rfl rfl (N := m32.size) (hO.ext (.push _ _)) one_ints (by have := hLo.1; simp; omega) (by simp; omega) fun v3 m3 hO3 hL3 => ?_
            have hI3 := hO3.ints
            obtain ⟨q3, cp3, rfl⟩ := hI3.len
            refine sAs (v := .slice _ _ _) rfl ?_
            refine sNil (kBlkN (kSeqN ?_))
            refine cRegion ?_
            refine sBin rfl rfl (aInt_add (b := 1) (by omega)) ?_
            refine sMv (v := nv _) rfl ?_
            refine sNil (kSeqN ?_)
            refine ⟨_, ?_, i + 1, _, rfl, by omega, hLo.trans ((Low.push _ hLo.1 _).trans hL3), by rw [closedUp_succ, if_pos c4, ofs_append]; exact hO3, rfl, rfl, rfl, rfl, trivial⟩
            omega
          ·
            refine cSkip (kBlkN (kSeqN ?_))
            refine cRegion ?_
            refine sBin rfl rfl (aInt_add (b := 1) (by omega)) ?_
            refine sMv (v := nv _) rfl ?_
            refine sNil (kSeqN ?_)
            refine ⟨_, ?_, i + 1, _, rfl, by omega, hLo, by rw [closedUp_succ, if_neg c4, List.append_nil]; exact hO, rfl, rfl, rfl, rfl, trivial⟩
            omega
        ·
          refine cExit (kSeqE (kSeqE (kBlkS (kSeqN ?_))))
          refine cSeq ?_
          refine cRegion ?_
          refine sMv (v := .slice _ _ _) rfl ?_
          refine sAs (v := .slice _ _ _) rfl ?_
          refine sAs (v := nv 0) rfl ?_
          refine sNil (kSeqN ?_)
          refine cRet ?_
          obtain rfl : i = 2 ^ N.length := by omega
          exact ⟨.inr rfl, _, rfl, _, rfl, hO.mono e32.1, Low.to_ext e32 hLo (by have := e32.1; omega)⟩

end Go.AM

/-! ### P31 -/
namespace Go.AM
open Go.Proofs
set_option maxRecDepth 100000
set_option linter.unusedVariables false
set_option linter.unusedSimpArgs false
theorem risingB_iff {l : List Nat} : (risingB l && apartB l) = true ↔ ∀ i, i + 1 < l.length → l.getD i 0 < l.getD (i + 1) 0 := by
  rw [Bool.and_eq_true, risingB, apartB, List.all_eq_true, List.all_eq_true]
  constructor
  · rintro ⟨h1, h2⟩ i hi
    have a := of_decide_eq_true (h1 i (List.mem_range.2 (by omega)))
    have b := of_decide_eq_true (h2 i (List.mem_range.2 (by omega)))
    omega
  · intro h
    refine ⟨fun i hi => ?_, fun i hi => ?_⟩
    · have := h i (by have := List.mem_range.1 hi; omega)
      exact decide_eq_true (by omega)
    · have := h i (by have := List.mem_range.1 hi; omega)
      exact decide_eq_true (by omega)
theorem showsB_not1 {P : List Nat} {g k : Nat} {ps : List Nat} {j : Nat} (hj : j + 1 < ps.length) (h : ps.getD (j + 1) 0 ≤ ps.getD j 0) : showsB P g k ps = false := by
  rw [Bool.eq_false_iff]
  intro hs
  unfold showsB at hs
  rw [Bool.and_eq_true, Bool.and_eq_true] at hs
  have := risingB_iff.1 hs.1.1 j hj
  omega
theorem showsB_not2 {P : List Nat} {g k : Nat} {ps : List Nat} (h : (decide (0 ∈ ps) && !decide (g ∈ ps)) = false) : showsB P g k ps = false := by
  unfold showsB
  rw [h, Bool.and_false, Bool.false_and]
theorem tosM_mem {P : List Nat} {k x n i : Nat} (hi : i < n) (hw : wayB P k x i = true) : x ^^^ 2 ^ i ∈ tosM P k x n :=
  List.mem_map.2 ⟨i, List.mem_filter.2 ⟨List.mem_range.2 hi, hw⟩, rfl⟩
theorem showsB_not3 {P : List Nat} {g k x i : Nat} {ps : List Nat} (hx : x ∈ ps) (hi : i < P.length) (hw : wayB P k x i = true) (hn : ¬ x ^^^ 2 ^ i ∈ ps) : showsB P g k ps = false := by
  rw [Bool.eq_false_iff]
  intro hs
  unfold showsB at hs
  rw [Bool.and_eq_true] at hs
  have := hs.2
  unfold closedB at this
  have := List.all_eq_true.1 (List.all_eq_true.1 this x hx) _ (tosM_mem hi hw)
  exact hn (of_decide_eq_true this)
theorem showsB_yes {P : List Nat} {g k : Nat} {ps : List Nat} (h1 : ∀ i, i + 1 < ps.length → ps.getD i 0 < ps.getD (i + 1) 0) (h2 : 0 ∈ ps) (h3 : ¬ g ∈ ps) (h4 : ∀ x ∈ ps, ∀ i, i < P.length → wayB P k x i = true → x ^^^ 2 ^ i ∈ ps) : showsB P g k ps = true := by
  unfold showsB
  rw [risingB_iff.2 h1, decide_eq_true h2, decide_eq_false h3]
  simp only [Bool.not_false, Bool.and_self, Bool.true_and]
  refine List.all_eq_true.2 fun x hx => List.all_eq_true.2 fun y hy => ?_
  obtain ⟨i, hi, rfl⟩ := List.mem_map.1 hy
  obtain ⟨hi1, hi2⟩ := List.mem_filter.1 hi
  exact decide_eq_true (h4 x hx i (List.mem_range.1 hi1) hi2)

theorem okf28 : okF Tryd.prog H0 28 109 = true := by kernel_rfl
theorem spec_refShows {m : Mem} {s a b : Value} {G : List (List Int)} {gs ps : List Int} {k : Int} (hG : RowsAt m s G) (ha : IntsAt m a gs) (hl : gs.length < 1000000) (hb : IntsAt m b ps) (hlp : ps.length < 1000000) : ∃ v m', ACalls Tryd.prog 28 #[.agg #[s], a, .int .i64 k, b] m v m' ∧ (v = .tuple #[.bool (showsG G gs k ps), nv (showsE G gs k ps)] ∧ Ext m m') := by
  obtain ⟨q, cap, rfl⟩ := hG.len
  obtain ⟨qg, cg, rfl⟩ := ha.len
  obtain ⟨qp, cp, rfl⟩ := hb.len
  have he : Ext m (m.push (.cells true #[.slice q G.length cap])) := .push _ _
  have hne : ∀ e, showsE G gs k ps = e → e ≠ 0 → showsG G gs k ps = false := fun e h1 h2 => by rw [showsG, h1, decide_eq_false h2]; rfl
  refine wpF (args := [_, _, _, _]) mixed okf28 (fn := Tryd.f28) rfl rfl rfl (by simp) ?_
  refine cSeq ?_
  refine cRegion ?_
  refine sBox (v := .agg _) rfl ?_
  refine sAs (v := .bool _) rfl ?_
  refine sAs (v := nv 0) rfl ?_
  refine sNil (kSeqN ?_)
  refine cSeq ?_
  refine cRegion ?_
  refine sLdAll A24 S24 rfl (gP rfl) rfl ?_
  refine sMv (v := .slice _ _ _) rfl ?_
  obtain ⟨v16, m16, h16, rfl, k16⟩ := spec_goaled (hG.ext he) (ha.ext he) hl
  have e16 : Ext m m16 := he.trans k16
  have g16 : Mem.get m16 m.size = .cells true #[.slice q G.length cap] := k16.cells (gP rfl)
  refine sCall2 rfl call60 rfl rfl h16 ?_
  refine sMv (v := .tuple _) rfl ?_
  refine sP (v := nv _) rfl ?_   -- extract ['t19', '0']
  refine sP (v := nv _) rfl ?_   -- extract ['t19', '1']
  refine sAs (v := nv _) rfl ?_
  refine sAs (v := nv _) rfl ?_
  refine sNil (kSeqN ?_)
  refine cSeq ?_   -- seq 2
  refine cSeq ?_
  refine cRegion ?_
  refine sMv (v := nv _) rfl ?_
  refine sBin (b := 0) rfl rfl aInt_neq ?_
  refine sNil (kSeqN ?_)
  refine cCond rfl (fun c0 => ?_) (fun c0 => ?_)
  ·
    refine cSeq ?_
    refine cRegion ?_
    refine sMv (v := nv _) rfl ?_
    refine sAs (v := .bool _) rfl ?_
    refine sAs (v := nv _) rfl ?_
    refine sNil (kSeqN ?_)
    refine cRet (kSeqR ?_)
    have hse : showsE G gs k ps = withE G gs := by rw [showsE, if_neg c0]
    exact ⟨.inr rfl, _, rfl, by rw [hne _ hse c0, hse]; rfl, e16⟩
  ·
    have h0 := Decidable.not_not.1 c0
    obtain ⟨N, g, rfl, hN, rfl, hg⟩ := withE_nat h0
    rw [ifOk_0 h0, nats_ofs]
    have h10 := hN.ten
    have h1 := hN.one
    have hpl : (needsM N).length = N.length := needsM_length N
    have hpo := noPos hg
    have hp10 : 2 ^ N.length ≤ 2 ^ 10 := Nat.pow_le_pow_right (by omega) h10
    have hp1 := Nat.two_pow_pos N.length
    have hse : showsE (ofs2 N) (ofs g) k ps = if (k < 0 ∨ 10 < k) ∨ ps.any (fun x => decide (x < 0 ∨ Int.ofNat (2 ^ N.length - 1) < x)) = true then 3 else 0 := by rw [showsE, if_pos h0, ofs2_length]
    refine cSkip (kSeqN ?_)
    refine cSeq ?_   -- seq 5
    refine cSeq ?_
    refine cRegion ?_
    refine sMv (v := .int _ _) rfl ?_
    refine sBinI (v := .bool (decide (k < 0))) rfl rfl rfl ?_
    refine sMv (v := .bool _) rfl ?_
    by_cases h2 : k < 0
    ·
      rw [decide_eq_true h2]
      refine sGno (q' := true) rfl rfl (by simp) ?_
      refine sGno (q' := true) rfl rfl (by simp) ?_
      refine sP (v := .bool _) rfl ?_
      refine sNil (kSeqN ?_)
      refine cCondT rfl ?_
      refine cSeq ?_
      refine cRegion ?_
      refine sAs (v := .bool _) rfl ?_
      refine sAs (v := nv 3) rfl ?_
      refine sNil (kSeqN ?_)
      refine cRet (kSeqR ?_)
      rw [if_pos (.inl (.inl h2))] at hse
      exact ⟨.inr rfl, _, rfl, by rw [hne _ hse (by decide), hse]; rfl, e16⟩
    ·
      rw [decide_eq_false h2]
      refine sG rfl rfl ?_
      refine sMv (v := .int _ _) rfl ?_
      refine sG rfl rfl ?_
      refine sBinI (v := .bool (decide (k > 10))) rfl rfl rfl ?_
      refine sP (v := .bool _) rfl ?_
      refine sNil (kSeqN ?_)
      refine cCond (p := k > 10) rfl (fun c2 => ?_) (fun c2 => ?_)
      ·
        refine cSeq ?_
        refine cRegion ?_
        refine sAs (v := .bool _) rfl ?_
        refine sAs (v := nv 3) rfl ?_
        refine sNil (kSeqN ?_)
        refine cRet (kSeqR ?_)
        rw [if_pos (.inl (.inr c2))] at hse
        exact ⟨.inr rfl, _, rfl, by rw [hne _ hse (by decide), hse]; rfl, e16⟩
      ·
        obtain ⟨K, rfl⟩ : ∃ K : Nat, k = Int.ofNat K := ⟨k.toNat, by simp; omega⟩
        have hK : K ≤ 10 := by simp at c2; omega
        refine cSkip (kSeqN ?_)
        refine cSeq ?_
        refine cSeq ?_
        refine cRegion ?_
        refine sMv (v := .slice _ _ _) rfl ?_
        refine sLen T25 rfl ?_
        refine sMv (v := nv 0) rfl ?_
        refine sNil (kSeqN ?_)
        refine cBlock ?_
        refine wpC_loop (fun k' ρ m' => ∃ i, k' = ps.length - i ∧ i ≤ ps.length ∧ (∀ j u, j < i → ps[j]? = some u → 0 ≤ u ∧ u < Int.ofNat (2 ^ N.length)) ∧ m16 = m' ∧ Has ρ [(2, nv K), (3, .slice qp ps.length cp), (4, .pointer (some ⟨m.size, 0, none⟩)), (10, nv (posM g)), (34, .slice qp ps.length cp), (35, nv ps.length), (36, nv i)]) ⟨0, rfl, by omega, by omega, rfl, rfl, rfl, rfl, rfl, rfl, rfl, rfl, trivial⟩ ?_
        rintro k' ρ _ ⟨i, rfl, hi, hr, rfl, hh⟩
        rw [hh.env]; clear hh
        refine cSeq ?_
        refine cRegion ?_
        refine sBin rfl rfl (aInt_lss) ?_
        refine sNil (kSeqN ?_)
        refine cSeq ?_   -- seq 12
        refine cCond rfl (fun c3 => ?_) (fun c3 => ?_)
        ·
          obtain ⟨b1, o1, p1, r1, cc, e1, gg, x1⟩ := hb.at (by omega)
          cases e1
          have hgi : ps[i]? = some ps[i] := by simp
          generalize hni : ps[i] = n at *
          refine cSkip (kSeqN ?_)
          refine cSeq ?_
          refine cBlock ?_
          refine cSeq ?_
          refine cRegion ?_
          refine sIx T25 S3 rfl rfl (by omega) ?_
          refine sLd (v := .int _ _) A3 rfl (e16.cells gg) (x1 i n hgi) ?_
          refine sAs (v := .int _ _) rfl ?_
          refine sNil (kSeqN ?_)
          refine cSeq ?_
          refine cRegion ?_
          refine sMv (v := .int _ _) rfl ?_
          refine sBinI (v := .bool (decide (n < 0))) rfl rfl rfl ?_
          refine sMv (v := .bool _) rfl ?_
          by_cases h5 : n < 0
          ·
            rw [decide_eq_true h5]
            refine sGno (q' := true) rfl rfl (by simp) ?_
            refine sGno (q' := true) rfl rfl (by simp) ?_
            refine sGno (q' := true) rfl rfl (by simp) ?_
            refine sGno (q' := true) rfl rfl (by simp) ?_
            refine sGno (q' := true) rfl rfl (by simp) ?_
            refine sGno (q' := true) rfl rfl (by simp) ?_
            refine sP (v := .bool _) rfl ?_
            refine sNil (kSeqN ?_)
            refine cCondT rfl ?_
            refine cSeq ?_
            refine cRegion ?_
            refine sAs (v := .bool _) rfl ?_
            refine sAs (v := nv 3) rfl ?_
            refine sNil (kSeqN ?_)
            refine cRet (kBlkR (kSeqR (kSeqR (kBlkR (kSeqR ?_)))))
            rw [if_pos (.inr (List.any_eq_true.2 ⟨n, List.mem_of_getElem? hgi, decide_eq_true (.inl h5)⟩))] at hse
            exact ⟨.inr rfl, _, rfl, by rw [hne _ hse (by decide), hse]; rfl, e16⟩
          ·
            rw [decide_eq_false h5]
            refine sG rfl rfl ?_
            refine sMv (v := .int _ _) rfl ?_
            refine sG rfl rfl ?_
            refine sFA F24_0 rfl ?_
            refine sG rfl rfl ?_
            refine sLd A22 rfl (by simp (disch := first | omega | (simp only [Array.size_push, Array.size_setIfInBounds]; done) | (simp only [Array.size_push, Array.size_setIfInBounds]; omega)) only [gP, gPn, gS, gSn, g16]; try rfl) rfl ?_
            refine sG rfl rfl ?_
            refine sLen T22 rfl ?_
            rw [ofs2_length]
            refine sG rfl rfl ?_
            refine sBin (a := 1) (b := N.length) rfl rfl (aInt_shl (a := 1) (by omega)) ?_
            rw [Nat.shiftLeft_eq, Nat.one_mul]
            refine sG rfl rfl ?_
            refine sBinI (b := Int.ofNat (2 ^ N.length)) rfl rfl aInt_geqI ?_
            refine sP (v := .bool _) rfl ?_
            refine sNil (kSeqN ?_)
            refine cCond (p := Int.ofNat (2 ^ N.length) ≤ n) rfl (fun c5 => ?_) (fun c5 => ?_)
            ·
              refine cSeq ?_
              refine cRegion ?_
              refine sAs (v := .bool _) rfl ?_
              refine sAs (v := nv 3) rfl ?_
              refine sNil (kSeqN ?_)
              refine cRet (kBlkR (kSeqR (kSeqR (kBlkR (kSeqR ?_)))))
              have hbig : Int.ofNat (2 ^ N.length - 1) < n := by
                have : Int.ofNat (2 ^ N.length - 1) < Int.ofNat (2 ^ N.length) := Int.ofNat_lt.2 (by omega)
                omega
              rw [if_pos (.inr (List.any_eq_true.2 ⟨n, List.mem_of_getElem? hgi, decide_eq_true (.inr hbig)⟩))] at hse
              exact ⟨.inr rfl, _, rfl, by rw [hne _ hse (by decide), hse]; rfl, e16⟩
            ·
              refine cSkip (kBlkN (kSeqN ?_))
              refine cRegion ?_
              refine sBin rfl rfl (aInt_add (b := 1) (by omega)) ?_
              refine sMv (v := nv _) rfl ?_
              refine sNil (kSeqN ?_)
              refine ⟨_, ?_, i + 1, rfl, by omega, fun j u hj hu => ?_, rfl, rfl, rfl, rfl, rfl, rfl, rfl, rfl, trivial⟩
              · omega
              · by_cases e : j = i
                · subst e
                  rw [hgi] at hu
                  obtain rfl := Option.some.inj hu
                  omega
                · exact hr j u (by omega) hu
        ·
          obtain rfl : i = ps.length := by omega
          have hany : ¬ (ps.any (fun x => decide (x < 0 ∨ Int.ofNat (2 ^ N.length - 1) < x)) = true) := fun h => by
            obtain ⟨u, hu, h2⟩ := List.any_eq_true.1 h
            obtain ⟨j, hj, e⟩ := List.getElem_of_mem hu
            have h3 := hr j u hj (by rw [List.getElem?_eq_getElem hj, e])
            have h4 := of_decide_eq_true h2
            have : Int.ofNat (2 ^ N.length) = Int.ofNat (2 ^ N.length - 1) + 1 := by
              have : 2 ^ N.length = (2 ^ N.length - 1) + 1 := by omega
              rw [this]; rfl
            omega
          obtain ⟨p, rfl, hp⟩ := range_nat hany
          rw [if_neg (by intro h; rcases h with h | h; omega; exact hany h)] at hse
          have hsg : showsG (ofs2 N) (ofs g) (Int.ofNat K) (ofs p) = showsB (needsM N) (posM g) K p := by
            rw [showsG, hse, natsG_ofs2, nats_ofs, nats_ofs]; rfl
          rw [hsg, hse]
          clear hsg hne hany hr hi
          rw [ofs_length] at *
          refine cExit (kSeqE (kSeqE (kBlkS (kSeqN ?_))))
          refine cSeq ?_
          refine cSeq ?_
          refine cRegion ?_
          refine sAs (v := nv 1) rfl ?_
          refine sNil (kSeqN ?_)
          refine cBlock ?_
          refine wpC_loop (fun k' ρ m' => ∃ i, k' = p.length + 1 - i ∧ 1 ≤ i ∧ i ≤ p.length + 1 ∧ (∀ j, j + 1 < i → j + 1 < p.length → p.getD j 0 < p.getD (j + 1) 0) ∧ m16 = m' ∧ Has ρ [(2, nv K), (3, .slice qp p.length cp), (4, .pointer (some ⟨m.size, 0, none⟩)), (10, nv (posM g)), (14, nv i)]) ⟨1, rfl, by omega, by omega, by omega, rfl, rfl, rfl, rfl, rfl, rfl, trivial⟩ ?_
          rintro k' ρ _ ⟨i, rfl, hi1, hi, hj, rfl, hh⟩
          rw [hh.env]; clear hh
          refine cSeq ?_   -- seq 20
          refine cSeq ?_
          refine cRegion ?_
          refine sMv (v := nv _) rfl ?_
          refine sMv (v := .slice _ _ _) rfl ?_
          refine sLen T25 rfl ?_
          refine sBin rfl rfl (aInt_lss) ?_
          refine sNil (kSeqN ?_)
          refine cCond rfl (fun c6 => ?_) (fun c6 => ?_)
          ·
            obtain ⟨b1, o1, p1, r1, cc, e1, gg, x1⟩ := hb.atN (by omega)
            cases e1
            obtain ⟨j, rfl⟩ : ∃ j, i = j + 1 := ⟨i - 1, by omega⟩
            refine cSkip (kSeqN ?_)
            refine cSeq ?_
            refine cBlock ?_
            refine cSeq ?_
            refine cDraw rfl ?_
            refine sMv (v := .slice _ _ _) rfl ?_
            refine sMv (v := nv _) rfl ?_
            refine sIx T25 S3 rfl rfl (by omega) ?_
            refine sLd (v := nv (p.getD (j + 1) 0)) A3 rfl (e16.cells gg) (x1 (j + 1) _ (getDeq c6)) ?_
            refine sMv (v := .slice _ _ _) rfl ?_
            refine sMv (v := nv _) rfl ?_
            refine sBin (v := nv j) rfl rfl (aInt_sub (b := 1) (by omega)) ?_
            refine sIx T25 S3 rfl rfl (by omega) ?_
            refine sLd (v := nv (p.getD j 0)) A3 rfl (e16.cells gg) (x1 j _ (getDeq (by omega))) ?_
            refine sBin (a := p.getD (j + 1) 0) (b := p.getD j 0) rfl rfl aInt_leq ?_
            refine sNil (kSeqN ?_)
            refine cCond rfl (fun c7 => ?_) (fun c7 => ?_)
            ·
              refine cSeq ?_
              refine cRegion ?_
              refine sAs (v := .bool _) rfl ?_
              refine sAs (v := nv 0) rfl ?_
              refine sNil (kSeqN ?_)
              refine cRet (kBlkR (kSeqR (kSeqR (kBlkR (kSeqR ?_)))))
              exact ⟨.inr rfl, _, rfl, by rw [showsB_not1 c6 c7]; rfl, e16⟩
            ·
              refine cSkip (kBlkN (kSeqN ?_))
              refine cRegion ?_
              refine sMv (v := nv _) rfl ?_
              refine sBin rfl rfl (aInt_add (b := 1) (by omega)) ?_
              refine sAs (v := nv _) rfl ?_
              refine sNil (kSeqN ?_)
              refine ⟨_, ?_, j + 2, rfl, by omega, by omega, fun k hk hk2 => ?_, rfl, rfl, rfl, rfl, rfl, rfl, trivial⟩
              · omega
              · by_cases h : k = j
                · subst h; omega
                · exact hj k (by omega) hk2
          ·
            have hrise : ∀ j, j + 1 < p.length → p.getD j 0 < p.getD (j + 1) 0 := fun j h => hj j (by omega) h
            refine cExit (kSeqE (kSeqE (kBlkS (kSeqN ?_))))
            refine cSeq ?_   -- seq 25
            refine cSeq ?_
            refine cRegion ?_
            refine sMv (v := .slice _ _ _) rfl ?_
            refine sCall2 rfl call71 rfl rfl (spec_has (x := 0) (hb.ext e16) hlp) ?_
            refine sP (v := .bool (!decide (0 ∈ p))) rfl ?_
            refine sMv (v := .bool _) rfl ?_
            by_cases h6 : ¬ 0 ∈ p
            ·
              rw [decide_eq_false h6]
              refine sGno (q' := true) rfl rfl (by simp) ?_
              refine sGno (q' := true) rfl rfl (by simp) ?_
              refine sGno (q' := true) rfl rfl (by simp) ?_
              refine sP (v := .bool _) rfl ?_
              refine sNil (kSeqN ?_)
              refine cCondT rfl ?_
              refine cSeq ?_
              refine cRegion ?_
              refine sAs (v := .bool _) rfl ?_
              refine sAs (v := nv 0) rfl ?_
              refine sNil (kSeqN ?_)
              refine cRet (kSeqR ?_)
              exact ⟨.inr rfl, _, rfl, by rw [showsB_not2 (by rw [decide_eq_false h6]; rfl)]; rfl, e16⟩
            ·
              rw [decide_eq_true (Decidable.not_not.1 h6)]
              refine sG rfl rfl ?_
              refine sMv (v := .slice _ _ _) rfl ?_
              refine sG rfl rfl ?_
              refine sMv (v := nv _) rfl ?_
              refine sG rfl rfl ?_
              refine sCall2 rfl call71 rfl rfl (spec_has (x := posM g) (hb.ext e16) hlp) ?_
              refine sP (v := .bool _) rfl ?_
              refine sNil (kSeqN ?_)
              refine cCond (p := posM g ∈ p) rfl (fun c9 => ?_) (fun c9 => ?_)
              ·
                refine cSeq ?_
                refine cRegion ?_
                refine sAs (v := .bool _) rfl ?_
                refine sAs (v := nv 0) rfl ?_
                refine sNil (kSeqN ?_)
                refine cRet (kSeqR ?_)
                exact ⟨.inr rfl, _, rfl, by rw [showsB_not2 (by rw [decide_eq_true c9, Bool.not_true, Bool.and_false])]; rfl, e16⟩
              ·
                refine cSkip (kSeqN ?_)
                refine cSeq ?_
                refine cSeq ?_
                refine cRegion ?_
                refine sMv (v := .slice _ _ _) rfl ?_
                refine sLen T25 rfl ?_
                refine sMv (v := nv 0) rfl ?_
                refine sNil (kSeqN ?_)
                refine cBlock ?_
                refine wpC_loop (fun k' ρ m' => ∃ i, k' = p.length - i ∧ i ≤ p.length ∧ (∀ j u, j < i → p[j]? = some u → ∀ l, l < N.length → wayB (needsM N) K u l = true → u ^^^ 2 ^ l ∈ p) ∧ Ext m16 m' ∧ Has ρ [(2, nv K), (3, .slice qp p.length cp), (4, .pointer (some ⟨m.size, 0, none⟩)), (75, .slice qp p.length cp), (76, nv p.length), (77, nv i)]) ⟨0, rfl, by omega, by omega, .refl _, rfl, rfl, rfl, rfl, rfl, rfl, trivial⟩ ?_
                rintro k' ρ m' ⟨i, rfl, hi, hr, hE, hh⟩
                rw [hh.env]; clear hh
                have gE := hE.cells g16
                refine cSeq ?_
                refine cRegion ?_
                refine sBin rfl rfl (aInt_lss) ?_
                refine sNil (kSeqN ?_)
                refine cSeq ?_   -- seq 32
                refine cCond rfl (fun c10 => ?_) (fun c10 => ?_)
                ·
                  obtain ⟨b1, o1, p1, r1, cc, e1, gg, x1⟩ := hb.atN (by omega)
                  cases e1
                  have hx := hp p[i] (List.getElem_mem c10)
                  have hgi : p[i]? = some p[i] := by simp
                  generalize p[i] = x at *
                  refine cSkip (kSeqN ?_)
                  refine cSeq ?_
                  refine cBlock ?_
                  refine cSeq ?_
                  refine cRegion ?_
                  refine sIx T25 S3 rfl rfl (by omega) ?_
                  refine sLd (v := nv x) A3 rfl ((e16.trans hE).cells gg) (x1 i x hgi) ?_
                  refine sAs (v := nv _) rfl ?_
                  refine sNil (kSeqN ?_)
                  refine cSeq ?_
                  refine cRegion ?_
                  refine sFA F24_0 rfl ?_
                  refine sLd A22 rfl (by simp (disch := first | omega | (simp only [Array.size_push, Array.size_setIfInBounds]; done) | (simp only [Array.size_push, Array.size_setIfInBounds]; omega)) only [gP, gPn, gS, gSn, gE]; try rfl) rfl ?_
                  refine sLen T22 rfl ?_
                  rw [ofs2_length]
                  refine sMv (v := nv 0) rfl ?_
                  refine sNil (kSeqN ?_)
                  refine cBlock ?_
                  refine wpC_loop (fun k' ρ mm => ∃ l, k' = N.length - l ∧ l ≤ N.length ∧ (∀ j, j < l → wayB (needsM N) K x j = true → x ^^^ 2 ^ j ∈ p) ∧ Ext m' mm ∧ Has ρ [(2, nv K), (3, .slice (some ⟨b1, o1, some 1⟩) p.length cp), (4, .pointer (some ⟨m.size, 0, none⟩)), (16, nv x), (75, .slice (some ⟨b1, o1, some 1⟩) p.length cp), (76, nv p.length), (77, nv i), (83, nv N.length), (84, nv l)]) ⟨0, rfl, by omega, by omega, .refl _, rfl, rfl, rfl, rfl, rfl, rfl, rfl, rfl, rfl, trivial⟩ ?_
                  rintro k' ρ mm ⟨l, rfl, hl2, hr2, hM, hh⟩
                  rw [hh.env]; clear hh
                  have gM := hM.cells gE
                  refine cSeq ?_
                  refine cRegion ?_
                  refine sBin rfl rfl (aInt_lss) ?_
                  refine sNil (kSeqN ?_)
                  refine cSeq ?_   -- seq 37
                  refine cCond rfl (fun c11 => ?_) (fun c11 => ?_)
                  ·
                    have h2l : 2 ^ l < 2 ^ N.length := Nat.pow_lt_pow_right (by omega) c11
                    have hnx : x ^^^ 2 ^ l < 2 ^ N.length := Nat.xor_lt_two_pow (by omega) h2l
                    refine cSkip (kSeqN ?_)
                    refine cSeq ?_
                    refine cBlock ?_
                    refine cSeq ?_
                    refine cRegion ?_
                    refine sMv (v := nv _) rfl ?_
                    refine sAs (v := nv _) rfl ?_
                    refine sNil (kSeqN ?_)
                    refine cSeq ?_
                    refine cRegion ?_
                    refine sMv (v := nv _) rfl ?_
                    refine sMv (v := nv _) rfl ?_
                    refine sBin (a := 1) (b := l) rfl rfl (aInt_shl (by omega)) ?_
                    rw [Nat.shiftLeft_eq, Nat.one_mul]
                    refine sBin rfl rfl (aInt_xor (by omega)) ?_
                    refine sAs (v := nv _) rfl ?_
                    refine sNil (kSeqN ?_)
                    refine cSeq ?_
                    refine cRegion ?_
                    refine sLdAll A24 S24 rfl gM rfl ?_
                    refine sMv (v := nv _) rfl ?_
                    refine sMv (v := nv _) rfl ?_
                    obtain ⟨v94, m94, h94, rfl, k94⟩ := spec_May (hG.ext ((e16.trans hE).trans hM)) hN (x := x) (n := l) (by omega) c11
                    refine sCall3 rfl call64 rfl rfl rfl h94 ?_
                    refine sMv (v := .bool _) rfl ?_
                    by_cases h7 : mayM (needsM N) x l = true
                    ·
                      rw [h7]
                      refine sG rfl rfl ?_
                      refine sMv (v := nv _) rfl ?_
                      refine sG rfl rfl ?_
                      refine sCall1 rfl call72 rfl (spec_Pebbles (by omega)) ?_
                      refine sG rfl rfl ?_
                      refine sMv (v := nv _) rfl ?_
                      refine sG rfl rfl ?_
                      refine sBin (a := popc (x ^^^ 2 ^ l)) (b := K) rfl rfl aInt_leq ?_
                      refine sP (v := .bool _) rfl ?_
                      refine sMv (v := .bool _) rfl ?_
                      by_cases h8 : popc (x ^^^ 2 ^ l) ≤ K
                      ·
                        rw [decide_eq_true h8]
                        refine sG rfl rfl ?_
                        refine sMv (v := .slice _ _ _) rfl ?_
                        refine sG rfl rfl ?_
                        refine sMv (v := nv _) rfl ?_
                        refine sG rfl rfl ?_
                        refine sCall2 rfl call71 rfl rfl (spec_has (x := x ^^^ 2 ^ l) (hb.ext (((e16.trans hE).trans hM).trans k94)) hlp) ?_
                        refine sG rfl rfl ?_
                        refine sP (v := .bool (!decide (x ^^^ 2 ^ l ∈ p))) rfl ?_
                        refine sP (v := .bool _) rfl ?_
                        refine sNil (kSeqN ?_)
                        refine cCond (p := ¬ x ^^^ 2 ^ l ∈ p) (by show Value.bool _ = Value.bool _; rw [← decide_not]) (fun c12 => ?_) (fun c12 => ?_)
                        ·
                          refine cSeq ?_
                          refine cRegion ?_
                          refine sAs (v := .bool _) rfl ?_
                          refine sAs (v := nv 0) rfl ?_
                          refine sNil (kSeqN ?_)
                          refine cRet (kBlkR (kSeqR (kSeqR (kBlkR (kBlkR (kSeqR (kSeqR (kBlkR (kSeqR ?_)))))))))
                          have hw : wayB (needsM N) K x l = true := by rw [wayB, h7, decide_eq_true h8]; rfl
                          exact ⟨.inr rfl, _, rfl, by rw [showsB_not3 (List.mem_of_getElem? hgi) (by rw [hpl]; exact c11) hw c12]; rfl, ((e16.trans hE).trans hM).trans k94⟩
                        ·
                          refine cSkip (kBlkN (kSeqN ?_))
                          refine cRegion ?_
                          refine sBin rfl rfl (aInt_add (b := 1) (by omega)) ?_
                          refine sMv (v := nv _) rfl ?_
                          refine sNil (kSeqN ?_)
                          refine ⟨_, ?_, l + 1, rfl, by omega, fun j hj hw => ?_, hM.trans k94, rfl, rfl, rfl, rfl, rfl, rfl, rfl, rfl, rfl, trivial⟩
                          · omega
                          · by_cases e : j = l
                            · subst e; exact Decidable.not_not.1 c12
                            · exact hr2 j (by omega) hw
                      ·
                        rw [decide_eq_false h8]
                        refine sGno (q' := false) rfl rfl (by simp) ?_
                        refine sGno (q' := false) rfl rfl (by simp) ?_
                        refine sGno (q' := false) rfl rfl (by simp) ?_
                        refine sGno (q' := false) rfl rfl (by simp) ?_
                        refine sP (v := .bool _) rfl ?_
                        refine sNil (kSeqN ?_)
                        refine cCondF rfl ?_
                        refine cSkip (kBlkN (kSeqN ?_))
                        refine cRegion ?_
                        refine sBin rfl rfl (aInt_add (b := 1) (by omega)) ?_
                        refine sMv (v := nv _) rfl ?_
                        refine sNil (kSeqN ?_)
                        refine ⟨_, ?_, l + 1, rfl, by omega, fun j hj hw => ?_, hM.trans k94, rfl, rfl, rfl, rfl, rfl, rfl, rfl, rfl, rfl, trivial⟩
                        · omega
                        · by_cases e : j = l
                          · subst e; rw [wayB, decide_eq_false h8, Bool.and_false] at hw; cases hw
                          · exact hr2 j (by omega) hw
                    ·
                      rw [Bool.eq_false_iff.2 h7]
                      refine sGno (q' := false) rfl rfl (by simp) ?_
                      refine sGno (q' := false) rfl rfl (by simp) ?_
                      refine sGno (q' := false) rfl rfl (by simp) ?_
                      refine sGno (q' := false) rfl rfl (by simp) ?_
                      refine sP (v := .bool _) rfl ?_
                      refine sMv (v := .bool _) rfl ?_
                      refine sGno (q' := false) rfl rfl (by simp) ?_
                      refine sGno (q' := false) rfl rfl (by simp) ?_
                      refine sGno (q' := false) rfl rfl (by simp) ?_
                      refine sGno (q' := false) rfl rfl (by simp) ?_
                      refine sP (v := .bool _) rfl ?_
                      refine sNil (kSeqN ?_)
                      refine cCondF rfl ?_
                      refine cSkip (kBlkN (kSeqN ?_))
                      refine cRegion ?_
                      refine sBin rfl rfl (aInt_add (b := 1) (by omega)) ?_
                      refine sMv (v := nv _) rfl ?_
                      refine sNil (kSeqN ?_)
                      refine ⟨_, ?_, l + 1, rfl, by omega, fun j hj hw => ?_, hM.trans k94, rfl, rfl, rfl, rfl, rfl, rfl, rfl, rfl, rfl, trivial⟩
                      · omega
                      · by_cases e : j = l
                        · subst e; rw [wayB, Bool.eq_false_iff.2 h7, Bool.false_and] at hw; cases hw
                        · exact hr2 j (by omega) hw
                  ·
                    refine cExit (kSeqE (kSeqE (kBlkS (kBlkN (kSeqN ?_)))))
                    refine cRegion ?_
                    refine sBin rfl rfl (aInt_add (b := 1) (by omega)) ?_
                    refine sMv (v := nv _) rfl ?_
                    refine sNil (kSeqN ?_)
                    refine ⟨_, ?_, i + 1, rfl, by omega, fun j u hj hu => ?_, hE.trans hM, rfl, rfl, rfl, rfl, rfl, rfl, trivial⟩
                    · omega
                    · by_cases e : j = i
                      · subst e
                        rw [hgi] at hu
                        obtain rfl := Option.some.inj hu
                        exact fun l2 hl3 hw => hr2 l2 (by omega) hw
                      · exact hr j u (by omega) hu
                ·
                  refine cExit (kSeqE (kSeqE (kBlkS (kSeqN ?_))))
                  refine cSeq ?_
                  refine cRegion ?_
                  refine sAs (v := .bool _) rfl ?_
                  refine sAs (v := nv 0) rfl ?_
                  refine sNil (kSeqN ?_)
                  refine cRet ?_
                  have hyes : showsB (needsM N) (posM g) K p = true := showsB_yes hrise (Decidable.not_not.1 h6) c9 fun x hx l hl3 hw => by
                    obtain ⟨j, hj, e⟩ := List.getElem_of_mem hx
                    exact hr j x (by omega) (by rw [List.getElem?_eq_getElem hj, e]) l (by rw [hpl] at hl3; exact hl3) hw
                  exact ⟨.inr rfl, _, rfl, by rw [hyes]; rfl, e16.trans hE⟩

end Go.AM

/-! ### P28L -/
namespace Go.AM
open Go.Proofs
set_option maxRecDepth 100000
theorem ls_same {m : Mem} {a b : Value} {G : List (List Int)} (ha : RowsAt m a G) (hb : RowsAt m b G) (h1 : G.length ≤ 14) (h2 : ∀ g ∈ G, g.length ≤ 5) : ∃ m', ACalls Tryd.prog 24 #[.agg #[a], .agg #[b]] m (.bool true) m' ∧ Ext m m' := by
  obtain ⟨v, m', h, rfl, he⟩ := spec_same ha hb (by omega) (fun g hg => by have := h2 g hg; omega)
  rw [decide_eq_true rfl] at h
  exact ⟨m', h, he⟩
end Go.AM

/-! ### P32 -/
namespace Go.AM
open Go.Proofs
set_option maxRecDepth 100000
set_option linter.unusedVariables false
set_option linter.unusedSimpArgs false

theorem ls_short (G : List (List Int)) (gs : List Int) (k : Int) : (ifOk (shortestE G gs k) (shortestG G gs k) []).length ≤ 1024 := by
  by_cases h : shortestE G gs k = 0
  · rw [ifOk_0 h]
    have h0 : withE G gs = 0 := by
      unfold shortestE at h
      split at h
      · assumption
      · exact h
    obtain ⟨N, g, rfl, hN, rfl, hg⟩ := withE_nat h0
    rw [shortestG, natsG_ofs2, nats_ofs]
    exact shortM_len (by rw [needsM_length]; exact noPos hg) (by rw [needsM_length]; exact hN.ten)
  · rw [ifOk_n h]; simp
theorem ls_trade (G : List (List Int)) (gs : List Int) : (ifOk (withE G gs) (tradeG G gs) []).length ≤ 10 := by
  by_cases h : withE G gs = 0
  · rw [ifOk_0 h]
    obtain ⟨N, g, rfl, hN, rfl, hg⟩ := withE_nat h
    rw [tradeG, ofs2_length]
    exact Nat.le_trans (tradeF_len _ _ _) hN.ten
  · rw [ifOk_n h]; simp

theorem okf3 : okF Tryd.prog H0 3 112 = true := by kernel_rfl
theorem spec_LeastLaw {m : Mem} {s a : Value} {G : List (List Int)} {gs : List Int} {k : Int} (hGl : GlobP m) (hG : RowsAt m s G) (ha : IntsAt m a gs) : ∃ v m', ACalls Tryd.prog 3 #[.agg #[s], a, .int .i64 k] m v m' ∧ (v = .bool true ∧ True) := by
  obtain ⟨q, cap, rfl⟩ := hG.len
  obtain ⟨qg, cg, rfl⟩ := ha.len
  have E : Ext m m := .refl _
  refine wpF (args := [_, _, _]) mixed okf3 (fn := Tryd.f3) rfl rfl rfl (by simp) ?_
  refine cSeq ?_
  refine cRegion ?_
  refine sBox (v := .agg _) rfl ?_
  have x_ : Ext m (m.push (.cells true #[.slice q G.length cap])) := .push _ _
  replace hG := hG.ext x_
  replace ha := ha.ext x_
  replace E := E.trans x_
  replace hGl := hGl.ext x_
  clear x_
  have gD : Mem.get (m.push (.cells true #[.slice q G.length cap])) m.size = .cells true #[.slice q G.length cap] := gP rfl
  refine sAs (v := .bool _) rfl ?_
  refine sNil (kSeqN ?_)
  refine cSeq ?_   -- seq 1
  refine cSeq ?_
  refine cRegion ?_
  refine sLdAll A24 S24 rfl gD rfl ?_
  obtain ⟨v22, m22, h_, rfl, e_⟩ := spec_Great hG
  refine sCall1 rfl call12 rfl h_ ?_
  clear h_
  have x_ : Ext (m.push (.cells true #[.slice q G.length cap])) m22 := e_
  replace hG := hG.ext x_
  replace ha := ha.ext x_
  replace E := E.trans x_
  replace hGl := hGl.ext x_
  replace gD := x_.cells gD
  clear x_
  clear e_
  refine sMv (v := .bool _) rfl ?_
  by_cases h1 : greatB G = true
  ·
    rw [h1]
    refine sGno (q' := true) rfl rfl (by simp) ?_
    refine sGno (q' := true) rfl rfl (by simp) ?_
    refine sGno (q' := true) rfl rfl (by simp) ?_
    refine sP (v := .bool _) rfl ?_
    refine sNil (kSeqN ?_)
    refine cCondT rfl ?_
    refine cSeq ?_
    refine cRegion ?_
    obtain ⟨v28, m28, h28, rfl, e28⟩ := spec_awake hGl
    refine sCall0 rfl call13 h28 ?_
    refine sAs (v := .bool _) rfl ?_
    refine sNil (kSeqN ?_)
    refine cRet (kSeqR ?_)
    exact ⟨.inr rfl, _, rfl, rfl, trivial⟩
  ·
    rw [Bool.eq_false_iff.2 h1]
    obtain ⟨hgl, hgr⟩ := greatB_not h1
    refine sG rfl rfl ?_
    refine sMv (v := .slice _ _ _) rfl ?_
    refine sG rfl rfl ?_
    refine sLen T25 rfl ?_
    refine sG rfl rfl ?_
    refine sBin (b := 20) rfl rfl aInt_gtr ?_
    refine sP (v := .bool _) rfl ?_
    refine sNil (kSeqN ?_)
    refine cCond (p := 20 < gs.length) rfl (fun c1 => ?_) (fun c1 => ?_)
    ·
      refine cSeq ?_
      refine cRegion ?_
      obtain ⟨v28, m28, h28, rfl, e28⟩ := spec_awake hGl
      refine sCall0 rfl call13 h28 ?_
      refine sAs (v := .bool _) rfl ?_
      refine sNil (kSeqN ?_)
      refine cRet (kSeqR ?_)
      exact ⟨.inr rfl, _, rfl, rfl, trivial⟩
    ·
      have hgs : gs.length < 1000000 := by omega
      refine cSkip (kSeqN ?_)
      refine cSeq ?_
      refine cRegion ?_
      refine sLdAll A24 S24 rfl gD rfl ?_
      obtain ⟨v30, m30, h_, w30, cs30, rfl, oO, e_⟩ := spec_Own hG hgl hgr
      obtain ⟨qO, cO, rfl⟩ := oO.1.len
      have rO := oO.rows
      refine sCall1 rfl call14 rfl h_ ?_
      clear h_
      have x_ : Ext m22 m30 := e_
      replace hG := hG.ext x_
      replace ha := ha.ext x_
      replace E := E.trans x_
      replace hGl := hGl.ext x_
      replace gD := x_.cells gD
      clear x_
      clear e_
      refine sMv (v := .slice _ _ _) rfl ?_
      obtain ⟨v32, m32, h_, oL, e_⟩ := spec_Clone ha (by omega)
      have iL := oL.ints
      obtain ⟨qL, cL, rfl⟩ := iL.len
      refine sCall1 rfl call15 rfl h_ ?_
      clear h_
      have x_ : Ext m30 m32 := e_
      replace hG := hG.ext x_
      replace ha := ha.ext x_
      replace E := E.trans x_
      replace hGl := hGl.ext x_
      replace gD := x_.cells gD
      replace rO := rO.ext x_
      clear x_
      clear e_
      refine sAlloc Z24 (by kernel_rfl) ?_
      refine sStNA S24 rfl rfl rfl rfl (by kernel_rfl) ?_
      have x_ : Ext m32 (m32.push (.cells true #[.slice qO G.length cO])) := .push _ _
      replace hG := hG.ext x_
      replace ha := ha.ext x_
      replace E := E.trans x_
      replace hGl := hGl.ext x_
      replace gD := x_.cells gD
      replace rO := rO.ext x_
      replace iL := iL.ext x_
      clear x_
      have gO : Mem.get (m32.push (.cells true #[.slice qO G.length cO])) m32.size = .cells true #[.slice qO G.length cO] := gP rfl
      refine sAs (v := .slice _ _ _) rfl ?_
      refine sNil (kSeqN ?_)
      refine cSeq ?_
      refine cRegion ?_
      refine sLdAll A24 S24 rfl gO rfl ?_
      refine sMv (v := .slice _ _ _) rfl ?_
      obtain ⟨v36, m36, h_, rfl, e_⟩ := spec_Least rO iL hgs trade_ne
      refine sCall2 rfl call16 rfl rfl h_ ?_
      clear h_
      have x_ : Ext (m32.push (.cells true #[.slice qO G.length cO])) m36 := e_
      replace hG := hG.ext x_
      replace ha := ha.ext x_
      replace E := E.trans x_
      replace hGl := hGl.ext x_
      replace gD := x_.cells gD
      replace rO := rO.ext x_
      replace iL := iL.ext x_
      replace gO := x_.cells gO
      clear x_
      clear e_
      refine sMv (v := .tuple _) rfl ?_
      refine sP (v := nv _) rfl ?_   -- extract ['t33', '0']
      refine sP (v := nv _) rfl ?_   -- extract ['t33', '1']
      refine sAs (v := nv _) rfl ?_
      refine sAs (v := nv _) rfl ?_
      refine sNil (kSeqN ?_)
      refine cSeq ?_
      refine cRegion ?_
      refine sLdAll A24 S24 rfl gD rfl ?_
      refine sMv (v := .slice _ _ _) rfl ?_
      obtain ⟨v42, m42, h_, rfl, e_⟩ := spec_refLeast hG ha hgs
      refine sCall2 rfl call17 rfl rfl h_ ?_
      clear h_
      have x_ : Ext m36 m42 := e_
      replace hG := hG.ext x_
      replace ha := ha.ext x_
      replace E := E.trans x_
      replace hGl := hGl.ext x_
      replace gD := x_.cells gD
      replace rO := rO.ext x_
      replace iL := iL.ext x_
      replace gO := x_.cells gO
      clear x_
      clear e_
      refine sMv (v := .tuple _) rfl ?_
      refine sP (v := nv _) rfl ?_   -- extract ['t39', '0']
      refine sP (v := nv _) rfl ?_   -- extract ['t39', '1']
      refine sAs (v := nv _) rfl ?_
      refine sAs (v := nv _) rfl ?_
      refine sNil (kSeqN ?_)
      refine cSeq ?_
      refine cRegion ?_
      refine sLdAll A24 S24 rfl gO rfl ?_
      refine sMv (v := .slice _ _ _) rfl ?_
      refine sMv (v := .int _ _) rfl ?_
      obtain ⟨v49, m49, h_, w49, rfl, o49, e_⟩ := spec_Shortest (k := k) rO iL hgs
      have i49 := o49.ints
      obtain ⟨q49, c49, rfl⟩ := i49.lenN
      refine sCall3 rfl call18 rfl rfl rfl h_ ?_
      clear h_
      have x_ : Ext m42 m49 := e_
      replace hG := hG.ext x_
      replace ha := ha.ext x_
      replace E := E.trans x_
      replace hGl := hGl.ext x_
      replace gD := x_.cells gD
      replace rO := rO.ext x_
      replace iL := iL.ext x_
      replace gO := x_.cells gO
      clear x_
      clear e_
      refine sMv (v := .tuple _) rfl ?_
      refine sP (v := .slice _ _ _) rfl ?_   -- extract ['t45', '0']
      refine sP (v := nv _) rfl ?_   -- extract ['t45', '1']
      refine sAs (v := .slice _ _ _) rfl ?_
      refine sAs (v := nv _) rfl ?_
      refine sNil (kSeqN ?_)
      refine cSeq ?_
      refine cRegion ?_
      refine sLdAll A24 S24 rfl gD rfl ?_
      refine sMv (v := .slice _ _ _) rfl ?_
      refine sMv (v := .int _ _) rfl ?_
      obtain ⟨v56, m56, h_, w56, rfl, o56, e_⟩ := spec_refShortest (k := k) hG ha hgs
      have i56 := o56.ints
      obtain ⟨q56, c56, rfl⟩ := i56.lenN
      refine sCall3 rfl call19 rfl rfl rfl h_ ?_
      clear h_
      have x_ : Ext m49 m56 := e_
      replace hG := hG.ext x_
      replace ha := ha.ext x_
      replace E := E.trans x_
      replace hGl := hGl.ext x_
      replace gD := x_.cells gD
      replace rO := rO.ext x_
      replace iL := iL.ext x_
      replace gO := x_.cells gO
      replace i49 := i49.ext x_
      clear x_
      clear e_
      refine sMv (v := .tuple _) rfl ?_
      refine sP (v := .slice _ _ _) rfl ?_   -- extract ['t52', '0']
      refine sP (v := nv _) rfl ?_   -- extract ['t52', '1']
      refine sAs (v := .slice _ _ _) rfl ?_
      refine sAs (v := nv _) rfl ?_
      refine sNil (kSeqN ?_)
      refine cSeq ?_
      refine cRegion ?_
      refine sLdAll A24 S24 rfl gO rfl ?_
      refine sMv (v := .slice _ _ _) rfl ?_
      obtain ⟨v62, m62, h_, w62, rfl, o62, e_⟩ := spec_Trade rO iL hgs
      have p62 := o62.pairs
      obtain ⟨q62, c62, rfl⟩ := p62.len
      refine sCall2 rfl call20 rfl rfl h_ ?_
      clear h_
      have x_ : Ext m56 m62 := e_
      replace hG := hG.ext x_
      replace ha := ha.ext x_
      replace E := E.trans x_
      replace hGl := hGl.ext x_
      replace gD := x_.cells gD
      replace rO := rO.ext x_
      replace iL := iL.ext x_
      replace gO := x_.cells gO
      replace i49 := i49.ext x_
      replace i56 := i56.ext x_
      clear x_
      clear e_
      refine sMv (v := .tuple _) rfl ?_
      refine sP (v := .slice _ _ _) rfl ?_   -- extract ['t59', '0']
      refine sP (v := nv _) rfl ?_   -- extract ['t59', '1']
      refine sAs (v := .slice _ _ _) rfl ?_
      refine sAs (v := nv _) rfl ?_
      refine sNil (kSeqN ?_)
      refine cSeq ?_
      refine cRegion ?_
      refine sLdAll A24 S24 rfl gD rfl ?_
      refine sMv (v := .slice _ _ _) rfl ?_
      obtain ⟨v68, m68, h_, w68, rfl, o68, e_⟩ := spec_refTrade hG ha hgs
      have p68 := o68.pairs
      obtain ⟨q68, c68, rfl⟩ := p68.len
      refine sCall2 rfl call21 rfl rfl h_ ?_
      clear h_
      have x_ : Ext m62 m68 := e_
      replace hG := hG.ext x_
      replace ha := ha.ext x_
      replace E := E.trans x_
      replace hGl := hGl.ext x_
      replace gD := x_.cells gD
      replace rO := rO.ext x_
      replace iL := iL.ext x_
      replace gO := x_.cells gO
      replace i49 := i49.ext x_
      replace i56 := i56.ext x_
      replace p62 := p62.ext x_
      clear x_
      clear e_
      refine sMv (v := .tuple _) rfl ?_
      refine sP (v := .slice _ _ _) rfl ?_   -- extract ['t65', '0']
      refine sP (v := nv _) rfl ?_   -- extract ['t65', '1']
      refine sAs (v := .slice _ _ _) rfl ?_
      refine sAs (v := nv _) rfl ?_
      refine sNil (kSeqN ?_)
      refine cSeq ?_
      refine cRegion ?_
      refine sMv (v := nv _) rfl ?_
      refine sMv (v := nv _) rfl ?_
      refine sBin (v := .bool true) rfl rfl (eqlT rfl) ?_
      refine sMv (v := .bool _) rfl ?_
      refine sG rfl rfl ?_
      refine sMv (v := nv _) rfl ?_
      refine sG rfl rfl ?_
      refine sMv (v := nv _) rfl ?_
      refine sG rfl rfl ?_
      refine sBin (v := .bool true) rfl rfl (eqlT rfl) ?_
      refine sP (v := .bool true) rfl ?_
      refine sMv (v := .bool _) rfl ?_
      refine sG rfl rfl ?_
      refine sMv (v := .slice _ _ _) rfl ?_
      refine sG rfl rfl ?_
      refine sMv (v := .slice _ _ _) rfl ?_
      refine sG rfl rfl ?_
      have h82 := spec_Equal i49 i56 (by rw [ofs_length]; exact Nat.lt_of_le_of_lt (ls_short _ _ _) (by decide))
      rw [decide_eq_true rfl] at h82
      refine sCall2 rfl call22 rfl rfl h82 ?_
      refine sP (v := .bool true) rfl ?_
      refine sMv (v := .bool _) rfl ?_
      refine sG rfl rfl ?_
      refine sMv (v := nv _) rfl ?_
      refine sG rfl rfl ?_
      refine sMv (v := nv _) rfl ?_
      refine sG rfl rfl ?_
      refine sBin (v := .bool true) rfl rfl (eqlT rfl) ?_
      refine sP (v := .bool true) rfl ?_
      refine sMv (v := .bool _) rfl ?_
      refine sG rfl rfl ?_
      refine sMv (v := .slice _ _ _) rfl ?_
      refine sG rfl rfl ?_
      refine sMv (v := .slice _ _ _) rfl ?_
      refine sG rfl rfl ?_
      have h92 := spec_EqualP p62 p68 (Nat.lt_of_le_of_lt (ls_trade _ _) (by decide))
      rw [decide_eq_true rfl] at h92
      refine sCall2 rfl call23 rfl rfl h92 ?_
      refine sP (v := .bool true) rfl ?_
      refine sMv (v := .bool _) rfl ?_
      refine sG rfl rfl ?_
      refine sMv (v := nv _) rfl ?_
      refine sG rfl rfl ?_
      refine sMv (v := nv _) rfl ?_
      refine sG rfl rfl ?_
      refine sBin (v := .bool true) rfl rfl (eqlT rfl) ?_
      refine sP (v := .bool true) rfl ?_
      refine sMv (v := .bool _) rfl ?_
      refine sG rfl rfl ?_
      refine sLdAll A24 S24 rfl gO rfl ?_
      refine sG rfl rfl ?_
      refine sLdAll A24 S24 rfl gD rfl ?_
      refine sG rfl rfl ?_
      obtain ⟨m102, h_, e_⟩ := ls_same rO hG hgl hgr
      refine sCall2 rfl call24 rfl rfl h_ ?_
      clear h_
      have x_ : Ext m68 m102 := e_
      replace hG := hG.ext x_
      replace ha := ha.ext x_
      replace E := E.trans x_
      replace hGl := hGl.ext x_
      replace gD := x_.cells gD
      replace rO := rO.ext x_
      replace iL := iL.ext x_
      replace gO := x_.cells gO
      replace i49 := i49.ext x_
      replace i56 := i56.ext x_
      replace p62 := p62.ext x_
      replace p68 := p68.ext x_
      clear x_
      clear e_
      refine sP (v := .bool true) rfl ?_
      refine sMv (v := .bool _) rfl ?_
      refine sG rfl rfl ?_
      refine sMv (v := .slice _ _ _) rfl ?_
      refine sG rfl rfl ?_
      refine sMv (v := .slice _ _ _) rfl ?_
      refine sG rfl rfl ?_
      have h107 := spec_Equal iL ha (by omega)
      rw [decide_eq_true rfl] at h107
      refine sCall2 rfl call22 rfl rfl h107 ?_
      refine sP (v := .bool true) rfl ?_
      refine sMv (v := .bool _) rfl ?_
      refine sG rfl rfl ?_
      obtain ⟨v110, m110, h110, rfl, e110⟩ := spec_awake hGl
      refine sCall0 rfl call13 h110 ?_
      refine sP (v := .bool true) rfl ?_
      refine sAs (v := .bool _) rfl ?_
      refine sNil (kSeqN ?_)
      refine cRet ?_
      exact ⟨.inr rfl, _, rfl, rfl, trivial⟩

end Go.AM
