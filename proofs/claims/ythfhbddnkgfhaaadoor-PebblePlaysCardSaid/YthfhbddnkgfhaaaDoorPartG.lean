/- Part 7 of the proof: Contracts of the program's functions. -/
import Derived.Test.YthfhbddnkgfhaaaDoorPartF
import Derived.Test.YthfhbddnkgfhaaaDoorPartE
import Derived.Test.YthfhbddnkgfhaaaDoorRows
import Derived.ProofKit
import Derived.LaidMore
import Derived.LaidHandle
import Derived.OpenShut
import Derived.Stop.Joined
import Derived.Below
import Derived.Carry
import Derived.ChangeSlices
import Derived.WideShapes
set_option linter.unusedVariables false
set_option linter.unusedSimpArgs false
/-! ### P24 -/
namespace Go.AM
open Go.Proofs
set_option maxRecDepth 100000
set_option linter.unusedVariables false
set_option linter.unusedSimpArgs false
/-- A slice that may be wiped. -/
def Wr (N M : Nat) (m : Mem) (s : Value) (n : Nat) : Prop := (s = .slice none 0 0 ∧ n = 0) ∨ ∃ b cap c, s = .slice (some ⟨b, 0, some 1⟩) n cap ∧ (N ≤ b ∧ b < M) ∧ Mem.get m b = .cells true c ∧ n ≤ c.size
/-- What wiping leaves. -/
def Wipe (N M : Nat) (m m' : Mem) : Prop := m'.size = m.size ∧ (∀ b, b < N ∨ M ≤ b → Mem.get m' b = Mem.get m b) ∧ ∀ b c, Mem.get m b = .cells true c → ∃ c', Mem.get m' b = .cells true c' ∧ c'.size = c.size
theorem Wipe.refl (N M : Nat) (m : Mem) : Wipe N M m m := ⟨rfl, fun _ _ => rfl, fun b c h => ⟨c, h, rfl⟩⟩
theorem Wipe.trans {N M : Nat} {a b c : Mem} (h : Wipe N M a b) (h' : Wipe N M b c) : Wipe N M a c := ⟨h'.1.trans h.1, fun i hi => (h'.2.1 i hi).trans (h.2.1 i hi), fun i x hx => by
  obtain ⟨y, hy, e⟩ := h.2.2 i x hx
  obtain ⟨z, hz, e'⟩ := h'.2.2 i y hy
  exact ⟨z, hz, e'.trans e⟩⟩
theorem Wipe.low {N M : Nat} {m m' : Mem} (h : Wipe N M m m') : Low N m m' := ⟨by rw [h.1]; exact Nat.le_refl _, fun b hb => h.2.1 b (.inl hb)⟩
theorem Wr.wipe {N M : Nat} {m m' : Mem} {s : Value} {n : Nat} (h : Wr N M m s n) (hw : Wipe N M m m') : Wr N M m' s n := by
  rcases h with h | ⟨b, cap, c, h1, h2, h3, h4⟩
  · exact .inl h
  · obtain ⟨c', h5, h6⟩ := hw.2.2 b c h3
    exact .inr ⟨b, cap, c', h1, h2, h5, by omega⟩
theorem OwnF.wr {N M : Nat} {m : Mem} {v : Value} {l : List Int} (h : OwnF N m v l) (hM : ∀ b, blkOf v = some b → b < M) : Wr N M m v l.length := by
  rcases h with ⟨rfl, rfl⟩ | ⟨b, cap, c, h1, h2, h3, h4, h5, _⟩
  · exact .inl ⟨rfl, rfl⟩
  · exact .inr ⟨b, cap, c, h1, ⟨h2, hM b (by rw [h1]; rfl)⟩, h3, by omega⟩
theorem zeroCells_one (z : Value) (n : Nat) : Builtin.zeroCells #[z] n = Array.replicate n z := by
  unfold Builtin.zeroCells
  apply Array.ext
  · simp
  · intro i h1 h2
    simp [Nat.mod_one]
theorem sClrW {P : Program} {ρ : Env} {m : Mem} {K : Env → Mem → Prop} {ops : Array Oper} {l : List Oper} {d : Option Nat} {ty t e : TypeId} {pos : String} {af : Array Edge} {x : Operand} {s z : Value} {N M n : Nat}
    (ht : undOf P t = some (.slice e)) (hz : zeroOf P e = some z) (h1 : z.cells = #[z]) (h2 : flat0 z = true) (h3 : Value.oneCell' z = true) (hx : evR ρ x = s) (hs : Wr N M m s n)
    (hk : ∀ m', Wipe N M m m' → (∀ b, blkOf s ≠ some b → Mem.get m' b = Mem.get m b) → wpOps P ops K l (updO ρ d (.tuple #[])) m') : wpOps P ops K (⟨d, .call ⟨.builtin .clear, ⟨[x]⟩, ⟨[t]⟩⟩, ty, pos, af, none⟩ :: l) ρ m := by
  rcases hs with ⟨rfl, _⟩ | ⟨b, cap, c, rfl, hN, hb, hn⟩
  · refine sO (opF_eff rfl rfl ?_) (hk m (.refl _ _ _) fun _ _ => rfl)
    simp only [aEff, hx, aClear, ht]
  · by_cases h0 : n = 0
    · refine sO (opF_eff rfl rfl ?_) (hk m (.refl _ _ _) fun _ _ => rfl)
      simp only [aEff, hx, aClear, ht, h0, if_true]
    · refine sO (opF_eff rfl rfl ?_) (hk (m.setIfInBounds b (.cells true (lay c 0 (Array.replicate n z)))) ⟨by simp, fun i hi => gSn (by omega), fun i c' hi => ?_⟩ fun i hi => gSn fun e => hi (by rw [← e]; rfl))
      · simp only [aEff, hx, aClear, ht, if_neg h0, hz, hb, h1, zeroCells_one]
        rw [if_pos ⟨by simp, by simp [h2], by simp; omega, by rw [Array.all_eq_true]; intro i hi; simp [h3]⟩]
      · by_cases hib : b = i
        · subst hib
          rw [hb] at hi; cases hi
          exact ⟨_, gS rfl (live hb), lay_size ..⟩
        · exact ⟨c', (gSn hib).trans hi, rfl⟩

theorem okf35 : okF Tryd.prog H0 35 13 = true := by kernel_rfl
theorem spec_SpoilRows {m : Mem} {v : Value} {cs : Array Value} {G : List (List Int)} {N M : Nat} (hO : OwnR N m v cs G) (hl : G.length < 1000000) (hMv : ∀ b, blkOf v = some b → b < M) (hMs : ∀ (i : Nat) (s : Value), cs[i]? = some s → ∀ b, blkOf s = some b → b < M) : ∃ w m', ACalls Tryd.prog 35 #[v] m w m' ∧ (Wipe N M m m') := by
  have hsz := hO.1.size
  have hvw : Wr N M m v G.length := by
    rcases hO.1 with ⟨rfl, h, _⟩ | ⟨b, cap, c, h1, h2, h3, h4, h5, _⟩
    · exact .inl ⟨rfl, h⟩
    · exact .inr ⟨b, cap, c, h1, ⟨h2, hMv b (by rw [h1]; rfl)⟩, h3, by omega⟩
  have hrows : ∀ i, i < G.length → ∃ s n, cs[i]? = some s ∧ Wr N M m s n ∧ (∃ q c, s = .slice q n c) ∧ ∀ b, blkOf s = some b → blkOf v ≠ some b := fun i hi => by
    obtain ⟨s, hs, ho, hb⟩ := hO.2 i _ (List.getElem?_eq_getElem hi)
    obtain ⟨q, c, e⟩ := ho.ints.len
    exact ⟨s, _, hs, ho.wr (hMs i s hs), ⟨q, c, e⟩, hb⟩
  obtain ⟨q, cap, rfl⟩ := hO.1.len
  refine wpF (args := [_]) mixed okf35 (fn := Tryd.f35) rfl rfl rfl (by simp) ?_
  refine cSeq ?_
  refine cSeq ?_
  refine cRegion ?_
  refine sMv (v := .slice _ _ _) rfl ?_
  refine sLen T22 rfl ?_
  refine sMv (v := nv 0) rfl ?_
  refine sNil (kSeqN ?_)
  refine cBlock ?_
  refine wpC_loop (fun k ρ m' => ∃ i, k = G.length - i ∧ i ≤ G.length ∧ Wipe N M m m' ∧ (∀ b, blkOf (.slice q G.length cap) = some b → Mem.get m' b = Mem.get m b) ∧ Has ρ [(0, .slice q G.length cap), (4, .slice q G.length cap), (5, nv G.length), (6, nv i)]) ⟨0, rfl, Nat.zero_le _, .refl _ _ _, fun _ _ => rfl, rfl, rfl, rfl, rfl, trivial⟩ ?_
  rintro k ρ m' ⟨i, rfl, hi, hw, hkeep, hh⟩
  rw [hh.env]; clear hh
  refine cSeq ?_
  refine cRegion ?_
  refine sBin rfl rfl (aInt_lss) ?_
  refine sNil (kSeqN ?_)
  refine cSeq ?_   -- seq 3
  refine cCond rfl (fun c0 => ?_) (fun c0 => ?_)
  ·
    obtain ⟨b1, p1, cc, e1, hb1, g1, hc1, x1⟩ := hO.1.at (by omega)
    cases e1
    obtain ⟨s, n, hs, hsw, ⟨qs, c', rfl⟩, hsb⟩ := hrows i c0
    refine cSkip (kSeqN ?_)
    refine cSeq ?_
    refine cBlock ?_
    refine cSeq ?_
    refine cRegion ?_
    refine sIx T22 S25 rfl rfl (by omega) ?_
    refine sLd (v := .slice qs n c') A25 rfl ((hkeep b1 rfl).trans g1) (by rw [Nat.zero_add, Nat.mul_one, x1 i (by omega)]; exact hs) ?_
    refine sAs (v := .slice _ _ _) rfl ?_
    refine sNil (kSeqN ?_)
    refine cRegion ?_
    refine sMv (v := .slice _ _ _) rfl ?_
    refine sClrW (N := N) (M := M) T25 Z3 rfl rfl rfl rfl (hsw.wipe hw) fun m2 hw2 hk2 => ?_
    refine sNil (kBlkN (kSeqN ?_))
    refine cRegion ?_
    refine sBin rfl rfl (aInt_add (b := 1) (by omega)) ?_
    refine sMv (v := nv _) rfl ?_
    refine sNil (kSeqN ?_)
    refine ⟨_, ?_, i + 1, rfl, by omega, hw.trans hw2, fun b hb => (hk2 b (fun e => hsb b e hb)).trans (hkeep b hb), rfl, rfl, rfl, rfl, trivial⟩
    omega
  ·
    refine cExit (kSeqE (kSeqE (kBlkS (kSeqN ?_))))
    refine cRegion ?_
    refine sMv (v := .slice _ _ _) rfl ?_
    refine sClrW (N := N) (M := M) T22 Z25 rfl rfl rfl rfl (hvw.wipe hw) fun m2 hw2 hk2 => ?_
    refine sNil ?_
    exact ⟨.inl rfl, _, rfl, hw.trans hw2⟩

end Go.AM

/-! ### M29 -/
namespace Go.AM
set_option linter.unusedVariables false
set_option linter.unusedSimpArgs false
theorem stepE_keep {d y x d' : Nat} {es : List (Nat × Nat)} (h : lookE es x = some d') : lookE (stepE d y es) x = some d' := by
  unfold stepE; split
  · rw [lookE_append, h]; rfl
  · exact h
theorem stepE_has (d y : Nat) (es : List (Nat × Nat)) : ∃ d', lookE (stepE d y es) y = some d' ∧ (d' = d ∨ (y, d') ∈ es) := by
  unfold stepE; split
  · rename_i h
    exact ⟨d, by rw [lookE_append, h, lookE_cons, if_pos rfl]; rfl, .inl rfl⟩
  · rename_i h
    match h1 : lookE es y with
    | none => exact absurd h1 h
    | some d' => exact ⟨d', rfl, .inr (lookE_mem h1)⟩
theorem roundE_keep {P : List Nat} {k x d y d' : Nat} {es : List (Nat × Nat)} (h : lookE es y = some d') : ∀ n, lookE (roundE P k x d n es) y = some d'
  | 0 => h
  | n + 1 => by
    rw [roundE]; split
    · exact stepE_keep (roundE_keep h n)
    · exact roundE_keep h n
structure Bd (D : Nat) (es : List (Nat × Nat)) : Prop where
  sort : es.Pairwise fun p q => p.2 ≤ q.2
  top : ∀ q ∈ es, q.2 ≤ D + 1
theorem Bd.step {D y : Nat} {es : List (Nat × Nat)} (h : Bd D es) : Bd D (stepE (D + 1) y es) := by
  unfold stepE; split
  · refine ⟨List.pairwise_append.2 ⟨h.sort, List.pairwise_singleton _ _, fun p hp q hq => ?_⟩, fun q hq => ?_⟩
    · rw [List.mem_singleton.1 hq]; exact h.top p hp
    · rcases List.mem_append.1 hq with hq | hq
      · exact h.top q hq
      · rw [List.mem_singleton.1 hq]; exact Nat.le_refl _
  · exact h
theorem Bd.round {P : List Nat} {k x D : Nat} {es : List (Nat × Nat)} (h : Bd D es) : ∀ n, Bd D (roundE P k x D n es)
  | 0 => h
  | n + 1 => by
    rw [roundE]; split
    · exact (Bd.round h n).step
    · exact Bd.round h n
theorem roundE_has {P : List Nat} {k x D : Nat} {es : List (Nat × Nat)} (h : Bd D es) : ∀ n m, m < n → wayB P k x m = true → ∃ d', lookE (roundE P k x D n es) (x ^^^ 2 ^ m) = some d' ∧ d' ≤ D + 1
  | 0, m, hm, _ => by omega
  | n + 1, m, hm, hw => by
    rw [roundE]
    by_cases e : m = n
    · subst e
      rw [if_pos hw]
      obtain ⟨d', h1, h2⟩ := stepE_has (D + 1) (x ^^^ 2 ^ m) (roundE P k x D m es)
      refine ⟨d', h1, ?_⟩
      rcases h2 with rfl | h2
      · exact Nat.le_refl _
      · exact (h.round m).top _ h2
    · obtain ⟨d', h1, h2⟩ := roundE_has h n m (by omega) hw
      refine ⟨d', ?_, h2⟩
      split
      · exact stepE_keep h1
      · exact h1
/-- The entries ahead of a place have all their neighbours; the entries rise. -/
structure Que (P : List Nat) (k i : Nat) (es : List (Nat × Nat)) : Prop where
  sort : es.Pairwise fun p q => p.2 ≤ q.2
  top : ∀ p, es[i]? = some p → ∀ q ∈ es, q.2 ≤ p.2 + 1
  done : ∀ (j : Nat) (p : Nat × Nat), j < i → es[j]? = some p → ∀ n, n < P.length → wayB P k p.1 n = true → ∃ d, lookE es (p.1 ^^^ 2 ^ n) = some d ∧ d ≤ p.2 + 1
theorem Que.far {P : List Nat} {k : Nat} (hP : P.length ≤ 10) : ∀ (f i : Nat) {es : List (Nat × Nat)}, GoodE P.length es → Que P k i es → f + i = 1025 → i ≤ es.length → Que P k (farF P k f i es).length (farF P k f i es)
  | 0, i, es, hg, hq, hf, hi => by
    have := hg.length
    have := Nat.pow_le_pow_right (n := 2) (by omega) hP
    omega
  | f + 1, i, es, hg, hq, hf, hi => by
    rw [farF]
    split
    · rename_i hn
      have : es.length = i := by rw [List.getElem?_eq_none_iff] at hn; omega
      subst this
      exact hq
    · rename_i p hp
      have hil := (List.getElem?_eq_some_iff.1 hp).1
      have hb : Bd p.2 es := ⟨hq.sort, hq.top p hp⟩
      have hb' := hb.round (P := P) (k := k) (x := p.1) P.length
      have hp2 : p.2 < es.length := by have := hg.low i p hp; omega
      refine Que.far hP f (i + 1) (hg.round (hg.lt p (List.mem_of_getElem? hp)) hp2 _ (Nat.le_refl _)) ⟨hb'.sort, fun p' hp' q hq' => ?_, fun j r hj hr n hn hw => ?_⟩ (by omega) (by have := roundE_len P k p.1 p.2 es P.length; omega)
      · have h1 := hb'.top q hq'
        have h2 := roundE_get (P := P) (k := k) (x := p.1) (d := p.2) hp P.length
        obtain ⟨hl, he⟩ := List.getElem?_eq_some_iff.1 hp'
        obtain ⟨hl2, he2⟩ := List.getElem?_eq_some_iff.1 h2
        have h3 := List.pairwise_iff_getElem.1 hb'.sort i (i + 1) hl2 hl (by omega)
        rw [he, he2] at h3
        omega
      · by_cases e : j = i
        · subst e
          have h2 := roundE_get (P := P) (k := k) (x := p.1) (d := p.2) hp P.length
          rw [h2] at hr
          obtain rfl := Option.some.inj hr
          exact roundE_has hb P.length n hn hw
        · have h0 : es[j]? = some r := by
            have h2 := roundE_get (P := P) (k := k) (x := p.1) (d := p.2) (List.getElem?_eq_getElem (show j < es.length by omega)) P.length
            rw [h2] at hr
            rw [List.getElem?_eq_getElem (by omega)]; exact hr
          obtain ⟨d, h1, h3⟩ := hq.done j r (by omega) h0 n hn hw
          exact ⟨d, roundE_keep h1 _, h3⟩
theorem farM_next {P : List Nat} {k g : Nat} (hP : P.length ≤ 10) (hg : g < 2 ^ P.length) {x d n : Nat} (h : lookE (farM P k g) x = some d) (hn : n < P.length) (hw : wayB P k x n = true) : ∃ d', lookE (farM P k g) (x ^^^ 2 ^ n) = some d' ∧ d' ≤ d + 1 := by
  unfold farM at *
  split at h
  · cases h
  rename_i hk
  rw [if_neg hk]
  have hq := Que.far hP 1025 0 (.one hg) (k := k) ⟨List.pairwise_singleton _ _, fun p hp q hq => (by simp at hp hq; subst hp hq; omega), fun j p hj => (by omega)⟩ rfl (by simp)
  obtain ⟨j, hj, he⟩ := List.getElem_of_mem (lookE_mem h)
  exact hq.done j _ hj (by rw [List.getElem?_eq_getElem hj, he]) n hn hw
theorem farM_root {P : List Nat} {k g : Nat} (hg : g < 2 ^ P.length) (hk : popc g ≤ k) : lookE (farM P k g) g = some 0 :=
  lookE_of_mem (farM_good hg).once (farM_bfs hg hk).root
theorem mayM_full {P : List Nat} (hP : LowP P) {x n : Nat} (h : ∀ i, i < n → x.testBit i = true) : mayM P x n = true := by
  refine decide_eq_true (Nat.eq_of_testBit_eq fun i => ?_)
  rw [Nat.testBit_and]
  by_cases hi : i < n
  · rw [h i hi, Bool.true_and]
  · rw [Nat.testBit_lt_two_pow (Nat.lt_of_lt_of_le (getD_lowP hP n) (Nat.pow_le_pow_right (by omega) (by omega))), Bool.and_false]
theorem reach_all {P : List Nat} {k g : Nat} (hL : LowP P) (hP : P.length ≤ 10) (hg : g < 2 ^ P.length) (hk : P.length ≤ k) : ∃ d, lookE (farM P k g) 0 = some d := by
  have hpo : ∀ {x}, x < 2 ^ P.length → popc x ≤ k := fun hx => Nat.le_trans (popc_le_of_lt hx) hk
  have hway : ∀ {x n}, x < 2 ^ P.length → n < P.length → (∀ i, i < n → x.testBit i = true) → wayB P k x n = true := fun {x n} hx hn h => by
    unfold wayB
    rw [mayM_full hL h, decide_eq_true (hpo (Nat.xor_lt_two_pow hx (Nat.pow_lt_pow_right (by omega) hn)))]; rfl
  have up : ∀ n, n ≤ P.length → ∃ x d, x < 2 ^ P.length ∧ lookE (farM P k g) x = some d ∧ ∀ i, i < n → x.testBit i = true := by
    intro n
    induction n with
    | zero => exact fun _ => ⟨g, 0, hg, farM_root hg (hpo hg), fun i hi => by omega⟩
    | succ n ih =>
      intro hn
      obtain ⟨x, d, hx, hl, hb⟩ := ih (by omega)
      by_cases hb' : x.testBit n = true
      · exact ⟨x, d, hx, hl, fun i hi => if e : i = n then e ▸ hb' else hb i (by omega)⟩
      · obtain ⟨d', h1, _⟩ := farM_next hP hg hl (n := n) (by omega) (hway hx (by omega) hb)
        refine ⟨_, d', Nat.xor_lt_two_pow hx (Nat.pow_lt_pow_right (by omega) (by omega)), h1, fun i hi => ?_⟩
        rw [Nat.testBit_xor, Nat.testBit_two_pow]
        by_cases e : i = n
        · subst e; simp at hb'; simp [hb']
        · rw [hb i (by omega), decide_eq_false (by omega)]; rfl
  obtain ⟨x, d, hx, hl, hb⟩ := up P.length (Nat.le_refl _)
  obtain rfl : x = 2 ^ P.length - 1 := by
    refine Nat.eq_of_testBit_eq fun i => ?_
    rw [Nat.testBit_two_pow_sub_one]
    by_cases hi : i < P.length
    · rw [hb i hi, decide_eq_true hi]
    · rw [decide_eq_false hi, Nat.testBit_lt_two_pow (Nat.lt_of_lt_of_le hx (Nat.pow_le_pow_right (by omega) (by omega)))]
  have down : ∀ m n, n + m = P.length → ∃ d, lookE (farM P k g) (2 ^ n - 1) = some d := by
    intro m
    induction m with
    | zero => intro n hn; rw [show n = P.length by omega]; exact ⟨d, hl⟩
    | succ m ih =>
      intro n hn
      obtain ⟨d1, h1⟩ := ih (n + 1) (by omega)
      have hlt : 2 ^ (n + 1) - 1 < 2 ^ P.length := by
        have := Nat.pow_le_pow_right (n := 2) (by omega) (show n + 1 ≤ P.length by omega)
        have := Nat.two_pow_pos (n + 1)
        omega
      obtain ⟨d2, h2, _⟩ := farM_next hP hg h1 (n := n) (by omega) (hway hlt (by omega) fun i hi => by rw [Nat.testBit_two_pow_sub_one]; exact decide_eq_true (by omega))
      refine ⟨d2, ?_⟩
      rw [← h2]
      congr 1
      refine Nat.eq_of_testBit_eq fun i => ?_
      rw [Nat.testBit_xor, Nat.testBit_two_pow, Nat.testBit_two_pow_sub_one, Nat.testBit_two_pow_sub_one]
      by_cases e : i = n
      · subst e; simp
      · by_cases e2 : i < n
        · rw [decide_eq_true e2, decide_eq_true (show i < n + 1 by omega), decide_eq_false (by omega)]; rfl
        · rw [decide_eq_false e2, decide_eq_false (show ¬ i < n + 1 by omega), decide_eq_false (by omega)]; rfl
  exact down P.length 0 (by omega)
theorem isShort_all {P : List Nat} {k g : Nat} (hL : LowP P) (hP : P.length ≤ 10) (hg : g < 2 ^ P.length) (hk : P.length ≤ k) : isShort P k g = true := by
  obtain ⟨d, h⟩ := reach_all hL hP hg hk
  rw [isShort, h]; rfl
theorem trade_ne {G : List (List Int)} {gs : List Int} (h : withE G gs = 0) : tradeG G gs ≠ [] := by
  obtain ⟨N, g, rfl, hN, rfl, hg⟩ := withE_nat h
  have h1 := hN.one
  have hl : (needsM N).length = N.length := by simp [needsM]
  have hs := isShort_all (k := N.length) (g := posM g) hN.lowP (by rw [hl]; exact hN.ten) (by rw [hl]; exact posM_lt hg.lt) (by omega)
  unfold tradeG
  rw [natsG_ofs2, nats_ofs, ofs2_length]
  obtain ⟨n, hn⟩ : ∃ n, N.length = n + 1 := ⟨N.length - 1, by omega⟩
  rw [hn] at hs ⊢
  rw [tradeF]
  split
  · simp
  · rename_i hne
    intro h0
    exact hne ⟨hs, .inl (by rw [h0]; rfl)⟩
end Go.AM

/-! ### P27 -/
namespace Go.AM
open Go.Proofs
set_option maxRecDepth 100000
set_option linter.unusedVariables false
set_option linter.unusedSimpArgs false
def greatB (G : List (List Int)) : Bool := decide (14 < G.length) || G.any fun g => decide (5 < g.length)
theorem greatB_not {G : List (List Int)} (h : greatB G ≠ true) : G.length ≤ 14 ∧ ∀ g ∈ G, g.length ≤ 5 := by
  have h' : greatB G = false := Bool.eq_false_iff.2 h
  unfold greatB at h'
  rw [Bool.or_eq_false_iff] at h'
  have h1 := of_decide_eq_false h'.1
  refine ⟨by omega, fun g hg => ?_⟩
  have h2 := List.any_eq_false.1 h'.2 g hg
  simp at h2; omega
theorem popc_half (x : Nat) : popc x = x % 2 + popc (x / 2) := by
  have := popc_double (x / 2) (x % 2) (Nat.mod_lt _ (by omega))
  rwa [Nat.mod_add_div] at this
theorem sShr {P : Program} {ρ : Env} {m : Mem} {K : Env → Mem → Prop} {ops : Array Oper} {l : List Oper} {d : Option Nat} {ty t tz : TypeId} {pos : String} {af : Array Edge} {x y : Operand} {a b : Nat} {k : IntKind}
    (hx : evR ρ x = nv a) (hy : evR ρ y = .int k (Int.ofNat b)) (h : a < 9223372036854775808) (hk : wpOps P ops K l (updO ρ d (nv (a >>> b))) m) :
    wpOps P ops K (⟨d, .binOp .shr t x y tz, ty, pos, af, none⟩ :: l) ρ m := by
  refine sP (v := nv (a >>> b)) ?_ hk
  simp only [aPure, hx, hy, aBin, nv]
  rw [if_pos (.inr trivial)]
  exact aInt_shr h
theorem posM_snoc (l : List Nat) (n : Nat) : posM (l ++ [n]) = posM l ||| 2 ^ n := by simp [posM, posFrom]
theorem nats_take (l : List Int) (i : Nat) : nats (l.take i) = (nats l).take i := by simp [nats, List.map_take]
theorem mayM_iff {N : List (List Nat)} {n : Nat} (hn : n < N.length) (x : Nat) : mayM (needsM N) x n = true ↔ ∀ k ∈ N.getD n [], x.testBit k = true := by
  have hg : (needsM N).getD n 0 = posM (N.getD n []) := by
    simp [needsM, List.getD_eq_getElem?_getD, List.getElem?_map, List.getElem?_eq_getElem hn]
  unfold mayM
  rw [hg, decide_eq_true_eq]
  constructor
  · intro h k hk
    have := congrArg (·.testBit k) h
    simp only [Nat.testBit_and, posM_bit, decide_eq_true hk, Bool.and_true] at this
    exact this
  · intro h
    refine Nat.eq_of_testBit_eq fun i => ?_
    rw [Nat.testBit_and, posM_bit]
    by_cases hi : i ∈ N.getD n []
    · rw [h i hi, decide_eq_true hi]; rfl
    · rw [decide_eq_false hi, Bool.and_false]

theorem okf12 : okF Tryd.prog H0 12 20 = true := by kernel_rfl
theorem spec_Great {m : Mem} {s : Value} {G : List (List Int)} (hG : RowsAt m s G) : ∃ v m', ACalls Tryd.prog 12 #[.agg #[s]] m v m' ∧ (v = .bool (greatB G) ∧ Ext m m') := by
  obtain ⟨q, cap, rfl⟩ := hG.len
  have he : Ext m (m.push (.cells true #[.slice q G.length cap])) := .push _ _
  refine wpF (args := [_]) mixed okf12 (fn := Tryd.f12) rfl rfl rfl (by simp) ?_
  refine cSeq ?_
  refine cRegion ?_
  refine sBox (v := .agg _) rfl ?_
  refine sAs (v := .bool _) rfl ?_
  refine sNil (kSeqN ?_)
  refine cSeq ?_   -- seq 1
  refine cSeq ?_
  refine cRegion ?_
  refine sFA F24_0 rfl ?_
  refine sLd A22 rfl (by simp (disch := first | omega | (simp only [Array.size_push, Array.size_setIfInBounds]; done) | (simp only [Array.size_push, Array.size_setIfInBounds]; omega)) only [gP, gPn, gS, gSn]; try rfl) rfl ?_
  refine sLen T22 rfl ?_
  refine sBin (b := 14) rfl rfl aInt_gtr ?_
  refine sNil (kSeqN ?_)
  refine cCond rfl (fun c0 => ?_) (fun c0 => ?_)
  ·
    refine cSeq ?_
    refine cRegion ?_
    refine sAs (v := .bool _) rfl ?_
    refine sNil (kSeqN ?_)
    refine cRet (kSeqR ?_)
    exact ⟨.inr rfl, _, rfl, by rw [greatB, decide_eq_true c0]; rfl, he⟩
  ·
    refine cSkip (kSeqN ?_)
    refine cSeq ?_
    refine cSeq ?_
    refine cRegion ?_
    refine sFA F24_0 rfl ?_
    refine sLd A22 rfl (by simp (disch := first | omega | (simp only [Array.size_push, Array.size_setIfInBounds]; done) | (simp only [Array.size_push, Array.size_setIfInBounds]; omega)) only [gP, gPn, gS, gSn]; try rfl) rfl ?_
    refine sLen T22 rfl ?_
    refine sMv (v := nv 0) rfl ?_
    refine sNil (kSeqN ?_)
    refine cBlock ?_
    refine wpC_loop (fun k ρ m' => ∃ i, k = G.length - i ∧ i ≤ G.length ∧ (∀ j g, j < i → G[j]? = some g → g.length ≤ 5) ∧ m.push (.cells true #[.slice q G.length cap]) = m' ∧ Has ρ [(1, .pointer (some ⟨m.size, 0, none⟩)), (10, .slice q G.length cap), (11, nv G.length), (12, nv i)]) ⟨0, rfl, by omega, by omega, rfl, rfl, rfl, rfl, rfl, trivial⟩ ?_
    rintro k ρ _ ⟨i, rfl, hi, hr, rfl, hh⟩
    rw [hh.env]; clear hh
    refine cSeq ?_
    refine cRegion ?_
    refine sBin rfl rfl (aInt_lss) ?_
    refine sNil (kSeqN ?_)
    refine cSeq ?_   -- seq 7
    refine cCond rfl (fun c1 => ?_) (fun c1 => ?_)
    ·
      obtain ⟨b1, o1, p1, r1, cc, e1, g1, x1⟩ := hG.at (by omega)
      cases e1
      obtain ⟨s1, hs1, ha⟩ := x1 i G[i] (by simp)
      obtain ⟨qs, cs, rfl⟩ := ha.len
      refine cSkip (kSeqN ?_)
      refine cSeq ?_
      refine cBlock ?_
      refine cSeq ?_
      refine cRegion ?_
      refine sIx T22 S25 rfl rfl (by omega) ?_
      refine sLd (v := .slice _ _ _) A25 rfl (he.cells g1) hs1 ?_
      refine sAs (v := .slice _ _ _) rfl ?_
      refine sNil (kSeqN ?_)
      refine cSeq ?_
      refine cRegion ?_
      refine sMv (v := .slice _ _ _) rfl ?_
      refine sLen T25 rfl ?_
      refine sBin (b := 5) rfl rfl aInt_gtr ?_
      refine sNil (kSeqN ?_)
      refine cCond rfl (fun c2 => ?_) (fun c2 => ?_)
      ·
        refine cSeq ?_
        refine cRegion ?_
        refine sAs (v := .bool _) rfl ?_
        refine sNil (kSeqN ?_)
        refine cRet (kBlkR (kSeqR (kSeqR (kBlkR (kSeqR ?_)))))
        refine ⟨.inr rfl, _, rfl, ?_, he⟩
        rw [greatB, List.any_eq_true.2 ⟨G[i], List.getElem_mem c1, decide_eq_true c2⟩, Bool.or_true]; rfl
      ·
        refine cSkip (kBlkN (kSeqN ?_))
        refine cRegion ?_
        refine sBin rfl rfl (aInt_add (b := 1) (by omega)) ?_
        refine sMv (v := nv _) rfl ?_
        refine sNil (kSeqN ?_)
        refine ⟨_, ?_, i + 1, rfl, by omega, fun j g hj hg => ?_, rfl, rfl, rfl, rfl, rfl, trivial⟩
        · omega
        · by_cases e : j = i
          · subst e
            rw [List.getElem?_eq_getElem c1] at hg
            obtain rfl := Option.some.inj hg
            omega
          · exact hr j g (by omega) hg
    ·
      refine cExit (kSeqE (kSeqE (kBlkS (kSeqN ?_))))
      refine cSeq ?_
      refine cRegion ?_
      refine sAs (v := .bool _) rfl ?_
      refine sNil (kSeqN ?_)
      refine cRet ?_
      refine ⟨.inr rfl, _, rfl, ?_, he⟩
      rw [greatB, decide_eq_false c0, Bool.false_or]
      rw [Bool.eq_false_iff.2 (show (G.any fun g => decide (5 < g.length)) ≠ true from fun h => ?_)]; rfl
      obtain ⟨g, hg, h5⟩ := List.any_eq_true.1 h
      obtain ⟨j, hj, hje⟩ := List.getElem_of_mem hg
      have := hr j g (by omega) (by rw [List.getElem?_eq_getElem hj, hje])
      have := of_decide_eq_true h5
      omega

def H14 : Nat → List (Nat × Nat) := fun id => if id = 5 then [(1,3),(1,5),(1,6)] else []
theorem okf14 : okF Tryd.prog H14 14 23 = true := by kernel_rfl
theorem spec_Own {m : Mem} {s : Value} {G : List (List Int)} (hG : RowsAt m s G) (hl : G.length ≤ 14) (hg : ∀ g ∈ G, g.length ≤ 5) : ∃ v m', ACalls Tryd.prog 14 #[.agg #[s]] m v m' ∧ (∃ w cs, v = .agg #[w] ∧ OwnR m.size m' w cs G ∧ Ext m m') := by
  obtain ⟨q, cap, rfl⟩ := hG.len
  refine wpF (args := [_]) mixed okf14 (fn := Tryd.f14) rfl rfl rfl (by simp) ?_
  refine cSeq ?_
  refine cRegion ?_
  refine sBox (v := .agg _) rfl ?_
  refine sAllocB (bl := m.size + 1) (by simp) Z24 (by kernel_rfl) ?_
  refine sNil (kSeqN ?_)
  refine cSeq ?_
  refine cRegion ?_
  refine sAllocB (bl := m.size + 2) (by simp) Z24 (by kernel_rfl) ?_
  refine sNil (kSeqN ?_)
  refine cSeq ?_
  refine cSeq ?_
  refine cRegion ?_
  refine sFA F24_0 rfl ?_
  refine sLd A22 rfl (by simp (disch := first | omega | (simp only [Array.size_push, Array.size_setIfInBounds]; done) | (simp only [Array.size_push, Array.size_setIfInBounds]; omega)) only [gP, gPn, gS, gSn]; try rfl) rfl ?_
  refine sLen T22 rfl ?_
  refine sMv (v := nv 0) rfl ?_
  refine sNil (kSeqN ?_)
  refine cBlock ?_
  refine wpC_loop (fun k ρ m' => ∃ i v cs, k = G.length - i ∧ i ≤ G.length ∧ Low (m.size + 2) (((m.push (.cells true #[.slice q G.length cap])).push (.cells true #[.slice none 0 0])).push (.cells true #[.slice none 0 0])) m' ∧ m.size + 3 ≤ m'.size ∧ Mem.get m' (m.size + 2) = .cells true #[v] ∧ OwnR (m.size + 3) m' v cs (G.take i) ∧ Has ρ [(1, .pointer (some ⟨m.size, 0, none⟩)), (2, .pointer (some ⟨m.size + 1, 0, none⟩)), (3, .pointer (some ⟨m.size + 2, 0, none⟩)), (7, .slice q G.length cap), (8, nv G.length), (9, nv i)]) ⟨0, .slice none 0 0, #[], rfl, Nat.zero_le _, .refl _ _, by simp, gP (by simp), .nil _ _, rfl, rfl, rfl, rfl, rfl, rfl, trivial⟩ ?_
  rintro k ρ m' ⟨i, v, cs, rfl, hi, hLo, hz, g2, hO, hh⟩
  obtain ⟨qv, cv, rfl⟩ := hO.1.len
  rw [hh.env]; clear hh
  have hE : Ext m m' := Low.to_ext ((Ext.push m _).trans ((Ext.push _ _).trans (Ext.push _ _))) hLo (by omega)
  refine cSeq ?_
  refine cRegion ?_
  refine sBin rfl rfl (aInt_lss) ?_
  refine sNil (kSeqN ?_)
  refine cSeq ?_   -- seq 5
  refine cCond rfl (fun c0 => ?_) (fun c0 => ?_)
  ·
    obtain ⟨b1, o1, p1, r1, cc, e1, g1, x1⟩ := hG.at (by omega)
    cases e1
    obtain ⟨s1, hs1, ha⟩ := x1 i G[i] (by simp)
    obtain ⟨qs, c1s, rfl⟩ := ha.len
    have hgl := hg G[i] (List.getElem_mem c0)
    have htl : (G.take i).length = i := by rw [List.length_take]; omega
    have ha1 := ha.ext hE
    refine cSkip (kSeqN ?_)
    refine cSeq ?_
    refine cBlock ?_
    refine cSeq ?_
    refine cRegion ?_
    refine sIx T22 S25 rfl rfl (by omega) ?_
    refine sLd (v := .slice _ _ _) A25 rfl (hE.cells g1) hs1 ?_
    refine sAs (v := .slice _ _ _) rfl ?_
    refine sNil (kSeqN ?_)
    refine cDrawH (hs := [(1,3),(1,5),(1,6)]) rfl (by decide) ?_
    refine lStepO (sFA F24_0 rfl (sNil fun e0 hm0 => ?_))
    refine lStepLd (v := .slice _ _ _) A22 rfl g2 rfl fun e1 hm1 hv1 hr1 => ?_
    refine lStepO (sBuildS (c := #[]) T25 S3 Z3 (by decide) (by decide) (by decide) (by kernel_rfl) rfl rfl (sNil fun e2 hm2 => ?_))
    refine lStepO (sMv (v := .slice _ _ _) rfl (sNil fun e3 hm3 => ?_))
    refine lStepO (sApp App25 rfl rfl (N := m'.size) (p := []) (.inr ⟨m'.size, 0, #[], rfl, Nat.le_refl _, gP rfl, by simp, by simp, by simp⟩) (ha1.ext (.push _ _)) (by simp) (by simp; omega) fun v17 m17 hO17 hL17 => (sNil fun e4 hm4 => ?_))
    rw [List.nil_append] at hO17
    have g217 := hL17.cells (show m.size + 2 < m'.size by omega) ((gPn (live g2)).trans g2)
    have z17 := hL17.1
    simp only [Array.size_push] at z17
    obtain ⟨q17, c17, rfl⟩ := hO17.ints.len
    have hE17 : Ext m' m17 := Low.to_ext (.push _ _) hL17 (Nat.le_refl _)
    refine lStepO (sBuildS T22 S25 Z25 (by decide) (by decide) (by decide) (by kernel_rfl) fillV rfl (sNil fun e5 hm5 => ?_))
    refine lStepO (sAppC El22 rfl rfl (N := m.size + 3) (n := (G.take i).length) (cs := cs) (d := #[.slice q17 G[i].length c17]) ((hO.ext hE17).ext (.push _ _)).1 (gP rfl) rfl (by kernel_rfl) (by simp; omega) (by omega) fun v' m4 hO4 hL4 hG4 => (sNil fun e6 hm6 => ?_))
    have g24 := hL4.cells (show m.size + 2 < m.size + 3 by omega) ((gPn (live g217)).trans g217)
    have hgr := ((hO.ext hE17).ext (.push _ _)).grew ((hO17.mono (by omega)).ext (.push _ _)) (fun b hb e => by
      have h1 := (hO17.lt hb).1
      have h2 := (hO.1.lt e).2
      omega) hG4 hO4
    obtain ⟨q4, cp4, rfl⟩ := hO4.len
    refine lStepO (sFA F24_0 rfl (sNil fun e7 hm7 => ?_))
    refine lStepO (sSt (v := .slice _ _ _) S22 rfl rfl g24 (by simp) rfl rfl (sNil fun e8 hm8 => ?_))
    refine ⟨?_, (kBlkN (kSeqN ?_))⟩
    ·
      refine obl_atE (e := e1) (e' := e3) (by simp) (by rfl) (by simp) ((hr1 e3.m _ _ (by rw [hm3, gPn (live g2)]; exact g2) (by rfl)).trans (congrArg some hv1.symm)) ?_
      refine obl_atE (e := e1) (e' := e5) (by simp) (by rfl) (by simp) ((hr1 e5.m _ _ (by rw [hm5]; exact g217) (by rfl)).trans (congrArg some hv1.symm)) ?_
      refine obl_atE (e := e1) (e' := e6) (by simp) (by rfl) (by simp) ((hr1 e6.m _ _ (by rw [hm6, gPn (live g217)]; exact g217) (by rfl)).trans (congrArg some hv1.symm)) ?_
      trivial
    refine cRegion ?_
    refine sBin rfl rfl (aInt_add (b := 1) (by omega)) ?_
    refine sMv (v := nv _) rfl ?_
    refine sNil (kSeqN ?_)
    refine ⟨_, ?_, i + 1, .slice q4 ((G.take i).length + 1) cp4, cs ++ #[.slice q17 G[i].length c17], rfl, by omega, hLo.trans ((Low.push _ (by omega) _).trans ((hL17.le (by omega)).trans ((Low.push _ (by omega) _).trans ((hL4.le (Nat.le_succ _)).trans (.set (Nat.le_refl _) _))))), ?_, by rw [gS rfl (live g24)]; rfl, ?_, rfl, rfl, rfl, rfl, rfl, rfl, trivial⟩
    · omega
    · have := hL4.1; simp only [Array.size_push] at this; simp only [Array.size_setIfInBounds]; omega
    · have := hgr.only (.set (m.size + 2) m4 (.cells true #[.slice q4 ((G.take i).length + 1) cp4])) (by omega)
      rw [List.take_add_one, List.getElem?_eq_getElem c0]
      exact this
  ·
    obtain rfl : i = G.length := by omega
    refine cExit (kSeqE (kSeqE (kBlkS (kSeqN ?_))))
    refine cSeq ?_
    refine cRegion ?_
    refine sLdAll A24 S24 rfl g2 rfl ?_
    refine sStAll S24 rfl rfl (hLo.cells (show m.size + 1 < m.size + 2 by omega) (by rw [gPn (by simp), gP (by simp)])) rfl rfl (by kernel_rfl) ?_
    refine sNil (kSeqN ?_)
    refine cRet ?_
    have g0 := hLo.cells (show m.size + 1 < m.size + 2 by omega) (r := true) (c := #[.slice none 0 0]) (by rw [gPn (by simp), gP (by simp)])
    rw [List.take_length] at hO ⊢
    exact ⟨.inr rfl, _, resRs_agg A24 S24 rfl (gS rfl (live g0)) rfl, _, cs, rfl, (hO.only (.set (m.size + 1) _ _) (by omega)).mono (by omega), hE.set (b := m.size + 1) (by omega) _⟩

theorem okf41 : okF Tryd.prog H0 41 57 = true := by kernel_rfl
theorem spec_refCheck {m : Mem} {s : Value} {G : List (List Int)} (hG : RowsAt m s G) : ∃ v m', ACalls Tryd.prog 41 #[.agg #[s]] m v m' ∧ (v = nv (checkG G) ∧ Ext m m') := by
  obtain ⟨q, cap, rfl⟩ := hG.len
  have he : Ext m (m.push (.cells true #[.slice q G.length cap])) := .push _ _
  refine wpF (args := [_]) mixed okf41 (fn := Tryd.f41) rfl rfl rfl (by simp) ?_
  refine cSeq ?_
  refine cRegion ?_
  refine sBox (v := .agg _) rfl ?_
  refine sAs (v := nv 0) rfl ?_
  refine sNil (kSeqN ?_)
  refine cSeq ?_   -- seq 1
  refine cSeq ?_
  refine cRegion ?_
  refine sFA F24_0 rfl ?_
  refine sLd A22 rfl (by simp (disch := first | omega | (simp only [Array.size_push, Array.size_setIfInBounds]; done) | (simp only [Array.size_push, Array.size_setIfInBounds]; omega)) only [gP, gPn, gS, gSn]; try rfl) rfl ?_
  refine sLen T22 rfl ?_
  refine sBin (b := 1) rfl rfl aInt_lss ?_
  refine sMv (v := .bool _) rfl ?_
  by_cases h1 : G.length < 1
  ·
    rw [decide_eq_true h1]
    refine sGno (q' := true) rfl rfl (by simp) ?_
    refine sGno (q' := true) rfl rfl (by simp) ?_
    refine sGno (q' := true) rfl rfl (by simp) ?_
    refine sGno (q' := true) rfl rfl (by simp) ?_
    refine sP (v := .bool _) rfl ?_
    refine sNil (kSeqN ?_)
    refine cCondT rfl ?_
    refine cSeq ?_
    refine cRegion ?_
    refine sAs (v := nv 2) rfl ?_
    refine sNil (kSeqN ?_)
    refine cRet (kSeqR ?_)
    exact ⟨.inr rfl, _, rfl, by rw [checkG, if_pos (.inl h1)]; rfl, he⟩
  ·
    rw [decide_eq_false h1]
    refine sG rfl rfl ?_
    refine sFA F24_0 rfl ?_
    refine sG rfl rfl ?_
    refine sLd A22 rfl (by simp (disch := first | omega | (simp only [Array.size_push, Array.size_setIfInBounds]; done) | (simp only [Array.size_push, Array.size_setIfInBounds]; omega)) only [gP, gPn, gS, gSn]; try rfl) rfl ?_
    refine sG rfl rfl ?_
    refine sLen T22 rfl ?_
    refine sG rfl rfl ?_
    refine sBin (b := 10) rfl rfl aInt_gtr ?_
    refine sP (v := .bool _) rfl ?_
    refine sNil (kSeqN ?_)
    refine cCond (p := 10 < G.length) rfl (fun c1 => ?_) (fun c1 => ?_)
    ·
      refine cSeq ?_
      refine cRegion ?_
      refine sAs (v := nv 2) rfl ?_
      refine sNil (kSeqN ?_)
      refine cRet (kSeqR ?_)
      exact ⟨.inr rfl, _, rfl, by rw [checkG, if_pos (.inr c1)]; rfl, he⟩
    ·
      have hck : checkG G = rowsE 0 G := by rw [checkG, if_neg (by omega)]
      rw [hck]
      refine cSkip (kSeqN ?_)
      refine cSeq ?_
      refine cSeq ?_
      refine cRegion ?_
      refine sFA F24_0 rfl ?_
      refine sLd A22 rfl (by simp (disch := first | omega | (simp only [Array.size_push, Array.size_setIfInBounds]; done) | (simp only [Array.size_push, Array.size_setIfInBounds]; omega)) only [gP, gPn, gS, gSn]; try rfl) rfl ?_
      refine sLen T22 rfl ?_
      refine sMv (v := nv 0) rfl ?_
      refine sNil (kSeqN ?_)
      refine cBlock ?_
      refine wpC_loop (fun k ρ m' => ∃ i, k = G.length - i ∧ i ≤ G.length ∧ rowsE 0 G = rowsE i (G.drop i) ∧ m.push (.cells true #[.slice q G.length cap]) = m' ∧ Has ρ [(1, .pointer (some ⟨m.size, 0, none⟩)), (18, .slice q G.length cap), (19, nv G.length), (20, nv i)]) ⟨0, rfl, by omega, rfl, rfl, rfl, rfl, rfl, rfl, trivial⟩ ?_
      rintro k ρ _ ⟨i, rfl, hi, hr, rfl, hh⟩
      rw [hh.env]; clear hh
      refine cSeq ?_
      refine cRegion ?_
      refine sBin rfl rfl (aInt_lss) ?_
      refine sNil (kSeqN ?_)
      refine cSeq ?_   -- seq 8
      refine cCond rfl (fun c2 => ?_) (fun c2 => ?_)
      ·
        obtain ⟨b1, o1, p1, r1, cc, e1, g1, x1⟩ := hG.at (by omega)
        cases e1
        obtain ⟨s1, hs1, ha⟩ := x1 i G[i] (by simp)
        obtain ⟨qs, cs, rfl⟩ := ha.len
        generalize hg : G[i] = g at *
        have hr2 : rowsE i (G.drop i) = if 2 < g.length then 2 else if rowE i (-1) g ≠ 0 then 15 else rowsE (i + 1) (G.drop (i + 1)) := by rw [drop_cons c2, hg, rowsE]
        refine cSkip (kSeqN ?_)
        refine cSeq ?_
        refine cBlock ?_
        refine cSeq ?_
        refine cRegion ?_
        refine sMv (v := nv _) rfl ?_
        refine sIx T22 S25 rfl rfl (by omega) ?_
        refine sLd (v := .slice _ _ _) A25 rfl (he.cells g1) hs1 ?_
        refine sAs (v := nv _) rfl ?_
        refine sAs (v := .slice _ _ _) rfl ?_
        refine sNil (kSeqN ?_)
        refine cSeq ?_   -- seq 11
        refine cSeq ?_
        refine cRegion ?_
        refine sMv (v := .slice _ _ _) rfl ?_
        refine sLen T25 rfl ?_
        refine sBin (b := 2) rfl rfl aInt_gtr ?_
        refine sNil (kSeqN ?_)
        refine cCond rfl (fun c3 => ?_) (fun c3 => ?_)
        ·
          refine cSeq ?_
          refine cRegion ?_
          refine sAs (v := nv 2) rfl ?_
          refine sNil (kSeqN ?_)
          refine cRet (kSeqR (kBlkR (kSeqR (kSeqR (kBlkR (kSeqR ?_))))))
          exact ⟨.inr rfl, _, rfl, by rw [hr, hr2, if_pos c3]; rfl, he⟩
        ·
          rw [if_neg c3] at hr2
          refine cSkip (kSeqN ?_)
          refine cSeq ?_
          refine cRegion ?_
          refine sMv (v := .slice _ _ _) rfl ?_
          refine sLen T25 rfl ?_
          refine sMv (v := nv 0) rfl ?_
          refine sNil (kSeqN ?_)
          refine cBlock ?_
          refine wpC_loop (fun k ρ m' => ∃ j last, k = g.length - j ∧ j ≤ g.length ∧ rowE i (-1) g = rowE i last (g.drop j) ∧ -1 ≤ last ∧ (j = 0 → last = -1) ∧ (∀ h, h + 1 = j → g[h]? = some last) ∧ m.push (.cells true #[.slice (some ⟨b1, o1, some 1⟩) G.length cap]) = m' ∧ Has ρ [(1, .pointer (some ⟨m.size, 0, none⟩)), (18, .slice (some ⟨b1, o1, some 1⟩) G.length cap), (19, nv G.length), (20, nv i), (3, nv i), (4, .slice qs g.length cs), (28, .slice qs g.length cs), (29, nv g.length), (30, nv j)]) ⟨0, -1, rfl, by omega, rfl, by omega, fun _ => rfl, fun h hh => by omega, rfl, rfl, rfl, rfl, rfl, rfl, rfl, rfl, rfl, rfl, trivial⟩ ?_
          rintro k ρ _ ⟨j, last, rfl, hj, hr3, hl1, hl0, hlk, rfl, hh⟩
          rw [hh.env]; clear hh
          refine cSeq ?_
          refine cRegion ?_
          refine sBin rfl rfl (aInt_lss) ?_
          refine sNil (kSeqN ?_)
          refine cSeq ?_   -- seq 16
          refine cCond rfl (fun c4 => ?_) (fun c4 => ?_)
          ·
            obtain ⟨b2, o2, p2, r2, cd, e2, g2, x2⟩ := ha.at (by omega)
            cases e2
            have hr4 : rowE i last (g.drop j) = if g[j] ≤ last ∨ Int.ofNat i ≤ g[j] then 15 else rowE i g[j] (g.drop (j + 1)) := by rw [drop_cons c4, rowE]
            refine cSkip (kSeqN ?_)
            refine cSeq ?_
            refine cBlock ?_
            refine cSeq ?_
            refine cRegion ?_
            refine sMv (v := nv _) rfl ?_
            refine sIx T25 S3 rfl rfl (by omega) ?_
            refine sLd (v := .int _ _) A3 rfl (he.cells g2) (x2 j g[j] (by simp)) ?_
            refine sAs (v := nv _) rfl ?_
            refine sAs (v := .int _ _) rfl ?_
            refine sNil (kSeqN ?_)
            refine cSeq ?_
            refine cRegion ?_
            refine sMv (v := .int _ _) rfl ?_
            refine sBinI (v := .bool (decide (g[j] < 0))) rfl rfl rfl ?_
            refine sMv (v := .bool _) rfl ?_
            by_cases h5 : g[j] < 0
            ·
              rw [decide_eq_true h5]
              refine sGno (q' := true) rfl rfl (by simp) ?_
              refine sGno (q' := true) rfl rfl (by simp) ?_
              refine sGno (q' := true) rfl rfl (by simp) ?_
              refine sP (v := .bool _) rfl ?_
              refine sMv (v := .bool _) rfl ?_
              refine sGno (q' := true) rfl rfl (by simp) ?_
              refine sGno (q' := true) rfl rfl (by simp) ?_
              refine sGno (q' := true) rfl rfl (by simp) ?_
              refine sGnoU rfl rfl ?_
              refine sGnoU rfl rfl ?_
              refine sGnoU rfl rfl ?_
              refine sGnoU rfl rfl ?_
              refine sGnoU rfl rfl ?_
              refine sGnoU rfl rfl ?_
              refine sGnoU rfl rfl ?_
              refine sGno (q' := true) rfl rfl (by simp) ?_
              refine sP (v := .bool _) rfl ?_
              refine sNil (kSeqN ?_)
              refine cCondT rfl ?_
              refine cSeq ?_
              refine cRegion ?_
              refine sAs (v := nv 15) rfl ?_
              refine sNil (kSeqN ?_)
              refine cRet (kBlkR (kSeqR (kSeqR (kBlkR (kBlkR (kSeqR (kSeqR (kBlkR (kSeqR ?_)))))))))
              exact ⟨.inr rfl, _, rfl, by rw [hr, hr2, if_pos (by rw [hr3, hr4, if_pos (.inl (by omega))]; decide)]; rfl, he⟩
            ·
              rw [decide_eq_false h5]
              refine sG rfl rfl ?_
              refine sMv (v := .int _ _) rfl ?_
              refine sG rfl rfl ?_
              refine sMv (v := nv _) rfl ?_
              refine sG rfl rfl ?_
              refine sBinI (b := Int.ofNat i) rfl rfl aInt_geqI ?_
              refine sP (v := .bool _) rfl ?_
              refine sMv (v := .bool _) rfl ?_
              by_cases h6 : Int.ofNat i ≤ g[j]
              ·
                rw [decide_eq_true h6]
                refine sGno (q' := true) rfl rfl (by simp) ?_
                refine sGno (q' := true) rfl rfl (by simp) ?_
                refine sGno (q' := true) rfl rfl (by simp) ?_
                refine sGnoU rfl rfl ?_
                refine sGnoU rfl rfl ?_
                refine sGnoU rfl rfl ?_
                refine sGnoU rfl rfl ?_
                refine sGnoU rfl rfl ?_
                refine sGnoU rfl rfl ?_
                refine sGnoU rfl rfl ?_
                refine sGno (q' := true) rfl rfl (by simp) ?_
                refine sP (v := .bool _) rfl ?_
                refine sNil (kSeqN ?_)
                refine cCondT rfl ?_
                refine cSeq ?_
                refine cRegion ?_
                refine sAs (v := nv 15) rfl ?_
                refine sNil (kSeqN ?_)
                refine cRet (kBlkR (kSeqR (kSeqR (kBlkR (kBlkR (kSeqR (kSeqR (kBlkR (kSeqR ?_)))))))))
                exact ⟨.inr rfl, _, rfl, by rw [hr, hr2, if_pos (by rw [hr3, hr4, if_pos (.inr h6)]; decide)]; rfl, he⟩
              ·
                rw [decide_eq_false h6]
                refine sG rfl rfl ?_
                refine sMv (v := nv _) rfl ?_
                refine sG rfl rfl ?_
                refine sBin (b := 0) rfl rfl aInt_gtr ?_
                refine sG rfl rfl ?_
                refine sMv (v := .bool _) rfl ?_
                by_cases h7 : 0 < j
                ·
                  rw [decide_eq_true h7]
                  obtain ⟨h, rfl⟩ : ∃ h, j = h + 1 := ⟨j - 1, by omega⟩
                  have hlh := hlk h rfl
                  refine sG rfl rfl ?_
                  refine sMv (v := .int _ _) rfl ?_
                  refine sG rfl rfl ?_
                  refine sMv (v := .slice _ _ _) rfl ?_
                  refine sG rfl rfl ?_
                  refine sMv (v := nv _) rfl ?_
                  refine sG rfl rfl ?_
                  refine sBin (v := nv h) rfl rfl (aInt_sub (b := 1) (by omega)) ?_
                  refine sG rfl rfl ?_
                  refine sIx T25 S3 rfl rfl (by omega) ?_
                  refine sG rfl rfl ?_
                  refine sLd (v := .int _ _) A3 rfl (he.cells g2) (x2 h last hlh) ?_
                  refine sG rfl rfl ?_
                  refine sBinI rfl rfl aInt_leqI ?_
                  refine sG rfl rfl ?_
                  refine sP (v := .bool _) rfl ?_
                  refine sP (v := .bool _) rfl ?_
                  refine sNil (kSeqN ?_)
                  refine cCond (p := g[h + 1] ≤ last) rfl (fun c7 => ?_) (fun c7 => ?_)
                  ·
                    refine cSeq ?_
                    refine cRegion ?_
                    refine sAs (v := nv 15) rfl ?_
                    refine sNil (kSeqN ?_)
                    refine cRet (kBlkR (kSeqR (kSeqR (kBlkR (kBlkR (kSeqR (kSeqR (kBlkR (kSeqR ?_)))))))))
                    exact ⟨.inr rfl, _, rfl, by rw [hr, hr2, if_pos (by rw [hr3, hr4, if_pos (.inl c7)]; decide)]; rfl, he⟩
                  ·
                    refine cSkip (kBlkN (kSeqN ?_))
                    refine cRegion ?_
                    refine sBin rfl rfl (aInt_add (b := 1) (by omega)) ?_
                    refine sMv (v := nv _) rfl ?_
                    refine sNil (kSeqN ?_)
                    refine ⟨_, ?_, h + 2, g[h + 1], rfl, by omega, by rw [hr3, hr4, if_neg (by omega)], by omega, by omega, fun u hu => (by obtain rfl : u = h + 1 := (by omega); simp), rfl, rfl, rfl, rfl, rfl, rfl, rfl, rfl, rfl, rfl, trivial⟩
                    omega
                ·
                  rw [decide_eq_false h7]
                  refine sGno (q' := false) rfl rfl (by simp) ?_
                  refine sGno (q' := false) rfl rfl (by simp) ?_
                  refine sGno (q' := false) rfl rfl (by simp) ?_
                  refine sGno (q' := false) rfl rfl (by simp) ?_
                  refine sGno (q' := false) rfl rfl (by simp) ?_
                  refine sGno (q' := false) rfl rfl (by simp) ?_
                  refine sGno (q' := false) rfl rfl (by simp) ?_
                  refine sG rfl rfl ?_
                  refine sP (v := .bool _) rfl ?_
                  refine sP (v := .bool _) rfl ?_
                  refine sNil (kSeqN ?_)
                  refine cCondF rfl ?_
                  refine cSkip (kBlkN (kSeqN ?_))
                  refine cRegion ?_
                  refine sBin rfl rfl (aInt_add (b := 1) (by omega)) ?_
                  refine sMv (v := nv _) rfl ?_
                  refine sNil (kSeqN ?_)
                  obtain rfl : j = 0 := by omega
                  have := hl0 rfl
                  refine ⟨_, ?_, 1, g[0], rfl, by omega, by rw [hr3, hr4, if_neg (by omega)], by omega, by omega, fun u hu => (by obtain rfl : u = 0 := (by omega); simp), rfl, rfl, rfl, rfl, rfl, rfl, rfl, rfl, rfl, rfl, trivial⟩
                  omega
          ·
            have hz : rowE i (-1) g = 0 := by rw [hr3, List.drop_of_length_le (by omega), rowE]
            refine cExit (kSeqE (kSeqE (kBlkS (kBlkN (kSeqN ?_)))))
            refine cRegion ?_
            refine sBin rfl rfl (aInt_add (b := 1) (by omega)) ?_
            refine sMv (v := nv _) rfl ?_
            refine sNil (kSeqN ?_)
            refine ⟨_, ?_, i + 1, rfl, by omega, by rw [hr, hr2, if_neg (by rw [hz]; decide)], rfl, rfl, rfl, rfl, rfl, trivial⟩
            omega
      ·
        refine cExit (kSeqE (kSeqE (kBlkS (kSeqN ?_))))
        refine cSeq ?_
        refine cRegion ?_
        refine sAs (v := nv 0) rfl ?_
        refine sNil (kSeqN ?_)
        refine cRet ?_
        exact ⟨.inr rfl, _, rfl, by rw [hr, List.drop_of_length_le (by omega)]; rfl, he⟩

theorem okf64 : okF Tryd.prog H0 64 25 = true := by kernel_rfl
theorem spec_May {m : Mem} {s : Value} {N : List (List Nat)} {x n : Nat} (hG : RowsAt m s (ofs2 N)) (hN : Dag N) (hx : x < 9223372036854775808) (hn : n < N.length) : ∃ v m', ACalls Tryd.prog 64 #[.agg #[s], nv x, nv n] m v m' ∧ (v = .bool (mayM (needsM N) x n) ∧ Ext m m') := by
  obtain ⟨q, cap, rfl⟩ := hG.len
  have he : Ext m (m.push (.cells true #[.slice q (ofs2 N).length cap])) := .push _ _
  obtain ⟨b1, o1, p1, r1, cc, e1, g1, x1⟩ := hG.at (by rw [ofs2_length]; omega)
  cases e1
  have hni : (ofs2 N)[n]? = some (ofs (N.getD n [])) := by simp [ofs2, List.getD_eq_getElem?_getD, List.getElem?_eq_getElem hn]
  obtain ⟨s1, hs1, ha⟩ := x1 n _ hni
  obtain ⟨qs, cs, rfl⟩ := ha.lenN
  have hlt : ∀ k ∈ N.getD n [], k < n := hN.less n _ (by rw [List.getD_eq_getElem?_getD, List.getElem?_eq_getElem hn]; rfl)
  have hiff := mayM_iff hn x
  have h2 : (N.getD n []).length ≤ 2 := hN.two _ (by rw [List.getD_eq_getElem?_getD, List.getElem?_eq_getElem hn]; simp)
  generalize hg : N.getD n [] = g at *
  refine wpF (args := [_, _, _]) mixed okf64 (fn := Tryd.f64) rfl rfl rfl (by simp) ?_
  refine cSeq ?_
  refine cRegion ?_
  refine sBox (v := .agg _) rfl ?_
  refine sAs (v := .bool _) rfl ?_
  refine sNil (kSeqN ?_)
  refine cSeq ?_
  refine cSeq ?_
  refine cRegion ?_
  refine sFA F24_0 rfl ?_
  refine sLd A22 rfl (by simp (disch := first | omega | (simp only [Array.size_push, Array.size_setIfInBounds]; done) | (simp only [Array.size_push, Array.size_setIfInBounds]; omega)) only [gP, gPn, gS, gSn]; try rfl) rfl ?_
  refine sMv (v := nv _) rfl ?_
  refine sIx T22 S25 rfl rfl (by rw [ofs2_length]; omega) ?_
  refine sLd (v := .slice _ _ _) A25 rfl (he.cells g1) hs1 ?_
  refine sLen T25 rfl ?_
  refine sMv (v := nv 0) rfl ?_
  refine sNil (kSeqN ?_)
  refine cBlock ?_
  refine wpC_loop (fun k ρ m' => ∃ i, k = g.length - i ∧ i ≤ g.length ∧ (∀ j u, j < i → g[j]? = some u → x.testBit u = true) ∧ m.push (.cells true #[.slice (some ⟨b1, o1, some 1⟩) (ofs2 N).length cap]) = m' ∧ Has ρ [(1, nv x), (13, .slice qs g.length cs), (14, nv g.length), (15, nv i)]) ⟨0, rfl, by omega, by omega, rfl, rfl, rfl, rfl, rfl, trivial⟩ ?_
  rintro k ρ _ ⟨i, rfl, hi, hr, rfl, hh⟩
  rw [hh.env]; clear hh
  refine cSeq ?_
  refine cRegion ?_
  refine sBin rfl rfl (aInt_lss) ?_
  refine sNil (kSeqN ?_)
  refine cSeq ?_   -- seq 4
  refine cCond rfl (fun c0 => ?_) (fun c0 => ?_)
  ·
    obtain ⟨b2, o2, p2, r2, cd, e2, g2, x2⟩ := ha.atN (by omega)
    cases e2
    have hsh := Nat.shiftRight_le x g[i]
    refine cSkip (kSeqN ?_)
    refine cSeq ?_
    refine cBlock ?_
    refine cSeq ?_
    refine cRegion ?_
    refine sIx T25 S3 rfl rfl (by omega) ?_
    refine sLd (v := nv g[i]) A3 rfl (he.cells g2) (x2 i g[i] (by simp)) ?_
    refine sAs (v := nv _) rfl ?_
    refine sNil (kSeqN ?_)
    refine cSeq ?_
    refine cRegion ?_
    refine sMv (v := nv _) rfl ?_
    refine sMv (v := nv _) rfl ?_
    refine sBin (a := x) (b := g[i]) rfl rfl (aInt_shr (by omega)) ?_
    refine sBin (b := 1) rfl rfl (aInt_and (by omega)) ?_
    refine sBin (b := 0) rfl rfl aInt_eql ?_
    refine sNil (kSeqN ?_)
    refine cCond rfl (fun c1 => ?_) (fun c1 => ?_)
    ·
      have hf : ¬ mayM (needsM N) x n = true := fun h => by
        have := (bit_one x g[i]).2 (hiff.1 h g[i] (List.getElem_mem c0))
        omega
      refine cSeq ?_
      refine cRegion ?_
      refine sAs (v := .bool _) rfl ?_
      refine sNil (kSeqN ?_)
      refine cRet (kBlkR (kSeqR (kSeqR (kBlkR (kSeqR ?_)))))
      exact ⟨.inr rfl, _, rfl, by rw [Bool.eq_false_iff.2 hf]; rfl, he⟩
    ·
      refine cSkip (kBlkN (kSeqN ?_))
      refine cRegion ?_
      refine sBin rfl rfl (aInt_add (b := 1) (by omega)) ?_
      refine sMv (v := nv _) rfl ?_
      refine sNil (kSeqN ?_)
      refine ⟨_, ?_, i + 1, rfl, by omega, fun j u hj hu => ?_, rfl, rfl, rfl, rfl, rfl, trivial⟩
      · omega
      · by_cases e : j = i
        · subst e
          rw [List.getElem?_eq_getElem c0] at hu
          obtain rfl := Option.some.inj hu
          exact (bit_one _ _).1 (by
            have h3 : x >>> g[j] &&& 1 = (x >>> g[j]) % 2 := Nat.and_one_is_mod _
            have h4 := Nat.mod_lt (x >>> g[j]) (show 0 < 2 by omega)
            omega)
        · exact hr j u (by omega) hu
  ·
    refine cExit (kSeqE (kSeqE (kBlkS (kSeqN ?_))))
    refine cSeq ?_
    refine cRegion ?_
    refine sAs (v := .bool _) rfl ?_
    refine sNil (kSeqN ?_)
    refine cRet ?_
    have ht : mayM (needsM N) x n = true := hiff.2 fun u hu => by
      obtain ⟨j, hj, e⟩ := List.getElem_of_mem hu
      exact hr j u (by omega) (by rw [List.getElem?_eq_getElem hj, e])
    exact ⟨.inr rfl, _, rfl, by rw [ht]; rfl, he⟩

theorem okf71 : okF Tryd.prog H0 71 17 = true := by kernel_rfl
theorem spec_has {m : Mem} {a : Value} {l : List Nat} {x : Nat} (ha : IntsAt m a (ofs l)) (hl : l.length < 1000000) : ACalls Tryd.prog 71 #[a, nv x] m (.bool (decide (x ∈ l))) m := by
  suffices h : ∃ v m', ACalls Tryd.prog 71 #[a, nv x] m v m' ∧ (v = .bool (decide (x ∈ l)) ∧ m' = m) by
    obtain ⟨v, m', h, rfl, rfl⟩ := h; exact h
  obtain ⟨q, cap, rfl⟩ := ha.lenN
  refine wpF (args := [_, _]) mixed okf71 (fn := Tryd.f71) rfl rfl rfl (by simp) ?_
  refine cSeq ?_
  refine cRegion ?_
  refine sAs (v := .bool _) rfl ?_
  refine sNil (kSeqN ?_)
  refine cSeq ?_
  refine cSeq ?_
  refine cRegion ?_
  refine sMv (v := .slice _ _ _) rfl ?_
  refine sLen T25 rfl ?_
  refine sMv (v := nv 0) rfl ?_
  refine sNil (kSeqN ?_)
  refine cBlock ?_
  refine wpC_loop (fun k ρ m' => ∃ i, k = l.length - i ∧ i ≤ l.length ∧ (∀ j, j < i → l[j]? ≠ some x) ∧ m = m' ∧ Has ρ [(1, nv x), (7, .slice q l.length cap), (8, nv l.length), (9, nv i)]) ⟨0, rfl, by omega, by omega, rfl, rfl, rfl, rfl, rfl, trivial⟩ ?_
  rintro k ρ _ ⟨i, rfl, hi, hr, rfl, hh⟩
  rw [hh.env]; clear hh
  refine cSeq ?_
  refine cRegion ?_
  refine sBin rfl rfl (aInt_lss) ?_
  refine sNil (kSeqN ?_)
  refine cSeq ?_   -- seq 4
  refine cCond rfl (fun c0 => ?_) (fun c0 => ?_)
  ·
    obtain ⟨b1, o1, p1, r1, cc, e1, g1, x1⟩ := ha.atN (by omega)
    cases e1
    refine cSkip (kSeqN ?_)
    refine cSeq ?_
    refine cBlock ?_
    refine cSeq ?_
    refine cRegion ?_
    refine sIx T25 S3 rfl rfl (by omega) ?_
    refine sLd (v := nv l[i]) A3 rfl g1 (x1 i l[i] (by simp)) ?_
    refine sAs (v := nv _) rfl ?_
    refine sNil (kSeqN ?_)
    refine cSeq ?_
    refine cRegion ?_
    refine sMv (v := nv _) rfl ?_
    refine sMv (v := nv _) rfl ?_
    refine sBin (a := l[i]) (b := x) rfl rfl aInt_eql ?_
    refine sNil (kSeqN ?_)
    refine cCond rfl (fun c1 => ?_) (fun c1 => ?_)
    ·
      refine cSeq ?_
      refine cRegion ?_
      refine sAs (v := .bool _) rfl ?_
      refine sNil (kSeqN ?_)
      refine cRet (kBlkR (kSeqR (kSeqR (kBlkR (kSeqR ?_)))))
      have hm : x ∈ l := by have := List.getElem_mem c0; rwa [c1] at this
      exact ⟨.inr rfl, _, rfl, by rw [decide_eq_true hm]; rfl, rfl⟩
    ·
      refine cSkip (kBlkN (kSeqN ?_))
      refine cRegion ?_
      refine sBin rfl rfl (aInt_add (b := 1) (by omega)) ?_
      refine sMv (v := nv _) rfl ?_
      refine sNil (kSeqN ?_)
      refine ⟨_, ?_, i + 1, rfl, by omega, fun j hj e => ?_, rfl, rfl, rfl, rfl, rfl, trivial⟩
      · omega
      · by_cases h : j = i
        · subst h
          rw [List.getElem?_eq_getElem c0] at e
          exact c1 (Option.some.inj e)
        · exact hr j (by omega) e
  ·
    refine cExit (kSeqE (kSeqE (kBlkS (kSeqN ?_))))
    refine cSeq ?_
    refine cRegion ?_
    refine sAs (v := .bool _) rfl ?_
    refine sNil (kSeqN ?_)
    refine cRet ?_
    have hm : ¬ x ∈ l := fun h => by
      obtain ⟨j, hj, e⟩ := List.getElem_of_mem h
      exact hr j (by omega) (by rw [List.getElem?_eq_getElem hj, e])
    exact ⟨.inr rfl, _, rfl, by rw [decide_eq_false hm]; rfl, rfl⟩

theorem okf72 : okF Tryd.prog H0 72 13 = true := by kernel_rfl
theorem spec_Pebbles {m : Mem} {x : Nat} (hx : x < 2 ^ 62) : ACalls Tryd.prog 72 #[nv x] m (nv (popc x)) m := by
  suffices h : ∃ v m', ACalls Tryd.prog 72 #[nv x] m v m' ∧ (v = nv (popc x) ∧ m' = m) by
    obtain ⟨v, m', h, rfl, rfl⟩ := h; exact h
  have hp := popc_le_of_lt hx
  refine wpF (args := [_]) mixed okf72 (fn := Tryd.f72) rfl rfl rfl (by simp) ?_
  refine cSeq ?_
  refine cRegion ?_
  refine sAs (v := nv 0) rfl ?_
  refine sNil (kSeqN ?_)
  refine cSeq ?_
  refine cRegion ?_
  refine sAs (v := nv 0) rfl ?_
  refine sNil (kSeqN ?_)
  refine cSeq ?_
  refine cBlock ?_
  refine wpC_loop (fun k ρ m' => ∃ y c, k = y ∧ y < 2 ^ 62 ∧ c + popc y = popc x ∧ m = m' ∧ Has ρ [(0, nv y), (3, nv c)]) ⟨x, 0, rfl, hx, by omega, rfl, rfl, rfl, trivial⟩ ?_
  rintro k ρ _ ⟨y, c, rfl, hy, hc, rfl, hh⟩
  rw [hh.env]; clear hh
  refine cSeq ?_   -- seq 3
  refine cSeq ?_
  refine cRegion ?_
  refine sMv (v := nv _) rfl ?_
  refine sBin (b := 0) rfl rfl aInt_gtr ?_
  refine sNil (kSeqN ?_)
  refine cCond rfl (fun c0 => ?_) (fun c0 => ?_)
  ·
    have hh := popc_half k
    refine cSkip (kSeqN ?_)
    refine cSeq ?_
    refine cBlock ?_
    refine cRegion ?_
    refine sMv (v := nv _) rfl ?_
    refine sMv (v := nv _) rfl ?_
    refine sBin (b := 1) rfl rfl (aInt_and (by omega)) ?_
    have h3 : k &&& 1 = k % 2 := Nat.and_one_is_mod _
    refine sBin rfl rfl (aInt_add (by omega)) ?_
    refine sAs (v := nv _) rfl ?_
    refine sNil (kBlkN (kSeqN ?_))
    refine cRegion ?_
    refine sMv (v := nv _) rfl ?_
    refine sShr (a := k) (b := 1) rfl rfl (by omega) ?_
    have h4 : k >>> 1 = k / 2 := by rw [Nat.shiftRight_eq_div_pow]
    refine sAs (v := nv _) rfl ?_
    refine sNil (kSeqN ?_)
    refine ⟨k / 2, by omega, k / 2, c + (k &&& 1), rfl, by omega, by omega, rfl, by rw [← h4]; rfl, rfl, trivial⟩
  ·
    refine cExit (kSeqE (kSeqE (kBlkS (kSeqN ?_))))
    refine cSeq ?_
    refine cRegion ?_
    refine sMv (v := nv _) rfl ?_
    refine sAs (v := nv _) rfl ?_
    refine sNil (kSeqN ?_)
    refine cRet ?_
    obtain rfl : k = 0 := by omega
    have h0 : popc 0 = 0 := rfl
    refine ⟨.inr rfl, _, rfl, ?_, rfl⟩
    rw [← hc, h0]; rfl

theorem okf60 : okF Tryd.prog H0 60 56 = true := by kernel_rfl
theorem spec_goaled {m : Mem} {s a : Value} {G : List (List Int)} {gs : List Int} (hG : RowsAt m s G) (ha : IntsAt m a gs) (hl : gs.length < 1000000) : ∃ v m', ACalls Tryd.prog 60 #[.agg #[s], a] m v m' ∧ (v = .tuple #[nv (ifOk (withE G gs) (posM (nats gs)) 0), nv (withE G gs)] ∧ Ext m m') := by
  obtain ⟨q, cap, rfl⟩ := hG.len
  obtain ⟨qg, cg, rfl⟩ := ha.len
  have he : Ext m (m.push (.cells true #[.slice q G.length cap])) := .push _ _
  refine wpF (args := [_, _]) mixed okf60 (fn := Tryd.f60) rfl rfl rfl (by simp) ?_
  refine cSeq ?_
  refine cRegion ?_
  refine sBox (v := .agg _) rfl ?_
  refine sAs (v := nv 0) rfl ?_
  refine sAs (v := nv 0) rfl ?_
  refine sNil (kSeqN ?_)
  refine cSeq ?_
  refine cSeq ?_
  refine cRegion ?_
  refine sLdAll A24 S24 rfl (gP rfl) rfl ?_
  obtain ⟨v12, m12, h12, rfl, k12⟩ := spec_refCheck (hG.ext he)
  have e12 : Ext m m12 := he.trans k12
  have g12 : Mem.get m12 m.size = .cells true #[.slice q G.length cap] := k12.cells (gP rfl)
  refine sCall1 rfl call41 rfl h12 ?_
  refine sAs (v := nv _) rfl ?_
  refine sNil (kSeqN ?_)
  refine cSeq ?_
  refine cRegion ?_
  refine sMv (v := nv _) rfl ?_
  refine sBin (b := 0) rfl rfl aInt_neq ?_
  refine sNil (kSeqN ?_)
  refine cCond rfl (fun c0 => ?_) (fun c0 => ?_)
  ·
    refine cSeq ?_
    refine cRegion ?_
    refine sMv (v := nv _) rfl ?_
    refine sAs (v := nv 0) rfl ?_
    refine sAs (v := nv _) rfl ?_
    refine sNil (kSeqN ?_)
    refine cRet (kSeqR ?_)
    exact ⟨.inr rfl, _, rfl, by rw [withE, if_neg c0, ifOk_n c0]; rfl, e12⟩
  ·
    have h0 := Decidable.not_not.1 c0
    have hw : withE G gs = goalsE G.length gs := by rw [withE, if_pos h0]
    rw [hw]
    have h10 : G.length ≤ 10 := by
      unfold checkG at h0
      split at h0
      · cases h0
      · omega
    refine cSkip (kSeqN ?_)
    refine cSeq ?_   -- seq 5
    refine cSeq ?_
    refine cRegion ?_
    refine sMv (v := .slice _ _ _) rfl ?_
    refine sLen T25 rfl ?_
    refine sBin (b := 0) rfl rfl aInt_eql ?_
    refine sNil (kSeqN ?_)
    refine cCond rfl (fun c1 => ?_) (fun c1 => ?_)
    ·
      refine cSeq ?_
      refine cRegion ?_
      refine sAs (v := nv 0) rfl ?_
      refine sAs (v := nv 2) rfl ?_
      refine sNil (kSeqN ?_)
      refine cRet (kSeqR ?_)
      exact ⟨.inr rfl, _, rfl, by rw [goalsE, if_pos c1, ifOk_n (by decide)]; rfl, e12⟩
    ·
      refine cSkip (kSeqN ?_)
      refine cSeq ?_
      refine cRegion ?_
      refine sAs (v := nv 0) rfl ?_
      refine sNil (kSeqN ?_)
      refine cSeq ?_
      refine cSeq ?_
      refine cRegion ?_
      refine sMv (v := .slice _ _ _) rfl ?_
      refine sLen T25 rfl ?_
      refine sMv (v := nv 0) rfl ?_
      refine sNil (kSeqN ?_)
      refine cBlock ?_
      refine wpC_loop (fun k ρ m' => ∃ i x, k = gs.length - i ∧ i ≤ gs.length ∧ (∀ j u, j < i → gs[j]? = some u → 0 ≤ u ∧ u < Int.ofNat G.length) ∧ x = posM (nats (gs.take i)) ∧ x < 2 ^ 10 ∧ m12 = m' ∧ Has ρ [(1, .slice qg gs.length cg), (2, .pointer (some ⟨m.size, 0, none⟩)), (7, nv x), (19, .slice qg gs.length cg), (20, nv gs.length), (21, nv i)]) ⟨0, 0, rfl, by omega, by omega, rfl, by omega, rfl, rfl, rfl, rfl, rfl, rfl, rfl, trivial⟩ ?_
      rintro k ρ _ ⟨i, x, rfl, hi, hr, hx, hx10, rfl, hh⟩
      rw [hh.env]; clear hh
      refine cSeq ?_
      refine cRegion ?_
      refine sBin rfl rfl (aInt_lss) ?_
      refine sNil (kSeqN ?_)
      refine cSeq ?_   -- seq 12
      refine cCond rfl (fun c2 => ?_) (fun c2 => ?_)
      ·
        obtain ⟨b1, o1, p1, r1, cc, e1, gg, x1⟩ := ha.at (by omega)
        cases e1
        have hgi : gs[i]? = some gs[i] := by simp
        generalize hni : gs[i] = n at *
        refine cSkip (kSeqN ?_)
        refine cSeq ?_
        refine cBlock ?_
        refine cSeq ?_
        refine cRegion ?_
        refine sIx T25 S3 rfl rfl (by omega) ?_
        refine sLd (v := .int _ _) A3 rfl (e12.cells gg) (x1 i n hgi) ?_
        refine sAs (v := .int _ _) rfl ?_
        refine sNil (kSeqN ?_)
        refine cSeq ?_   -- seq 15
        refine cSeq ?_
        refine cRegion ?_
        refine sMv (v := .int _ _) rfl ?_
        refine sBinI (v := .bool (decide (n < 0))) rfl rfl rfl ?_
        refine sMv (v := .bool _) rfl ?_
        by_cases h5 : n < 0
        ·
          rw [decide_eq_true h5]
          refine sGno (q' := true) rfl rfl (by simp) ?_
          refine sGno (q' := true) rfl rfl (by simp) ?_
          refine sGno (q' := true) rfl rfl (by simp) ?_
          refine sGno (q' := true) rfl rfl (by simp) ?_
          refine sGno (q' := true) rfl rfl (by simp) ?_
          refine sP (v := .bool _) rfl ?_
          refine sNil (kSeqN ?_)
          refine cCondT rfl ?_
          refine cSeq ?_
          refine cRegion ?_
          refine sAs (v := nv 0) rfl ?_
          refine sAs (v := nv 1) rfl ?_
          refine sNil (kSeqN ?_)
          refine cRet (kSeqR (kBlkR (kSeqR (kSeqR (kBlkR (kSeqR ?_))))))
          have h1 : goalsE G.length gs = 1 := by
            rw [goalsE, if_neg c1, if_pos (List.any_eq_true.2 ⟨n, List.mem_of_getElem? hgi, decide_eq_true (.inl h5)⟩)]
          exact ⟨.inr rfl, _, rfl, by rw [h1, ifOk_n (by decide)]; rfl, e12⟩
        ·
          rw [decide_eq_false h5]
          refine sG rfl rfl ?_
          refine sMv (v := .int _ _) rfl ?_
          refine sG rfl rfl ?_
          refine sFA F24_0 rfl ?_
          refine sG rfl rfl ?_
          refine sLd A22 rfl (by simp (disch := first | omega | (simp only [Array.size_push, Array.size_setIfInBounds]; done) | (simp only [Array.size_push, Array.size_setIfInBounds]; omega)) only [gP, gPn, gS, gSn, g12]; try rfl) rfl ?_
          refine sG rfl rfl ?_
          refine sLen T22 rfl ?_
          refine sG rfl rfl ?_
          refine sBinI (b := Int.ofNat G.length) rfl rfl aInt_geqI ?_
          refine sP (v := .bool _) rfl ?_
          refine sNil (kSeqN ?_)
          refine cCond (p := Int.ofNat G.length ≤ n) rfl (fun c4 => ?_) (fun c4 => ?_)
          ·
            refine cSeq ?_
            refine cRegion ?_
            refine sAs (v := nv 0) rfl ?_
            refine sAs (v := nv 1) rfl ?_
            refine sNil (kSeqN ?_)
            refine cRet (kSeqR (kBlkR (kSeqR (kSeqR (kBlkR (kSeqR ?_))))))
            have h1 : goalsE G.length gs = 1 := by
              rw [goalsE, if_neg c1, if_pos (List.any_eq_true.2 ⟨n, List.mem_of_getElem? hgi, decide_eq_true (.inr c4)⟩)]
            exact ⟨.inr rfl, _, rfl, by rw [h1, ifOk_n (by decide)]; rfl, e12⟩
          ·
            obtain ⟨n', rfl⟩ : ∃ n' : Nat, n = Int.ofNat n' := ⟨n.toNat, by simp; omega⟩
            have hn' : n' < 10 := by simp at c4; omega
            have hp : (2 : Nat) ^ n' < 2 ^ 10 := Nat.pow_lt_pow_right (by omega) hn'
            have hor : x ||| 2 ^ n' < 2 ^ 10 := Nat.or_lt_two_pow hx10 hp
            refine cSkip (kSeqN ?_)
            refine cRegion ?_
            refine sMv (v := nv _) rfl ?_
            refine sMv (v := nv n') rfl ?_
            refine sBin (a := 1) (b := n') rfl rfl (aInt_shl (a := 1) (by omega)) ?_
            rw [Nat.shiftLeft_eq, Nat.one_mul]
            refine sBin rfl rfl (aInt_or (by omega)) ?_
            refine sAs (v := nv _) rfl ?_
            refine sNil (kBlkN (kSeqN ?_))
            refine cRegion ?_
            refine sBin rfl rfl (aInt_add (b := 1) (by omega)) ?_
            refine sMv (v := nv _) rfl ?_
            refine sNil (kSeqN ?_)
            refine ⟨_, ?_, i + 1, x ||| 2 ^ n', rfl, by omega, fun j u hj hu => ?_, ?_, hor, rfl, rfl, rfl, rfl, rfl, rfl, rfl, trivial⟩
            · omega
            · by_cases e : j = i
              · subst e
                rw [hgi] at hu
                obtain rfl := Option.some.inj hu
                exact ⟨by simp, by simp at c4 ⊢; omega⟩
              · exact hr j u (by omega) hu
            · rw [List.take_add_one, hgi, hx]
              simp only [Option.toList, nats, List.map_append, List.map_cons, List.map_nil]
              rw [posM_snoc]; rfl
      ·
        obtain rfl : i = gs.length := by omega
        rw [List.take_length] at hx
        have hany : ¬ (gs.any fun g => decide (g < 0 ∨ Int.ofNat G.length ≤ g)) = true := fun h => by
          obtain ⟨u, hu, h2⟩ := List.any_eq_true.1 h
          obtain ⟨j, hj, e⟩ := List.getElem_of_mem hu
          have := hr j u hj (by rw [List.getElem?_eq_getElem hj, e])
          have := of_decide_eq_true h2
          omega
        refine cExit (kSeqE (kSeqE (kBlkS (kSeqN ?_))))
        refine cSeq ?_
        refine cSeq ?_
        refine cRegion ?_
        refine sAs (v := nv 1) rfl ?_
        refine sNil (kSeqN ?_)
        refine cBlock ?_
        refine wpC_loop (fun k ρ m' => ∃ i, k = gs.length - i ∧ 1 ≤ i ∧ i ≤ gs.length ∧ (∀ j, j + 1 < i → ¬ (gs.getD (j + 1) 0 ≤ gs.getD j 0)) ∧ m12 = m' ∧ Has ρ [(1, .slice qg gs.length cg), (7, nv x), (10, nv i)]) ⟨1, rfl, by omega, by omega, by omega, rfl, rfl, rfl, rfl, trivial⟩ ?_
        rintro k ρ _ ⟨i, rfl, hi1, hi, hj, rfl, hh⟩
        rw [hh.env]; clear hh
        refine cSeq ?_   -- seq 21
        refine cSeq ?_
        refine cRegion ?_
        refine sMv (v := nv _) rfl ?_
        refine sMv (v := .slice _ _ _) rfl ?_
        refine sLen T25 rfl ?_
        refine sBin rfl rfl (aInt_lss) ?_
        refine sNil (kSeqN ?_)
        refine cCond rfl (fun c5 => ?_) (fun c5 => ?_)
        ·
          obtain ⟨b1, o1, p1, r1, cc, e1, gg, x1⟩ := ha.at (by omega)
          cases e1
          obtain ⟨j, rfl⟩ : ∃ j, i = j + 1 := ⟨i - 1, by omega⟩
          refine cSkip (kSeqN ?_)
          refine cSeq ?_
          refine cBlock ?_
          refine cSeq ?_
          refine cDraw rfl ?_
          refine sMv (v := .slice _ _ _) rfl ?_
          refine sMv (v := nv _) rfl ?_
          refine sIx T25 S3 rfl rfl (by omega) ?_
          refine sLd (v := .int _ _) A3 rfl (e12.cells gg) (x1 (j + 1) (gs.getD (j + 1) 0) (getDI c5)) ?_
          refine sMv (v := .slice _ _ _) rfl ?_
          refine sMv (v := nv _) rfl ?_
          refine sBin (v := nv j) rfl rfl (aInt_sub (b := 1) (by omega)) ?_
          refine sIx T25 S3 rfl rfl (by omega) ?_
          refine sLd (v := .int _ _) A3 rfl (e12.cells gg) (x1 j (gs.getD j 0) (getDI (by omega))) ?_
          refine sBinI rfl rfl aInt_leqI ?_
          refine sNil (kSeqN ?_)
          refine cCond rfl (fun c6 => ?_) (fun c6 => ?_)
          ·
            refine cSeq ?_
            refine cRegion ?_
            refine sAs (v := nv 0) rfl ?_
            refine sAs (v := nv 15) rfl ?_
            refine sNil (kSeqN ?_)
            refine cRet (kBlkR (kSeqR (kSeqR (kBlkR (kSeqR ?_)))))
            have h15 : goalsE G.length gs = 15 := by
              rw [goalsE, if_neg c1, if_neg hany, if_pos]
              exact List.any_eq_true.2 ⟨j, List.mem_range.2 (by omega), decide_eq_true c6⟩
            exact ⟨.inr rfl, _, rfl, by rw [h15, ifOk_n (by decide)]; rfl, e12⟩
          ·
            refine cSkip (kBlkN (kSeqN ?_))
            refine cRegion ?_
            refine sMv (v := nv _) rfl ?_
            refine sBin rfl rfl (aInt_add (b := 1) (by omega)) ?_
            refine sAs (v := nv _) rfl ?_
            refine sNil (kSeqN ?_)
            refine ⟨_, ?_, j + 2, rfl, by omega, by omega, fun k hk => ?_, rfl, rfl, rfl, rfl, trivial⟩
            · omega
            · by_cases h : k = j
              · subst h; exact c6
              · exact hj k (by omega)
        ·
          refine cExit (kSeqE (kSeqE (kBlkS (kSeqN ?_))))
          refine cSeq ?_
          refine cRegion ?_
          refine sMv (v := nv _) rfl ?_
          refine sAs (v := nv _) rfl ?_
          refine sAs (v := nv 0) rfl ?_
          refine sNil (kSeqN ?_)
          refine cRet ?_
          obtain rfl : i = gs.length := by omega
          have h15 : goalsE G.length gs = 0 := by
            rw [goalsE, if_neg c1, if_neg hany, if_neg]
            intro h
            obtain ⟨j, hj1, hj2⟩ := List.any_eq_true.1 h
            exact hj j (by have := List.mem_range.1 hj1; omega) (of_decide_eq_true hj2)
          exact ⟨.inr rfl, _, rfl, by rw [h15, ifOk_0 rfl, ← hx]; rfl, e12⟩

end Go.AM

/-! ### P28 -/
namespace Go.AM
open Go.Proofs
set_option maxRecDepth 100000
set_option linter.unusedVariables false
set_option linter.unusedSimpArgs false
theorem posFrom_or (x : Nat) (l : List Nat) : posFrom x l = x ||| posM l := Nat.eq_of_testBit_eq fun i => by rw [posFrom_bit, Nat.testBit_or, posM_bit]
theorem posFrom_snoc (x : Nat) (l : List Nat) (n : Nat) : posFrom x (l ++ [n]) = posFrom x l ||| 2 ^ n := by simp [posFrom]
theorem nodesUp_full {x n : Nat} (hx : x < 2 ^ n) : ∀ k, n ≤ k → nodesUp x k = nodesUp x n
  | 0, h => by obtain rfl : n = 0 := (by omega); rfl
  | k + 1, h => by
    by_cases e : n = k + 1
    · rw [e]
    · rw [nodesUp_succ, nodesUp_full hx k (by omega), Nat.testBit_lt_two_pow (Nat.lt_of_lt_of_le hx (Nat.pow_le_pow_right (by omega) (by omega)))]
      simp
theorem needsM_getD {N : List (List Nat)} {n : Nat} (hn : n < N.length) : (needsM N).getD n 0 = posM (N.getD n []) := by
  simp [needsM, List.getD_eq_getElem?_getD, List.getElem?_map, List.getElem?_eq_getElem hn]
theorem ofs2_getD {N : List (List Nat)} {n : Nat} (hn : n < N.length) : (ofs2 N)[n]? = some (ofs (N.getD n [])) := by simp [ofs2, List.getD_eq_getElem?_getD, List.getElem?_eq_getElem hn]
theorem getDr {N : List (List Nat)} {n : Nat} (hn : n < N.length) : N[n]? = some (N.getD n []) := by rw [List.getD_eq_getElem?_getD, List.getElem?_eq_getElem hn]; rfl
theorem mostM_snoc (l : List Nat) (x : Nat) : mostM (l ++ [x]) = max (mostM l) (popc x) := by simp [mostM]
theorem mostM_le {n : Nat} : ∀ {l : List Nat}, (∀ x ∈ l, x < 2 ^ n) → mostM l ≤ n := by
  suffices h : ∀ (l : List Nat) (a : Nat), a ≤ n → (∀ x ∈ l, x < 2 ^ n) → l.foldl (fun a x => max a (popc x)) a ≤ n from fun {l} h' => h l 0 (by omega) h'
  intro l
  induction l with
  | nil => intro a ha _; exact ha
  | cons y l ih =>
    intro a ha h
    exact ih _ (Nat.max_le.2 ⟨ha, popc_le_of_lt (h y (by simp))⟩) fun x hx => h x (by simp [hx])
theorem gPlay_lt {G : List (List Int)} {l : List Int} (h : gPlayE G l = 0) : (∀ y ∈ playedL l, y < 1024) ∧ (playedL l).length ≤ 121 ∧ checkG G = 0 := by
  unfold gPlayE at h
  split at h
  · rename_i h0
    obtain ⟨N, rfl, hN⟩ := checkG_nat h0
    refine ⟨playedL_lt (P := needsM (natsG (ofs2 N))) (by rw [natsG_ofs2, needsM_length]; exact hN.ten) h, ?_, h0⟩
    unfold playedE at h
    split at h
    · cases h
    · rw [playedL, List.length_cons, playL_len]; omega
  · rename_i h0; exact absurd h h0

theorem okf37 : okF Tryd.prog H0 37 67 = true := by kernel_rfl
theorem spec_refNeeded {m : Mem} {s a : Value} {G : List (List Int)} {gs : List Int} (hG : RowsAt m s G) (ha : IntsAt m a gs) (hl : gs.length < 1000000) : ∃ v m', ACalls Tryd.prog 37 #[.agg #[s], a] m v m' ∧ (∃ w, v = .tuple #[w, nv (withE G gs)] ∧ OwnF m.size m' w (ofs (ifOk (withE G gs) (neededG G gs) [])) ∧ Ext m m') := by
  obtain ⟨q, cap, rfl⟩ := hG.len
  obtain ⟨qg, cg, rfl⟩ := ha.len
  have he : Ext m (m.push (.cells true #[.slice q G.length cap])) := .push _ _
  refine wpF (args := [_, _]) mixed okf37 (fn := Tryd.f37) rfl rfl rfl (by simp) ?_
  refine cSeq ?_
  refine cRegion ?_
  refine sBox (v := .agg _) rfl ?_
  refine sAs (v := .slice _ _ _) rfl ?_
  refine sAs (v := nv 0) rfl ?_
  refine sNil (kSeqN ?_)
  refine cSeq ?_
  refine cRegion ?_
  refine sLdAll A24 S24 rfl (gP rfl) rfl ?_
  refine sMv (v := .slice _ _ _) rfl ?_
  obtain ⟨v16, m16, h16, rfl, k16⟩ := spec_goaled (hG.ext he) (ha.ext he) hl
  have e16 : Ext m m16 := he.trans k16
  have g16 : Mem.get m16 m.size = .cells true #[.slice q G.length cap] := k16.cells (gP rfl)
  refine sCall2 rfl call60 rfl rfl h16 ?_
  refine sMv (v := .tuple _) rfl ?_
  refine sP (v := nv _) rfl ?_   -- extract ['t13', '0']
  refine sP (v := nv _) rfl ?_   -- extract ['t13', '1']
  refine sAs (v := nv _) rfl ?_
  refine sAs (v := nv _) rfl ?_
  refine sNil (kSeqN ?_)
  refine cSeq ?_   -- seq 2
  refine cSeq ?_
  refine cRegion ?_
  refine sMv (v := nv _) rfl ?_
  refine sBin (b := 0) rfl rfl aInt_neq ?_
  refine sNil (kSeqN ?_)
  refine cCond rfl (fun c0 => ?_) (fun c0 => ?_)
  ·
    refine cSeq ?_
    refine cRegion ?_
    refine sMv (v := nv _) rfl ?_
    refine sAs (v := .slice _ _ _) rfl ?_
    refine sAs (v := nv _) rfl ?_
    refine sNil (kSeqN ?_)
    refine cRet (kSeqR ?_)
    exact ⟨.inr rfl, _, rfl, _, rfl, by rw [ifOk_n (α := List Nat) c0]; exact .nil _ _, e16⟩
  ·
    have h0 := Decidable.not_not.1 c0
    obtain ⟨N, g, rfl, hN, rfl, hg⟩ := withE_nat h0
    rw [h0]
    rw [ofs2_length] at *
    have h10 := hN.ten
    have h1 := hN.one
    have hpl : posM g < 2 ^ N.length := posM_lt fun k hk => hg.lt k hk
    have hNG : neededG (ofs2 N) (ofs g) = nodesUp (neededF (needsM N) N.length (posM g)) 10 := by rw [neededG, natsG_ofs2, nats_ofs]; rfl
    rw [hNG, ifOk_0 rfl]
    rw [ifOk_0 rfl, nats_ofs]
    have hNl : ∀ x ∈ needsM N, x < 2 ^ N.length := fun x hx => by
      obtain ⟨j, hj, e⟩ := List.getElem_of_mem hx
      have := hN.needs_lt (i := j) (x := x) (by rw [List.getElem?_eq_getElem hj, e])
      rw [needsM_length] at hj
      exact Nat.lt_of_lt_of_le this (Nat.pow_le_pow_right (by omega) (by omega))
    refine cSkip (kSeqN ?_)
    refine cSeq ?_
    refine cSeq ?_
    refine cRegion ?_
    refine sFA F24_0 rfl ?_
    refine sLd A22 rfl (by simp (disch := first | omega | (simp only [Array.size_push, Array.size_setIfInBounds]; done) | (simp only [Array.size_push, Array.size_setIfInBounds]; omega)) only [gP, gPn, gS, gSn, g16]; try rfl) rfl ?_
    refine sLen T22 rfl ?_
    refine sBinI (v := .int .i64 (Int.ofNat N.length - 1)) (a := Int.ofNat N.length) (b := 1) rfl rfl (aInt_subI (by simp; omega)) ?_
    refine sAs (v := .int _ _) rfl ?_
    refine sNil (kSeqN ?_)
    refine cBlock ?_
    refine wpC_loop (fun k ρ m' => ∃ i x, k = i ∧ i ≤ N.length ∧ neededF (needsM N) N.length (posM g) = neededF (needsM N) i x ∧ x < 2 ^ N.length ∧ m16 = m' ∧ Has ρ [(2, .pointer (some ⟨m.size, 0, none⟩)), (6, nv x), (8, .int .i64 (Int.ofNat i - 1))]) ⟨N.length, _, rfl, Nat.le_refl _, rfl, hpl, rfl, rfl, rfl, rfl, trivial⟩ ?_
    rintro k ρ _ ⟨i, x, rfl, hi, hr0, hx, rfl, hh⟩
    rw [hh.env]; clear hh
    refine cSeq ?_   -- seq 7
    refine cSeq ?_
    refine cRegion ?_
    refine sMv (v := .int _ _) rfl ?_
    refine sBinI (b := 0) rfl rfl aInt_geqI ?_
    refine sNil (kSeqN ?_)
    refine cCond rfl (fun c1 => ?_) (fun c1 => ?_)
    ·
      obtain ⟨i, rfl⟩ : ∃ j, k = j + 1 := ⟨k - 1, by simp at c1; omega⟩
      have hj : Int.ofNat (i + 1) - 1 = Int.ofNat i := by simp
      rw [hj]
      have hin : i < N.length := by omega
      obtain ⟨b1, o1, p1, r1, cc, e1, g1, x1⟩ := hG.at (by rw [ofs2_length]; omega)
      rw [ofs2_length] at e1
      cases e1
      obtain ⟨s1, hs1, har⟩ := x1 i _ (ofs2_getD hin)
      obtain ⟨qs, cs, rfl⟩ := har.lenN
      have hless := hN.less i _ (getDr hin)
      have htwo := hN.two _ (List.mem_of_getElem? (getDr hin))
      have hneed := needsM_getD hin
      rw [neededF, hneed] at hr0
      generalize hr : N.getD i [] = r at *
      have hx2 : ∀ t : List Nat, (∀ k ∈ t, k < i) → posFrom x t < 2 ^ N.length := fun t ht => posFrom_lt hx fun k hk => by have := ht k hk; omega
      refine cSkip (kSeqN ?_)
      refine cSeq ?_
      refine cBlock ?_
      refine cSeq ?_
      refine cRegion ?_
      refine sFA F24_0 rfl ?_
      refine sLd A22 rfl (by simp (disch := first | omega | (simp only [Array.size_push, Array.size_setIfInBounds]; done) | (simp only [Array.size_push, Array.size_setIfInBounds]; omega)) only [gP, gPn, gS, gSn, g16]; try rfl) rfl ?_
      refine sMv (v := nv i) rfl ?_
      refine sIx T22 S25 rfl rfl (by omega) ?_
      refine sLd (v := .slice _ _ _) A25 rfl (e16.cells g1) hs1 ?_
      refine sLen T25 rfl ?_
      refine sMv (v := nv 0) rfl ?_
      refine sNil (kSeqN ?_)
      refine cBlock ?_
      refine wpC_loop (fun k ρ m' => ∃ j y, k = r.length - j ∧ j ≤ r.length ∧ y = (if x.testBit i then posFrom x (r.take j) else x) ∧ m16 = m' ∧ Has ρ [(2, .pointer (some ⟨m.size, 0, none⟩)), (6, nv y), (8, nv i), (34, .slice qs r.length cs), (35, nv r.length), (36, nv j)]) ⟨0, x, rfl, by omega, by simp [posFrom], rfl, rfl, rfl, rfl, rfl, rfl, rfl, trivial⟩ ?_
      rintro k ρ _ ⟨j, y, rfl, hjr, hy, rfl, hh⟩
      rw [hh.env]; clear hh
      have hylt : y < 2 ^ 10 := by
        refine Nat.lt_of_lt_of_le ?_ (Nat.pow_le_pow_right (n := 2) (by omega) h10)
        rw [hy]; split
        · exact hx2 _ fun k hk => hless k (List.mem_of_mem_take hk)
        · exact hx
      have hbit : y.testBit i = x.testBit i := by
        rw [hy]; split
        · rename_i hb
          rw [posFrom_bit, hb]; rfl
        · rfl
      refine cSeq ?_
      refine cRegion ?_
      refine sBin rfl rfl (aInt_lss) ?_
      refine sNil (kSeqN ?_)
      refine cSeq ?_   -- seq 12
      refine cCond rfl (fun c2 => ?_) (fun c2 => ?_)
      ·
        obtain ⟨b2, o2, p2, r2, cd, e2, g2, x2⟩ := har.atN (by omega)
        cases e2
        have hrj := hless r[j] (List.getElem_mem c2)
        have hp : (2 : Nat) ^ r[j] < 2 ^ 10 := Nat.pow_lt_pow_right (by omega) (by omega)
        have hor : y ||| 2 ^ r[j] < 2 ^ 10 := Nat.or_lt_two_pow hylt hp
        have hsh := Nat.shiftRight_le y i
        refine cSkip (kSeqN ?_)
        refine cSeq ?_
        refine cBlock ?_
        refine cSeq ?_
        refine cRegion ?_
        refine sIx T25 S3 rfl rfl (by omega) ?_
        refine sLd (v := nv r[j]) A3 rfl (e16.cells g2) (x2 j r[j] (by simp)) ?_
        refine sAs (v := nv _) rfl ?_
        refine sNil (kSeqN ?_)
        refine cSeq ?_
        refine cRegion ?_
        refine sMv (v := nv _) rfl ?_
        refine sMv (v := nv i) rfl ?_
        refine sBin (a := y) (b := i) rfl rfl (aInt_shr (by omega)) ?_
        refine sBin (b := 1) rfl rfl (aInt_and (by omega)) ?_
        refine sBin (b := 1) rfl rfl aInt_eql ?_
        refine sNil (kSeqN ?_)
        refine cCond rfl (fun c3 => ?_) (fun c3 => ?_)
        ·
          have hb := (bit_one y i).1 c3
          rw [hbit] at hb
          refine cRegion ?_
          refine sMv (v := nv _) rfl ?_
          refine sMv (v := nv _) rfl ?_
          refine sBin (a := 1) (b := r[j]) rfl rfl (aInt_shl (a := 1) (by omega)) ?_
          rw [Nat.shiftLeft_eq, Nat.one_mul]
          refine sBin rfl rfl (aInt_or (by omega)) ?_
          refine sAs (v := nv _) rfl ?_
          refine sNil (kBlkN (kSeqN ?_))
          refine cRegion ?_
          refine sBin rfl rfl (aInt_add (b := 1) (by omega)) ?_
          refine sMv (v := nv _) rfl ?_
          refine sNil (kSeqN ?_)
          refine ⟨_, ?_, j + 1, _, rfl, by omega, ?_, rfl, rfl, rfl, rfl, rfl, rfl, rfl, trivial⟩
          · omega
          · rw [if_pos hb] at hy ⊢
            rw [List.take_add_one, List.getElem?_eq_getElem c2, Option.toList, posFrom_snoc, ← hy]
        ·
          refine cSkip (kBlkN (kSeqN ?_))
          refine cRegion ?_
          refine sBin rfl rfl (aInt_add (b := 1) (by omega)) ?_
          refine sMv (v := nv _) rfl ?_
          refine sNil (kSeqN ?_)
          refine ⟨_, ?_, j + 1, _, rfl, by omega, ?_, rfl, rfl, rfl, rfl, rfl, rfl, rfl, trivial⟩
          · omega
          · have hb : ¬ x.testBit i = true := fun h => c3 ((bit_one y i).2 (by rw [hbit]; exact h))
            rw [if_neg hb] at hy ⊢; exact hy
      ·
        obtain rfl : j = r.length := by omega
        rw [List.take_length] at hy
        refine cExit (kSeqE (kSeqE (kBlkS (kBlkN (kSeqN ?_)))))
        refine cRegion ?_
        refine sMv (v := nv i) rfl ?_
        refine sBinI (v := .int .i64 (Int.ofNat i - 1)) (a := Int.ofNat i) (b := 1) rfl rfl (aInt_subI (by simp; omega)) ?_
        refine sAs (v := .int _ _) rfl ?_
        refine sNil (kSeqN ?_)
        refine ⟨i, by omega, i, y, rfl, by omega, by rw [hr0, hy]; congr 1; split <;> simp_all [posFrom_or], ?_, rfl, rfl, rfl, rfl, trivial⟩
        rw [hy]; split
        · exact hx2 _ hless
        · exact hx
    ·
      obtain rfl : k = 0 := by simp at c1; omega
      rw [neededF] at hr0
      rw [hr0]
      refine cExit (kSeqE (kSeqE (kBlkS (kSeqN ?_))))
      refine cSeq ?_
      refine cRegion ?_
      refine sAs (v := .slice _ _ _) rfl ?_
      refine sNil (kSeqN ?_)
      refine cSeq ?_
      refine cSeq ?_
      refine cRegion ?_
      refine sFA F24_0 rfl ?_
      refine sLd A22 rfl (by simp (disch := first | omega | (simp only [Array.size_push, Array.size_setIfInBounds]; done) | (simp only [Array.size_push, Array.size_setIfInBounds]; omega)) only [gP, gPn, gS, gSn, g16]; try rfl) rfl ?_
      refine sLen T22 rfl ?_
      refine sMv (v := nv 0) rfl ?_
      refine sNil (kSeqN ?_)
      refine cBlock ?_
      refine wpC_loop (fun k ρ m' => ∃ i v, k = N.length - i ∧ i ≤ N.length ∧ Low m16.size m16 m' ∧ OwnF m16.size m' v (ofs (nodesUp x i)) ∧ Has ρ [(6, nv x), (11, v), (52, nv N.length), (53, nv i)]) ⟨0, _, rfl, by omega, .refl _ _, .nil _ _, rfl, rfl, rfl, rfl, trivial⟩ ?_
      rintro k ρ m' ⟨i, v, rfl, hi, hLo, hO, hh⟩
      obtain ⟨qv, cv, rfl⟩ := hO.ints.lenN
      rw [hh.env]; clear hh
      have hsz := hLo.1
      have hnl := nodesUp_len x i
      have hx10 : x < 2 ^ 10 := Nat.lt_of_lt_of_le hx (Nat.pow_le_pow_right (n := 2) (by omega) h10)
      refine cSeq ?_
      refine cRegion ?_
      refine sBin rfl rfl (aInt_lss) ?_
      refine sNil (kSeqN ?_)
      refine cSeq ?_   -- seq 20
      refine cCond rfl (fun c4 => ?_) (fun c4 => ?_)
      ·
        refine cSkip (kSeqN ?_)
        refine cSeq ?_
        refine cBlock ?_
        refine cSeq ?_
        refine cRegion ?_
        refine sMv (v := nv _) rfl ?_
        refine sAs (v := nv _) rfl ?_
        refine sNil (kSeqN ?_)
        refine cSeq ?_
        refine cRegion ?_
        refine sMv (v := nv _) rfl ?_
        refine sMv (v := nv _) rfl ?_
        refine sBin (a := x) (b := i) rfl rfl (aInt_shr (by omega)) ?_
        have hsh := Nat.shiftRight_le x i
        refine sBin (b := 1) rfl rfl (aInt_and (by omega)) ?_
        refine sBin (b := 1) rfl rfl aInt_eql ?_
        refine sNil (kSeqN ?_)
        refine cCond rfl (fun c5 => ?_) (fun c5 => ?_)
        ·
          have hb := (bit_one x i).1 c5
          refine cRegion ?_
          refine sMv (v := .slice _ _ _) rfl ?_
          refine sMv (v := nv _) rfl ?_
          refine sBuildS T25 S3 Z3 (by decide) (by decide) (by decide) (by kernel_rfl) fill1 rfl ?_
          refine sApp App25 rfl rfl (N := m16.size) (hO.ext (.push _ _)) one_ints (by simp; omega) (by simp; omega) fun v3 m3 hO3 hL3 => ?_
          have hI3 := hO3.ints
          obtain ⟨q3, cp3, rfl⟩ := hI3.len
          refine sAs (v := .slice _ _ _) rfl ?_
          refine sNil (kBlkN (kSeqN ?_))
          refine cRegion ?_
          refine sBin rfl rfl (aInt_add (b := 1) (by omega)) ?_
          refine sMv (v := nv _) rfl ?_
          refine sNil (kSeqN ?_)
          refine ⟨_, ?_, i + 1, _, rfl, by omega, hLo.trans ((Low.push _ hsz _).trans hL3), by rw [nodesUp_succ, if_pos hb, ofs_append]; exact hO3, rfl, rfl, rfl, rfl, trivial⟩
          omega
        ·
          refine cSkip (kBlkN (kSeqN ?_))
          refine cRegion ?_
          refine sBin rfl rfl (aInt_add (b := 1) (by omega)) ?_
          refine sMv (v := nv _) rfl ?_
          refine sNil (kSeqN ?_)
          refine ⟨_, ?_, i + 1, _, rfl, by omega, hLo, by rw [nodesUp_succ, if_neg (fun h => c5 ((bit_one x i).2 h)), List.append_nil]; exact hO, rfl, rfl, rfl, rfl, trivial⟩
          omega
      ·
        refine cExit (kSeqE (kSeqE (kBlkS (kSeqN ?_))))
        refine cSeq ?_
        refine cRegion ?_
        refine sMv (v := .slice _ _ _) rfl ?_
        refine sAs (v := .slice _ _ _) rfl ?_
        refine sAs (v := nv 0) rfl ?_
        refine sNil (kSeqN ?_)
        refine cRet ?_
        obtain rfl : i = N.length := by omega
        rw [nodesUp_full hx 10 h10]
        exact ⟨.inr rfl, _, rfl, _, rfl, hO.mono e16.1, Low.to_ext e16 hLo (by have := e16.1; omega)⟩

theorem okf43 : okF Tryd.prog H0 43 55 = true := by kernel_rfl
theorem spec_refPlay {m : Mem} {s a : Value} {G : List (List Int)} {l : List Int} (hG : RowsAt m s G) (ha : IntsAt m a l) : ∃ v m', ACalls Tryd.prog 43 #[.agg #[s], a] m v m' ∧ (∃ w, v = .tuple #[w, nv (gPlayE G l)] ∧ OwnF m.size m' w (ofs (ifOk (gPlayE G l) (playedL l) [])) ∧ Ext m m') := by
  obtain ⟨q, cap, rfl⟩ := hG.len
  obtain ⟨qg, cg, rfl⟩ := ha.len
  have he : Ext m (m.push (.cells true #[.slice q G.length cap])) := .push _ _
  refine wpF (args := [_, _]) mixed okf43 (fn := Tryd.f43) rfl rfl rfl (by simp) ?_
  refine cSeq ?_
  refine cRegion ?_
  refine sBox (v := .agg _) rfl ?_
  refine sAs (v := .slice _ _ _) rfl ?_
  refine sAs (v := nv 0) rfl ?_
  refine sNil (kSeqN ?_)
  refine cSeq ?_
  refine cSeq ?_
  refine cRegion ?_
  refine sLdAll A24 S24 rfl (gP rfl) rfl ?_
  obtain ⟨v12, m12, h12, rfl, k12⟩ := spec_refCheck (hG.ext he)
  have e12 : Ext m m12 := he.trans k12
  have g12 : Mem.get m12 m.size = .cells true #[.slice q G.length cap] := k12.cells (gP rfl)
  refine sCall1 rfl call41 rfl h12 ?_
  refine sAs (v := nv _) rfl ?_
  refine sNil (kSeqN ?_)
  refine cSeq ?_
  refine cRegion ?_
  refine sMv (v := nv _) rfl ?_
  refine sBin (b := 0) rfl rfl aInt_neq ?_
  refine sNil (kSeqN ?_)
  refine cCond rfl (fun c0 => ?_) (fun c0 => ?_)
  ·
    refine cSeq ?_
    refine cRegion ?_
    refine sMv (v := nv _) rfl ?_
    refine sAs (v := .slice _ _ _) rfl ?_
    refine sAs (v := nv _) rfl ?_
    refine sNil (kSeqN ?_)
    refine cRet (kSeqR ?_)
    exact ⟨.inr rfl, _, rfl, _, by rw [gPlayE, if_neg c0]; rfl, by rw [gPlayE, if_neg c0, ifOk_n c0]; exact .nil _ _, e12⟩
  ·
    have h0 := Decidable.not_not.1 c0
    obtain ⟨N, rfl, hN⟩ := checkG_nat h0
    have hpe : gPlayE (ofs2 N) l = playedE (needsM N) l := by rw [gPlayE, if_pos h0, natsG_ofs2]
    rw [hpe]
    clear hpe
    rw [ofs2_length] at *
    have h10 := hN.ten
    have h1 := hN.one
    unfold playedE
    refine cSkip (kSeqN ?_)
    refine cSeq ?_   -- seq 5
    refine cSeq ?_
    refine cRegion ?_
    refine sMv (v := .slice _ _ _) rfl ?_
    refine sLen T25 rfl ?_
    refine sBin (b := 120) rfl rfl aInt_gtr ?_
    refine sNil (kSeqN ?_)
    refine cCond rfl (fun c1 => ?_) (fun c1 => ?_)
    ·
      refine cSeq ?_
      refine cRegion ?_
      refine sAs (v := .slice _ _ _) rfl ?_
      refine sAs (v := nv 2) rfl ?_
      refine sNil (kSeqN ?_)
      refine cRet (kSeqR ?_)
      exact ⟨.inr rfl, _, rfl, _, by rw [if_pos c1]; rfl, by rw [if_pos c1, ifOk_n (by decide)]; exact .nil _ _, e12⟩
    ·
      rw [if_neg c1]
      refine cSkip (kSeqN ?_)
      refine cSeq ?_
      refine cRegion ?_
      refine sBuildS T25 S3 Z3 (by decide) (by decide) (by decide) (by kernel_rfl) fill1 rfl ?_
      refine sAs (v := .slice _ _ _) rfl ?_
      refine sNil (kSeqN ?_)
      refine cSeq ?_
      refine cSeq ?_
      refine cRegion ?_
      refine sMv (v := .slice _ _ _) rfl ?_
      refine sLen T25 rfl ?_
      refine sMv (v := nv 0) rfl ?_
      refine sNil (kSeqN ?_)
      refine cBlock ?_
      refine wpC_loop (fun k ρ m' => ∃ i x L v, k = l.length - i ∧ i ≤ l.length ∧ playE (needsM N) 0 l = playE (needsM N) x (l.drop i) ∧ playedL l = L ++ playL x (l.drop i) ∧ L.length = i + 1 ∧ L[i]? = some x ∧ x < 1024 ∧ Low m12.size m12 m' ∧ OwnF m12.size m' v (ofs L) ∧ Has ρ [(2, .pointer (some ⟨m.size, 0, none⟩)), (7, v), (20, .slice qg l.length cg), (21, nv l.length), (22, nv i)]) ⟨0, 0, [0], _, rfl, by omega, rfl, rfl, rfl, rfl, by omega, .push _ (Nat.le_refl _) _, .ofCells (l := [0]) (r := []) (Nat.le_refl _) (gP rfl), rfl, rfl, rfl, rfl, rfl, trivial⟩ ?_
      rintro k ρ m' ⟨i, x, L, v, rfl, hi, hr1, hr2, hLl, hLx, hx, hLo, hO, hh⟩
      obtain ⟨qv, cv, rfl⟩ := hO.ints.lenN
      rw [hh.env]; clear hh
      have hE := Low.to_ext e12 hLo (by have := e12.1; omega)
      have hsz := hLo.1
      have g3 : Mem.get m' m.size = .cells true #[.slice q N.length cap] := hLo.cells (live g12) g12
      refine cSeq ?_
      refine cRegion ?_
      refine sBin rfl rfl (aInt_lss) ?_
      refine sNil (kSeqN ?_)
      refine cSeq ?_   -- seq 12
      refine cCond rfl (fun c2 => ?_) (fun c2 => ?_)
      ·
        obtain ⟨b1, o1, p1, r1, cc, e1, gg, x1⟩ := ha.at (by omega)
        cases e1
        rw [drop_cons c2, playE] at hr1
        rw [drop_cons c2, playL] at hr2
        rw [needsM_length] at hr1
        generalize hni : l[i] = n at *
        obtain ⟨b2, o2, p2, r2, cd, e2, g2, x2⟩ := hO.ints.atN (show 0 < L.length by omega)
        cases e2
        refine cSkip (kSeqN ?_)
        refine cSeq ?_
        refine cBlock ?_
        refine cSeq ?_
        refine cRegion ?_
        refine sIx T25 S3 rfl rfl (by omega) ?_
        refine sLd (v := .int _ _) A3 rfl (hE.cells gg) (x1 i n (by rw [← hni]; simp)) ?_
        refine sAs (v := .int _ _) rfl ?_
        refine sNil (kSeqN ?_)
        refine cSeq ?_   -- seq 15
        refine cSeq ?_
        refine cRegion ?_
        refine sMv (v := .int _ _) rfl ?_
        refine sBinI (v := .bool (decide (n < 0))) rfl rfl rfl ?_
        refine sMv (v := .bool _) rfl ?_
        by_cases h2 : n < 0
        ·
          rw [decide_eq_true h2]
          refine sGno (q' := true) rfl rfl (by simp) ?_
          refine sGno (q' := true) rfl rfl (by simp) ?_
          refine sGno (q' := true) rfl rfl (by simp) ?_
          refine sGno (q' := true) rfl rfl (by simp) ?_
          refine sGno (q' := true) rfl rfl (by simp) ?_
          refine sP (v := .bool _) rfl ?_
          refine sNil (kSeqN ?_)
          refine cCondT rfl ?_
          refine cSeq ?_
          refine cRegion ?_
          refine sAs (v := .slice _ _ _) rfl ?_
          refine sAs (v := nv 1) rfl ?_
          refine sNil (kSeqN ?_)
          refine cRet (kSeqR (kBlkR (kSeqR (kSeqR (kBlkR (kSeqR ?_))))))
          rw [if_pos (.inl h2)] at hr1
          exact ⟨.inr rfl, _, rfl, _, by rw [hr1]; rfl, by rw [hr1, ifOk_n (by decide)]; exact .nil _ _, hE⟩
        ·
          rw [decide_eq_false h2]
          refine sG rfl rfl ?_
          refine sMv (v := .int _ _) rfl ?_
          refine sG rfl rfl ?_
          refine sFA F24_0 rfl ?_
          refine sG rfl rfl ?_
          refine sLd A22 rfl (by simp (disch := first | omega | (simp only [Array.size_push, Array.size_setIfInBounds]; done) | (simp only [Array.size_push, Array.size_setIfInBounds]; omega)) only [gP, gPn, gS, gSn, g3]; try rfl) rfl ?_
          refine sG rfl rfl ?_
          refine sLen T22 rfl ?_
          refine sG rfl rfl ?_
          refine sBinI (b := Int.ofNat N.length) rfl rfl aInt_geqI ?_
          refine sP (v := .bool _) rfl ?_
          refine sNil (kSeqN ?_)
          refine cCond (p := Int.ofNat N.length ≤ n) rfl (fun c4 => ?_) (fun c4 => ?_)
          ·
            refine cSeq ?_
            refine cRegion ?_
            refine sAs (v := .slice _ _ _) rfl ?_
            refine sAs (v := nv 1) rfl ?_
            refine sNil (kSeqN ?_)
            refine cRet (kSeqR (kBlkR (kSeqR (kSeqR (kBlkR (kSeqR ?_))))))
            rw [if_pos (.inr c4)] at hr1
            exact ⟨.inr rfl, _, rfl, _, by rw [hr1]; rfl, by rw [hr1, ifOk_n (by decide)]; exact .nil _ _, hE⟩
          ·
            rw [if_neg (by omega)] at hr1
            obtain ⟨y, rfl⟩ : ∃ y : Nat, n = Int.ofNat y := ⟨n.toNat, by simp; omega⟩
            have hy : y < N.length := by simp at c4; omega
            have hty : (Int.ofNat y).toNat = y := rfl
            rw [hty] at hr1 hr2
            refine cSkip (kSeqN ?_)
            refine cSeq ?_
            refine cRegion ?_
            refine sMv (v := .slice _ _ _) rfl ?_
            refine sMv (v := .slice _ _ _) rfl ?_
            refine sLen T25 rfl ?_
            refine sBin (v := nv i) rfl rfl (by rw [hLl]; exact aInt_sub (a := i + 1) (b := 1) (by omega)) ?_
            refine sIx T25 S3 rfl rfl (by omega) ?_
            refine sLd (v := nv x) A3 rfl g2 (x2 i x hLx) ?_
            refine sAs (v := nv _) rfl ?_
            refine sNil (kSeqN ?_)
            refine cSeq ?_   -- seq 20
            refine cSeq ?_
            refine cRegion ?_
            refine sLdAll A24 S24 rfl g3 rfl ?_
            refine sMv (v := nv _) rfl ?_
            refine sMv (v := nv y) rfl ?_
            obtain ⟨v44, m44, h44, rfl, k44⟩ := spec_May (hG.ext hE) hN (x := x) (n := y) (by omega) hy
            refine sCall3 rfl call64 rfl rfl rfl h44 ?_
            refine sP (v := .bool (!mayM (needsM N) x y)) rfl ?_
            refine sNil (kSeqN ?_)
            refine cCond (p := mayM (needsM N) x y = false) (by show Value.bool _ = Value.bool _; cases mayM (needsM N) x y <;> rfl) (fun c5 => ?_) (fun c5 => ?_)
            ·
              refine cSeq ?_
              refine cRegion ?_
              refine sAs (v := .slice _ _ _) rfl ?_
              refine sAs (v := nv 15) rfl ?_
              refine sNil (kSeqN ?_)
              refine cRet (kSeqR (kBlkR (kSeqR (kSeqR (kBlkR (kSeqR ?_))))))
              exact ⟨.inr rfl, _, rfl, _, by rw [hr1, c5]; rfl, by rw [hr1, c5]; exact .nil _ _, hE.trans k44⟩
            ·
              have c5' : mayM (needsM N) x y = true := by simpa using c5
              rw [c5', if_pos rfl] at hr1
              have h2y : 2 ^ y < 2 ^ 10 := Nat.pow_lt_pow_right (by omega) (by omega)
              have hxy : x ^^^ 2 ^ y < 2 ^ 10 := Nat.xor_lt_two_pow hx h2y
              refine cSkip (kSeqN ?_)
              refine cRegion ?_
              refine sMv (v := .slice _ _ _) rfl ?_
              refine sMv (v := nv _) rfl ?_
              refine sMv (v := nv y) rfl ?_
              refine sBin (a := 1) (b := y) rfl rfl (aInt_shl (by omega)) ?_
              rw [Nat.shiftLeft_eq, Nat.one_mul]
              refine sBin rfl rfl (aInt_xor (by omega)) ?_
              refine sBuildS T25 S3 Z3 (by decide) (by decide) (by decide) (by kernel_rfl) fill1 rfl ?_
              refine sApp App25 rfl rfl (N := m12.size) ((hO.ext k44).ext (.push _ _)) one_ints (by have := k44.1; simp; omega) (by rw [ofs_length]; simp; omega) fun v3 m3 hO3 hL3 => ?_
              have hI3 := hO3.ints
              obtain ⟨q3, cp3, rfl⟩ := hI3.len
              refine sAs (v := .slice _ _ _) rfl ?_
              refine sNil (kBlkN (kSeqN ?_))
              refine cRegion ?_
              refine sBin rfl rfl (aInt_add (b := 1) (by omega)) ?_
              refine sMv (v := nv _) rfl ?_
              refine sNil (kSeqN ?_)
              refine ⟨_, ?_, i + 1, x ^^^ 2 ^ y, L ++ [x ^^^ 2 ^ y], _, rfl, by omega, hr1, by rw [hr2, List.append_assoc]; rfl, by simp; omega, by rw [← hLl]; simp, hxy, hLo.trans ((Low.of_ext k44 hsz).trans ((Low.push _ (by have := k44.1; omega) _).trans hL3)), by rw [ofs_append]; exact hO3, rfl, rfl, rfl, rfl, rfl, trivial⟩
              omega
      ·
        refine cExit (kSeqE (kSeqE (kBlkS (kSeqN ?_))))
        refine cSeq ?_
        refine cRegion ?_
        refine sMv (v := .slice _ _ _) rfl ?_
        refine sAs (v := .slice _ _ _) rfl ?_
        refine sAs (v := nv 0) rfl ?_
        refine sNil (kSeqN ?_)
        refine cRet ?_
        obtain rfl : i = l.length := by omega
        rw [List.drop_length] at hr1 hr2
        have hz : playE (needsM N) 0 l = 0 := hr1
        rw [playL, List.append_nil] at hr2
        exact ⟨.inr rfl, _, rfl, _, by rw [hz]; rfl, by rw [hz, ifOk_0 rfl, hr2]; exact hO.mono e12.1, hE⟩

theorem okf45 : okF Tryd.prog H0 45 32 = true := by kernel_rfl
theorem spec_refMost {m : Mem} {s a : Value} {G : List (List Int)} {l : List Int} (hG : RowsAt m s G) (ha : IntsAt m a l) : ∃ v m', ACalls Tryd.prog 45 #[.agg #[s], a] m v m' ∧ (v = .tuple #[nv (mostM (ifOk (gPlayE G l) (playedL l) [])), nv (gPlayE G l)] ∧ Ext m m') := by
  obtain ⟨q, cap, rfl⟩ := hG.len
  obtain ⟨qg, cg, rfl⟩ := ha.len
  have he : Ext m (m.push (.cells true #[.slice q G.length cap])) := .push _ _
  refine wpF (args := [_, _]) mixed okf45 (fn := Tryd.f45) rfl rfl rfl (by simp) ?_
  refine cSeq ?_
  refine cRegion ?_
  refine sBox (v := .agg _) rfl ?_
  refine sAs (v := nv 0) rfl ?_
  refine sAs (v := nv 0) rfl ?_
  refine sNil (kSeqN ?_)
  refine cSeq ?_
  refine cRegion ?_
  refine sLdAll A24 S24 rfl (gP rfl) rfl ?_
  refine sMv (v := .slice _ _ _) rfl ?_
  obtain ⟨v14, m14, h14, w14, rfl, o14, k14⟩ := spec_refPlay (hG.ext he) (ha.ext he)
  have e14 : Ext m m14 := he.trans k14
  have i14 := o14.ints
  obtain ⟨q14, c14, rfl⟩ := i14.lenN
  refine sCall2 rfl call43 rfl rfl h14 ?_
  refine sMv (v := .tuple _) rfl ?_
  refine sP (v := .slice _ _ _) rfl ?_   -- extract ['t11', '0']
  refine sP (v := nv _) rfl ?_   -- extract ['t11', '1']
  refine sAs (v := .slice _ _ _) rfl ?_
  refine sAs (v := nv _) rfl ?_
  refine sNil (kSeqN ?_)
  refine cSeq ?_   -- seq 2
  refine cSeq ?_
  refine cRegion ?_
  refine sMv (v := nv _) rfl ?_
  refine sBin (b := 0) rfl rfl aInt_neq ?_
  refine sNil (kSeqN ?_)
  refine cCond rfl (fun c0 => ?_) (fun c0 => ?_)
  ·
    refine cSeq ?_
    refine cRegion ?_
    refine sMv (v := nv _) rfl ?_
    refine sAs (v := nv 0) rfl ?_
    refine sAs (v := nv _) rfl ?_
    refine sNil (kSeqN ?_)
    refine cRet (kSeqR ?_)
    exact ⟨.inr rfl, _, rfl, by rw [ifOk_n c0]; rfl, e14⟩
  ·
    have h0 := Decidable.not_not.1 c0
    obtain ⟨hlt, hlen, _⟩ := gPlay_lt h0
    rw [ifOk_0 h0] at i14 ⊢
    rw [h0]
    generalize playedL l = L at *
    refine cSkip (kSeqN ?_)
    refine cSeq ?_
    refine cRegion ?_
    refine sAs (v := nv 0) rfl ?_
    refine sNil (kSeqN ?_)
    refine cSeq ?_
    refine cSeq ?_
    refine cRegion ?_
    refine sMv (v := .slice _ _ _) rfl ?_
    refine sLen T25 rfl ?_
    refine sMv (v := nv 0) rfl ?_
    refine sNil (kSeqN ?_)
    refine cBlock ?_
    refine wpC_loop (fun k ρ m' => ∃ i, k = L.length - i ∧ i ≤ L.length ∧ m14 = m' ∧ Has ρ [(8, nv (mostM (L.take i))), (20, .slice q14 L.length c14), (21, nv L.length), (22, nv i)]) ⟨0, rfl, by omega, rfl, rfl, rfl, rfl, rfl, trivial⟩ ?_
    rintro k ρ _ ⟨i, rfl, hi, rfl, hh⟩
    rw [hh.env]; clear hh
    refine cSeq ?_
    refine cRegion ?_
    refine sBin rfl rfl (aInt_lss) ?_
    refine sNil (kSeqN ?_)
    refine cSeq ?_   -- seq 9
    refine cCond rfl (fun c1 => ?_) (fun c1 => ?_)
    ·
      obtain ⟨b1, o1, p1, r1, cc, e1, gg, x1⟩ := i14.atN (by omega)
      cases e1
      refine cSkip (kSeqN ?_)
      refine cSeq ?_
      refine cBlock ?_
      refine cSeq ?_
      refine cRegion ?_
      refine sIx T25 S3 rfl rfl (by omega) ?_
      refine sLd (v := nv L[i]) A3 rfl gg (x1 i L[i] (by simp)) ?_
      refine sAs (v := nv _) rfl ?_
      refine sNil (kSeqN ?_)
      refine cRegion ?_
      refine sMv (v := nv _) rfl ?_
      refine sMv (v := nv _) rfl ?_
      refine sCall1 rfl call72 rfl (spec_Pebbles (by have := hlt L[i] (List.getElem_mem c1); omega)) ?_
      refine sP (v := nv (max (mostM (L.take i)) (popc L[i]))) maxN ?_
      refine sAs (v := nv _) rfl ?_
      refine sNil (kBlkN (kSeqN ?_))
      refine cRegion ?_
      refine sBin rfl rfl (aInt_add (b := 1) (by omega)) ?_
      refine sMv (v := nv _) rfl ?_
      refine sNil (kSeqN ?_)
      refine ⟨_, ?_, i + 1, rfl, by omega, rfl, by rw [List.take_add_one, List.getElem?_eq_getElem c1, Option.toList, mostM_snoc]; rfl, rfl, rfl, rfl, trivial⟩
      omega
    ·
      refine cExit (kSeqE (kSeqE (kBlkS (kSeqN ?_))))
      refine cSeq ?_
      refine cRegion ?_
      refine sMv (v := nv _) rfl ?_
      refine sAs (v := nv _) rfl ?_
      refine sAs (v := nv 0) rfl ?_
      refine sNil (kSeqN ?_)
      refine cRet ?_
      obtain rfl : i = L.length := by omega
      rw [List.take_length]
      exact ⟨.inr rfl, _, rfl, rfl, e14⟩

theorem okf47 : okF Tryd.prog H0 47 37 = true := by kernel_rfl
theorem spec_refReaches {m : Mem} {s a b : Value} {G : List (List Int)} {gs l : List Int} (hG : RowsAt m s G) (ha : IntsAt m a gs) (hl : gs.length < 1000000) (hb : IntsAt m b l) : ∃ v m', ACalls Tryd.prog 47 #[.agg #[s], a, b] m v m' ∧ (v = .tuple #[.bool (reachesB G gs l), nv (reachesE G gs l)] ∧ Ext m m') := by
  obtain ⟨q, cap, rfl⟩ := hG.len
  obtain ⟨qg, cg, rfl⟩ := ha.len
  obtain ⟨qb, cb, rfl⟩ := hb.len
  have he : Ext m (m.push (.cells true #[.slice q G.length cap])) := .push _ _
  refine wpF (args := [_, _, _]) mixed okf47 (fn := Tryd.f47) rfl rfl rfl (by simp) ?_
  refine cSeq ?_
  refine cRegion ?_
  refine sBox (v := .agg _) rfl ?_
  refine sAs (v := .bool _) rfl ?_
  refine sAs (v := nv 0) rfl ?_
  refine sNil (kSeqN ?_)
  refine cSeq ?_
  refine cRegion ?_
  refine sLdAll A24 S24 rfl (gP rfl) rfl ?_
  refine sMv (v := .slice _ _ _) rfl ?_
  obtain ⟨v14, m14, h14, rfl, k14⟩ := spec_goaled (hG.ext he) (ha.ext he) hl
  have e14 : Ext m m14 := he.trans k14
  have g14 : Mem.get m14 m.size = .cells true #[.slice q G.length cap] := k14.cells (gP rfl)
  refine sCall2 rfl call60 rfl rfl h14 ?_
  refine sMv (v := .tuple _) rfl ?_
  refine sP (v := nv _) rfl ?_   -- extract ['t11', '0']
  refine sP (v := nv _) rfl ?_   -- extract ['t11', '1']
  refine sAs (v := nv _) rfl ?_
  refine sAs (v := nv _) rfl ?_
  refine sNil (kSeqN ?_)
  refine cSeq ?_   -- seq 2
  refine cSeq ?_
  refine cRegion ?_
  refine sMv (v := nv _) rfl ?_
  refine sBin (b := 0) rfl rfl aInt_neq ?_
  refine sNil (kSeqN ?_)
  refine cCond rfl (fun c0 => ?_) (fun c0 => ?_)
  ·
    refine cSeq ?_
    refine cRegion ?_
    refine sMv (v := nv _) rfl ?_
    refine sAs (v := .bool _) rfl ?_
    refine sAs (v := nv _) rfl ?_
    refine sNil (kSeqN ?_)
    refine cRet (kSeqR ?_)
    have hre : reachesE G gs l = withE G gs := by rw [reachesE, if_neg c0]
    have hb : reachesB G gs l = false := by
      rw [reachesB, hre]
      exact decide_eq_false fun h => c0 h.1
    exact ⟨.inr rfl, _, rfl, by rw [hb, hre]; rfl, e14⟩
  ·
    have h0 := Decidable.not_not.1 c0
    have hck : checkG G = 0 := by
      unfold withE at h0
      split at h0
      · assumption
      · exact h0
    have hre : reachesE G gs l = gPlayE G l := by rw [reachesE, if_pos h0, gPlayE, if_pos hck]
    rw [reachesB, hre, h0, ifOk_0 rfl]
    refine cSkip (kSeqN ?_)
    refine cSeq ?_
    refine cRegion ?_
    refine sLdAll A24 S24 rfl g14 rfl ?_
    refine sMv (v := .slice _ _ _) rfl ?_
    obtain ⟨v23, m23, h23, w23, rfl, o23, k23⟩ := spec_refPlay (hG.ext e14) (hb.ext e14)
    have i23 := o23.ints
    obtain ⟨q23, c23, rfl⟩ := i23.lenN
    refine sCall2 rfl call43 rfl rfl h23 ?_
    refine sMv (v := .tuple _) rfl ?_
    refine sP (v := .slice _ _ _) rfl ?_   -- extract ['t20', '0']
    refine sP (v := nv _) rfl ?_   -- extract ['t20', '1']
    refine sAs (v := .slice _ _ _) rfl ?_
    refine sAs (v := nv _) rfl ?_
    refine sNil (kSeqN ?_)
    refine cSeq ?_   -- seq 6
    refine cSeq ?_
    refine cRegion ?_
    refine sMv (v := nv _) rfl ?_
    refine sBin (b := 0) rfl rfl aInt_neq ?_
    refine sNil (kSeqN ?_)
    refine cCond rfl (fun c1 => ?_) (fun c1 => ?_)
    ·
      refine cSeq ?_
      refine cRegion ?_
      refine sMv (v := nv _) rfl ?_
      refine sAs (v := .bool _) rfl ?_
      refine sAs (v := nv _) rfl ?_
      refine sNil (kSeqN ?_)
      refine cRet (kSeqR ?_)
      have hb : decide (gPlayE G l = 0 ∧ (playedL l).getLastD 0 = posM (nats gs)) = false := decide_eq_false fun h => c1 h.1
      exact ⟨.inr rfl, _, rfl, by rw [hb]; rfl, e14.trans k23⟩
    ·
      have h1 := Decidable.not_not.1 c1
      obtain ⟨hlt, hlen, _⟩ := gPlay_lt h1
      rw [ifOk_0 h1] at i23 ⊢
      rw [h1]
      have hlast := playedL_last l
      have hpos : 0 < (playedL l).length := by simp [playedL]
      obtain ⟨b1, o1, p1, r1, cc, e1, gg, x1⟩ := i23.atN hpos
      cases e1
      refine cSkip (kSeqN ?_)
      refine cSeq ?_
      refine cRegion ?_
      refine sMv (v := .slice _ _ _) rfl ?_
      refine sMv (v := .slice _ _ _) rfl ?_
      refine sLen T25 rfl ?_
      refine sBin (v := nv ((playedL l).length - 1)) rfl rfl (aInt_sub (b := 1) (by omega)) ?_
      refine sIx T25 S3 rfl rfl (by omega) ?_
      refine sLd (v := nv ((playedL l).getLastD 0)) A3 rfl gg (x1 _ _ hlast) ?_
      refine sMv (v := nv _) rfl ?_
      refine sBin (a := (playedL l).getLastD 0) (b := posM (nats gs)) rfl rfl aInt_eql ?_
      refine sAs (v := .bool _) rfl ?_
      refine sAs (v := nv 0) rfl ?_
      refine sNil (kSeqN ?_)
      refine cRet ?_
      refine ⟨.inr rfl, _, rfl, ?_, e14.trans k23⟩
      simp only [true_and]; rfl

theorem okf39 : okF Tryd.prog H0 39 58 = true := by kernel_rfl
theorem spec_refPlain {m : Mem} {s a : Value} {G : List (List Int)} {gs : List Int} (hG : RowsAt m s G) (ha : IntsAt m a gs) (hl : gs.length < 1000000) : ∃ v m', ACalls Tryd.prog 39 #[.agg #[s], a] m v m' ∧ (∃ w, v = .tuple #[w, nv (withE G gs)] ∧ OwnF m.size m' w (ofs (ifOk (withE G gs) (plainM G gs) [])) ∧ Ext m m') := by
  obtain ⟨q, cap, rfl⟩ := hG.len
  obtain ⟨qg, cg, rfl⟩ := ha.len
  have he : Ext m (m.push (.cells true #[.slice q G.length cap])) := .push _ _
  refine wpF (args := [_, _]) mixed okf39 (fn := Tryd.f39) rfl rfl rfl (by simp) ?_
  refine cSeq ?_
  refine cRegion ?_
  refine sBox (v := .agg _) rfl ?_
  refine sAs (v := .slice _ _ _) rfl ?_
  refine sAs (v := nv 0) rfl ?_
  refine sNil (kSeqN ?_)
  refine cSeq ?_
  refine cRegion ?_
  refine sLdAll A24 S24 rfl (gP rfl) rfl ?_
  refine sMv (v := .slice _ _ _) rfl ?_
  obtain ⟨v16, m16, h16, w16, rfl, o16, k16⟩ := spec_refNeeded (hG.ext he) (ha.ext he) hl
  have e16 : Ext m m16 := he.trans k16
  have i16 := o16.ints
  obtain ⟨q16, c16, rfl⟩ := i16.lenN
  refine sCall2 rfl call37 rfl rfl h16 ?_
  refine sMv (v := .tuple _) rfl ?_
  refine sP (v := .slice _ _ _) rfl ?_   -- extract ['t13', '0']
  refine sP (v := nv _) rfl ?_   -- extract ['t13', '1']
  refine sAs (v := .slice _ _ _) rfl ?_
  refine sAs (v := nv _) rfl ?_
  refine sNil (kSeqN ?_)
  refine cSeq ?_   -- seq 2
  refine cSeq ?_
  refine cRegion ?_
  refine sMv (v := nv _) rfl ?_
  refine sBin (b := 0) rfl rfl aInt_neq ?_
  refine sNil (kSeqN ?_)
  refine cCond rfl (fun c0 => ?_) (fun c0 => ?_)
  ·
    refine cSeq ?_
    refine cRegion ?_
    refine sMv (v := nv _) rfl ?_
    refine sAs (v := .slice _ _ _) rfl ?_
    refine sAs (v := nv _) rfl ?_
    refine sNil (kSeqN ?_)
    refine cRet (kSeqR ?_)
    exact ⟨.inr rfl, _, rfl, _, rfl, by rw [ifOk_n c0 (plainM G gs)]; exact .nil _ _, e16⟩
  ·
    have h0 := Decidable.not_not.1 c0
    obtain ⟨N, g, rfl, hN, rfl, hg⟩ := withE_nat h0
    rw [ifOk_0 h0] at i16 ⊢
    rw [ifOk_0 h0, h0]
    have hnl : (neededG (ofs2 N) (ofs g)).length ≤ 10 := nodesM_len _
    rw [ofs_length] at *
    unfold plainM
    rw [nats_ofs]
    have hagX := ha.ext e16
    generalize neededG (ofs2 N) (ofs g) = L at *
    refine cSkip (kSeqN ?_)
    refine cSeq ?_
    refine cRegion ?_
    refine sBuildS (c := #[]) T25 S3 Z3 (by decide) (by decide) (by decide) (by kernel_rfl) rfl rfl ?_
    refine sMv (v := .slice _ _ _) rfl ?_
    refine sApp App25 rfl rfl (N := m16.size) (p := []) (.inr ⟨m16.size, 0, #[], rfl, Nat.le_refl _, gP rfl, by simp, by simp, by simp⟩) (i16.ext (.push _ _)) (by simp) (by simp; omega) fun v24 m24 hO24 hL24 => ?_
    rw [List.nil_append] at hO24
    obtain ⟨q24, c24, rfl⟩ := hO24.ints.lenN
    have e24 : Ext m16 m24 := Low.to_ext (.push _ _) hL24 (Nat.le_refl _)
    refine sAs (v := .slice _ _ _) rfl ?_
    refine sNil (kSeqN ?_)
    refine cSeq ?_
    refine cSeq ?_
    refine cRegion ?_
    refine sMv (v := .slice _ _ _) rfl ?_
    refine sLen T25 rfl ?_
    refine sBinI (v := .int .i64 (Int.ofNat L.length - 1)) (a := Int.ofNat L.length) (b := 1) rfl rfl (aInt_subI (by simp; omega)) ?_
    refine sAs (v := .int _ _) rfl ?_
    refine sNil (kSeqN ?_)
    refine cBlock ?_
    refine wpC_loop (fun k ρ m' => ∃ i v, k = i ∧ i ≤ L.length ∧ Low m16.size m16 m' ∧ OwnF m16.size m' v (ofs (L ++ ((L.drop i).filter fun i => !decide (i ∈ g)).reverse)) ∧ Has ρ [(1, .slice qg g.length cg), (6, .slice q16 L.length c16), (8, v), (9, .int .i64 (Int.ofNat i - 1))]) ⟨L.length, _, rfl, Nat.le_refl _, .of_ext e24 (Nat.le_refl _), by rw [List.drop_length]; simp; exact hO24, rfl, rfl, rfl, rfl, trivial⟩ ?_
    rintro k ρ m' ⟨i, v, rfl, hi, hLo, hO, hh⟩
    obtain ⟨qv, cv, rfl⟩ := hO.ints.lenN
    rw [hh.env]; clear hh
    have hsz := hLo.1
    have hE : Ext m m' := Low.to_ext e16 hLo (by have := e16.1; omega)
    refine cSeq ?_   -- seq 8
    refine cSeq ?_
    refine cRegion ?_
    refine sMv (v := .int _ _) rfl ?_
    refine sBinI (b := 0) rfl rfl aInt_geqI ?_
    refine sNil (kSeqN ?_)
    refine cCond rfl (fun c1 => ?_) (fun c1 => ?_)
    ·
      obtain ⟨i, rfl⟩ : ∃ j, k = j + 1 := ⟨k - 1, by simp at c1; omega⟩
      have hj : Int.ofNat (i + 1) - 1 = Int.ofNat i := by simp
      rw [hj]
      have hiL : i < L.length := by omega
      obtain ⟨b1, o1, p1, r1, cc, e1, g1, x1⟩ := (i16.ext (Low.to_ext (.refl _) hLo (Nat.le_refl _))).atN (show 0 < L.length by omega)
      cases e1
      refine cSkip (kSeqN ?_)
      refine cSeq ?_
      refine cBlock ?_
      refine cSeq ?_
      refine cRegion ?_
      refine sAs (v := .bool _) rfl ?_
      refine sNil (kSeqN ?_)
      refine cSeq ?_
      refine cSeq ?_
      refine cRegion ?_
      refine sMv (v := .slice _ _ _) rfl ?_
      refine sLen T25 rfl ?_
      refine sMv (v := nv 0) rfl ?_
      refine sNil (kSeqN ?_)
      refine cBlock ?_
      refine wpC_loop (fun k ρ mm => ∃ j, k = g.length - j ∧ j ≤ g.length ∧ m' = mm ∧ Has ρ [(1, .slice qg g.length cg), (6, .slice (some ⟨b1, o1, some 1⟩) L.length c16), (8, .slice qv (L ++ ((L.drop (i + 1)).filter fun i => !decide (i ∈ g)).reverse).length cv), (9, nv i), (10, .bool (decide (L[i] ∈ g.take j))), (32, .slice qg g.length cg), (33, nv g.length), (34, nv j)]) ⟨0, rfl, by omega, rfl, rfl, rfl, rfl, rfl, rfl, rfl, rfl, rfl, trivial⟩ ?_
      rintro k ρ _ ⟨j, rfl, hjg, rfl, hh⟩
      rw [hh.env]; clear hh
      refine cSeq ?_
      refine cRegion ?_
      refine sBin rfl rfl (aInt_lss) ?_
      refine sNil (kSeqN ?_)
      refine cSeq ?_   -- seq 15
      refine cCond rfl (fun c2 => ?_) (fun c2 => ?_)
      ·
        obtain ⟨b2, o2, p2, r2, cd, e2, g2, x2⟩ := ha.atN (by omega)
        cases e2
        have hst : ∀ b, decide (L[i] ∈ g.take j) = b → decide (L[i] ∈ g.take (j + 1)) = (b || decide (g[j] = L[i])) := fun b hb => by
          have h1 : (L[i] ∈ g.take (j + 1)) ↔ (L[i] ∈ g.take j ∨ g[j] = L[i]) := by
            rw [List.take_add_one, List.getElem?_eq_getElem c2, Option.toList, List.mem_append, List.mem_singleton]
            exact ⟨fun h => h.imp id Eq.symm, fun h => h.imp id Eq.symm⟩
          rw [decide_eq_decide.2 h1, ← hb]
          exact Bool.decide_or _ _
        refine cSkip (kSeqN ?_)
        refine cSeq ?_
        refine cBlock ?_
        refine cSeq ?_
        refine cRegion ?_
        refine sIx T25 S3 rfl rfl (by omega) ?_
        refine sLd (v := nv g[j]) A3 rfl (hE.cells g2) (x2 j g[j] (by simp)) ?_
        refine sAs (v := nv _) rfl ?_
        refine sNil (kSeqN ?_)
        refine cRegion ?_
        refine sMv (v := .bool _) rfl ?_
        refine sMv (v := .bool _) rfl ?_
        by_cases h3 : L[i] ∈ g.take j
        ·
          rw [decide_eq_true h3]
          refine sGno (q' := true) rfl rfl (by simp) ?_
          refine sGno (q' := true) rfl rfl (by simp) ?_
          refine sGno (q' := true) rfl rfl (by simp) ?_
          refine sGno (q' := true) rfl rfl (by simp) ?_
          refine sGno (q' := true) rfl rfl (by simp) ?_
          refine sGno (q' := true) rfl rfl (by simp) ?_
          refine sP (v := .bool _) rfl ?_
          refine sAs (v := .bool _) rfl ?_
          refine sNil (kBlkN (kSeqN ?_))
          refine cRegion ?_
          refine sBin rfl rfl (aInt_add (b := 1) (by omega)) ?_
          refine sMv (v := nv _) rfl ?_
          refine sNil (kSeqN ?_)
          refine ⟨_, ?_, j + 1, rfl, by omega, rfl, rfl, rfl, rfl, rfl, ?_, rfl, rfl, rfl, trivial⟩
          · omega
          · rw [hst true (decide_eq_true h3)]; rfl
        ·
          rw [decide_eq_false h3]
          refine sG rfl rfl ?_
          refine sMv (v := nv _) rfl ?_
          refine sG rfl rfl ?_
          refine sMv (v := .slice _ _ _) rfl ?_
          refine sG rfl rfl ?_
          refine sMv (v := nv i) rfl ?_
          refine sG rfl rfl ?_
          refine sIx T25 S3 rfl rfl (by omega) ?_
          refine sG rfl rfl ?_
          refine sLd (v := nv L[i]) A3 rfl g1 (x1 i L[i] (by simp)) ?_
          refine sG rfl rfl ?_
          refine sBin (a := g[j]) (b := L[i]) rfl rfl aInt_eql ?_
          refine sP (v := .bool _) rfl ?_
          refine sAs (v := .bool _) rfl ?_
          refine sNil (kBlkN (kSeqN ?_))
          refine cRegion ?_
          refine sBin rfl rfl (aInt_add (b := 1) (by omega)) ?_
          refine sMv (v := nv _) rfl ?_
          refine sNil (kSeqN ?_)
          refine ⟨_, ?_, j + 1, rfl, by omega, rfl, rfl, rfl, rfl, rfl, ?_, rfl, rfl, rfl, trivial⟩
          · omega
          · rw [hst false (decide_eq_false h3), Bool.false_or]; rfl
      ·
        obtain rfl : j = g.length := by omega
        rw [List.take_length]
        have hdr : L.drop i = L[i] :: L.drop (i + 1) := drop_cons hiL
        refine cExit (kSeqE (kSeqE (kBlkS (kSeqN ?_))))
        refine cSeq ?_
        refine cRegion ?_
        refine sMv (v := .bool _) rfl ?_
        refine sP (v := .bool (!decide (L[i] ∈ g))) rfl ?_
        refine sNil (kSeqN ?_)
        refine cCond (p := ¬ L[i] ∈ g) (by show Value.bool _ = Value.bool _; rw [← decide_not]) (fun c3 => ?_) (fun c3 => ?_)
        ·
          refine cRegion ?_
          refine sMv (v := .slice _ _ _) rfl ?_
          refine sMv (v := .slice _ _ _) rfl ?_
          refine sMv (v := nv i) rfl ?_
          refine sIx T25 S3 rfl rfl (by omega) ?_
          refine sLd (v := nv L[i]) A3 rfl g1 (x1 i L[i] (by simp)) ?_
          refine sBuildS T25 S3 Z3 (by decide) (by decide) (by decide) (by kernel_rfl) fill1 rfl ?_
          refine sApp App25 rfl rfl (N := m16.size) (hO.ext (.push _ _)) one_ints (by simp; omega) (by have := List.length_filter_le (fun i => !decide (i ∈ g)) (L.drop (i + 1)); have := List.length_drop (i := i + 1) (l := L); simp only [ofs_length, List.length_append, List.length_reverse, List.length_cons, List.length_nil]; omega) fun v3 m3 hO3 hL3 => ?_
          rw [show ofs (L ++ ((L.drop (i + 1)).filter fun i => !decide (i ∈ g)).reverse) ++ [Int.ofNat L[i]] = ofs (L ++ ((L.drop i).filter fun i => !decide (i ∈ g)).reverse) by
            rw [hdr, List.filter_cons, if_pos (by simp [c3]), List.reverse_cons, ← List.append_assoc]; exact (ofs_append _ [L[i]]).symm] at hO3
          obtain ⟨q3, cp3, rfl⟩ := hO3.ints.lenN
          refine sAs (v := .slice _ _ _) rfl ?_
          refine sNil (kBlkN (kSeqN ?_))
          refine cRegion ?_
          refine sMv (v := nv i) rfl ?_
          refine sBinI (v := .int .i64 (Int.ofNat i - 1)) (a := Int.ofNat i) (b := 1) rfl rfl (aInt_subI (by simp; omega)) ?_
          refine sAs (v := .int _ _) rfl ?_
          refine sNil (kSeqN ?_)
          refine ⟨i, by omega, i, _, rfl, by omega, hLo.trans ((Low.push _ hsz _).trans hL3), hO3, rfl, rfl, rfl, rfl, trivial⟩
        ·
          refine cSkip (kBlkN (kSeqN ?_))
          refine cRegion ?_
          refine sMv (v := nv i) rfl ?_
          refine sBinI (v := .int .i64 (Int.ofNat i - 1)) (a := Int.ofNat i) (b := 1) rfl rfl (aInt_subI (by simp; omega)) ?_
          refine sAs (v := .int _ _) rfl ?_
          refine sNil (kSeqN ?_)
          refine ⟨i, by omega, i, _, rfl, by omega, hLo, ?_, rfl, rfl, rfl, rfl, trivial⟩
          rw [hdr, List.filter_cons, if_neg (by simp at c3 ⊢; exact c3)]
          exact hO
    ·
      refine cExit (kSeqE (kSeqE (kBlkS (kSeqN ?_))))
      refine cSeq ?_
      refine cRegion ?_
      refine sMv (v := .slice _ _ _) rfl ?_
      refine sAs (v := .slice _ _ _) rfl ?_
      refine sAs (v := nv 0) rfl ?_
      refine sNil (kSeqN ?_)
      refine cRet ?_
      obtain rfl : k = 0 := by simp at c1; omega
      rw [List.drop_zero] at hO
      exact ⟨.inr rfl, _, rfl, _, rfl, hO.mono e16.1, hE⟩

end Go.AM

/-! ### P28L -/
namespace Go.AM
open Go.Proofs
set_option maxRecDepth 100000
theorem ls_same {m : Mem} {a b : Value} {G : List (List Int)} (ha : RowsAt m a G) (hb : RowsAt m b G) (h1 : G.length ≤ 14) (h2 : ∀ g ∈ G, g.length ≤ 5) : ∃ m', ACalls Tryd.prog 24 #[.agg #[a], .agg #[b]] m (.bool true) m' ∧ Ext m m' := by
  obtain ⟨v, m', h, rfl, he⟩ := spec_same ha hb (by omega) (fun g hg => by have := h2 g hg; omega)
  rw [decide_eq_true rfl] at h
  exact ⟨m', h, he⟩
end Go.AM

/-! ### P34 -/
namespace Go.AM
open Go.Proofs
set_option maxRecDepth 100000
set_option linter.unusedVariables false
set_option linter.unusedSimpArgs false

theorem ls_needed (G : List (List Int)) (gs : List Int) : (ifOk (withE G gs) (neededG G gs) []).length ≤ 10 := by
  by_cases h : withE G gs = 0
  · rw [ifOk_0 h]; exact nodesM_len _
  · rw [ifOk_n h]; simp
theorem ls_plain (G : List (List Int)) (gs : List Int) : (ifOk (withE G gs) (plainM G gs) []).length ≤ 20 := by
  by_cases h : withE G gs = 0
  · rw [ifOk_0 h, plainM, List.length_append, List.length_reverse]
    have h1 : (neededG G gs).length ≤ 10 := nodesM_len _
    have h2 := List.length_filter_le (fun i => !decide (i ∈ nats gs)) (neededG G gs)
    omega
  · rw [ifOk_n h]; simp

def H6 : Nat → List (Nat × Nat) := fun id => if id = 8 then [(2,0)] else []
theorem okf6 : okF Tryd.prog H6 6 93 = true := by kernel_rfl
theorem spec_GraphsLaw {m : Mem} {s a : Value} {G : List (List Int)} {gs : List Int} (hGl : GlobP m) (hG : RowsAt m s G) (ha : IntsAt m a gs) : ∃ v m', ACalls Tryd.prog 6 #[.agg #[s], a] m v m' ∧ (v = .bool true ∧ True) := by
  obtain ⟨q, cap, rfl⟩ := hG.len
  obtain ⟨qg, cg, rfl⟩ := ha.len
  have E : Ext m m := .refl _
  refine wpF (args := [_, _]) mixed okf6 (fn := Tryd.f6) rfl rfl rfl (by simp) ?_
  refine cSeq ?_
  refine cRegion ?_
  refine sBox (v := .agg _) rfl ?_
  have x_ : Ext m (m.push (.cells true #[.slice q G.length cap])) := .push _ _
  replace hG := hG.ext x_
  replace ha := ha.ext x_
  replace E := E.trans x_
  replace hGl := hGl.ext x_
  clear x_
  have gD : Mem.get (m.push (.cells true #[.slice q G.length cap])) m.size = .cells true #[.slice q G.length cap] := gP rfl
  refine sAs (v := .bool _) rfl ?_
  refine sNil (kSeqN ?_)
  refine cSeq ?_   -- seq 1
  refine cSeq ?_
  refine cRegion ?_
  refine sLdAll A24 S24 rfl gD rfl ?_
  obtain ⟨v22, m22, h_, rfl, e_⟩ := spec_Great hG
  refine sCall1 rfl call12 rfl h_ ?_
  clear h_
  have x_ : Ext (m.push (.cells true #[.slice q G.length cap])) m22 := e_
  replace hG := hG.ext x_
  replace ha := ha.ext x_
  replace E := E.trans x_
  replace hGl := hGl.ext x_
  replace gD := x_.cells gD
  clear x_
  clear e_
  refine sMv (v := .bool _) rfl ?_
  by_cases h1 : greatB G = true
  ·
    rw [h1]
    refine sGno (q' := true) rfl rfl (by simp) ?_
    refine sGno (q' := true) rfl rfl (by simp) ?_
    refine sGno (q' := true) rfl rfl (by simp) ?_
    refine sP (v := .bool _) rfl ?_
    refine sNil (kSeqN ?_)
    refine cCondT rfl ?_
    refine cSeq ?_
    refine cRegion ?_
    obtain ⟨v28, m28, h28, rfl, e28⟩ := spec_awake hGl
    refine sCall0 rfl call13 h28 ?_
    refine sAs (v := .bool _) rfl ?_
    refine sNil (kSeqN ?_)
    refine cRet (kSeqR ?_)
    exact ⟨.inr rfl, _, rfl, rfl, trivial⟩
  ·
    rw [Bool.eq_false_iff.2 h1]
    obtain ⟨hgl, hgr⟩ := greatB_not h1
    refine sG rfl rfl ?_
    refine sMv (v := .slice _ _ _) rfl ?_
    refine sG rfl rfl ?_
    refine sLen T25 rfl ?_
    refine sG rfl rfl ?_
    refine sBin (b := 20) rfl rfl aInt_gtr ?_
    refine sP (v := .bool _) rfl ?_
    refine sNil (kSeqN ?_)
    refine cCond (p := 20 < gs.length) rfl (fun c1 => ?_) (fun c1 => ?_)
    ·
      refine cSeq ?_
      refine cRegion ?_
      obtain ⟨v28, m28, h28, rfl, e28⟩ := spec_awake hGl
      refine sCall0 rfl call13 h28 ?_
      refine sAs (v := .bool _) rfl ?_
      refine sNil (kSeqN ?_)
      refine cRet (kSeqR ?_)
      exact ⟨.inr rfl, _, rfl, rfl, trivial⟩
    ·
      have hgs : gs.length < 1000000 := by omega
      refine cSkip (kSeqN ?_)
      refine cSeq ?_
      refine cRegion ?_
      refine sLdAll A24 S24 rfl gD rfl ?_
      obtain ⟨v30, m30, h_, w30, cs30, rfl, oO, e_⟩ := spec_Own hG hgl hgr
      obtain ⟨qO, cO, rfl⟩ := oO.1.len
      have rO := oO.rows
      refine sCall1 rfl call14 rfl h_ ?_
      clear h_
      have x_ : Ext m22 m30 := e_
      replace hG := hG.ext x_
      replace ha := ha.ext x_
      replace E := E.trans x_
      replace hGl := hGl.ext x_
      replace gD := x_.cells gD
      clear x_
      clear e_
      refine sMv (v := .slice _ _ _) rfl ?_
      obtain ⟨v32, m32, h_, oL, e_⟩ := spec_Clone ha (by omega)
      have iL := oL.ints
      obtain ⟨qL, cL, rfl⟩ := iL.len
      refine sCall1 rfl call15 rfl h_ ?_
      clear h_
      have x_ : Ext m30 m32 := e_
      replace hG := hG.ext x_
      replace ha := ha.ext x_
      replace E := E.trans x_
      replace hGl := hGl.ext x_
      replace gD := x_.cells gD
      replace rO := rO.ext x_
      clear x_
      clear e_
      refine sAlloc Z24 (by kernel_rfl) ?_
      refine sStNA S24 rfl rfl rfl rfl (by kernel_rfl) ?_
      have x_ : Ext m32 (m32.push (.cells true #[.slice qO G.length cO])) := .push _ _
      replace hG := hG.ext x_
      replace ha := ha.ext x_
      replace E := E.trans x_
      replace hGl := hGl.ext x_
      replace gD := x_.cells gD
      replace rO := rO.ext x_
      replace iL := iL.ext x_
      clear x_
      have gO : Mem.get (m32.push (.cells true #[.slice qO G.length cO])) m32.size = .cells true #[.slice qO G.length cO] := gP rfl
      refine sAs (v := .slice _ _ _) rfl ?_
      refine sNil (kSeqN ?_)
      refine cSeq ?_
      refine cRegion ?_
      refine sLdAll A24 S24 rfl gO rfl ?_
      refine sMv (v := .slice _ _ _) rfl ?_
      have hG_B := hG
      have ha_B := ha
      have E_B := E
      have hGl_B := hGl
      have gD_B := gD
      have rO_B := rO
      have iL_B := iL
      have gO_B := gO
      have X_B : Ext (m32.push (.cells true #[.slice qO G.length cO])) (m32.push (.cells true #[.slice qO G.length cO])) := .refl _
      obtain ⟨v31, m31, h_, w31, rfl, o31, e_⟩ := spec_Needed rO iL hgs
      obtain ⟨q31, c31, rfl⟩ := o31.ints.lenN
      have z31 := e_.1
      have o31_0 := o31
      refine sCall2 rfl call36 rfl rfl h_ ?_
      clear h_
      have x_ : Ext (m32.push (.cells true #[.slice qO G.length cO])) m31 := e_
      replace hG := hG.ext x_
      replace ha := ha.ext x_
      replace E := E.trans x_
      replace hGl := hGl.ext x_
      replace gD := x_.cells gD
      replace rO := rO.ext x_
      replace iL := iL.ext x_
      replace gO := x_.cells gO
      replace X_B := X_B.trans x_
      clear x_
      clear e_
      refine sMv (v := .tuple _) rfl ?_
      refine sP (v := .slice _ _ _) rfl ?_   -- extract ['t28', '0']
      refine sP (v := nv _) rfl ?_   -- extract ['t28', '1']
      refine sAs (v := .slice _ _ _) rfl ?_
      refine sAs (v := nv _) rfl ?_
      refine sNil (kSeqN ?_)
      refine cSeq ?_
      refine cRegion ?_
      refine sLdAll A24 S24 rfl gD rfl ?_
      refine sMv (v := .slice _ _ _) rfl ?_
      obtain ⟨v37, m37, h_, w37, rfl, o37, e_⟩ := spec_refNeeded hG ha hgs
      obtain ⟨q37, c37, rfl⟩ := o37.ints.lenN
      have z37 := e_.1
      refine sCall2 rfl call37 rfl rfl h_ ?_
      clear h_
      have x_ : Ext m31 m37 := e_
      replace hG := hG.ext x_
      replace ha := ha.ext x_
      replace E := E.trans x_
      replace hGl := hGl.ext x_
      replace gD := x_.cells gD
      replace rO := rO.ext x_
      replace iL := iL.ext x_
      replace gO := x_.cells gO
      replace X_B := X_B.trans x_
      replace o31 := o31.ext x_
      clear x_
      clear e_
      refine sMv (v := .tuple _) rfl ?_
      refine sP (v := .slice _ _ _) rfl ?_   -- extract ['t34', '0']
      refine sP (v := nv _) rfl ?_   -- extract ['t34', '1']
      refine sAs (v := .slice _ _ _) rfl ?_
      refine sAs (v := nv _) rfl ?_
      refine sNil (kSeqN ?_)
      refine cSeq ?_
      refine cRegion ?_
      refine sLdAll A24 S24 rfl gO rfl ?_
      refine sMv (v := .slice _ _ _) rfl ?_
      obtain ⟨v43, m43, h_, w43, rfl, o43, e_⟩ := spec_Plain rO iL hgs
      obtain ⟨q43, c43, rfl⟩ := o43.ints.lenN
      have z43 := e_.1
      have zB := X_B.1
      have o43_0 := o43
      refine sCall2 rfl call38 rfl rfl h_ ?_
      clear h_
      have x_ : Ext m37 m43 := e_
      replace hG := hG.ext x_
      replace ha := ha.ext x_
      replace E := E.trans x_
      replace hGl := hGl.ext x_
      replace gD := x_.cells gD
      replace rO := rO.ext x_
      replace iL := iL.ext x_
      replace gO := x_.cells gO
      replace X_B := X_B.trans x_
      replace o31 := o31.ext x_
      replace o37 := o37.ext x_
      clear x_
      clear e_
      refine sMv (v := .tuple _) rfl ?_
      refine sP (v := .slice _ _ _) rfl ?_   -- extract ['t40', '0']
      refine sP (v := nv _) rfl ?_   -- extract ['t40', '1']
      refine sAs (v := .slice _ _ _) rfl ?_
      refine sAs (v := nv _) rfl ?_
      refine sNil (kSeqN ?_)
      refine cSeq ?_
      refine cRegion ?_
      refine sLdAll A24 S24 rfl gD rfl ?_
      refine sMv (v := .slice _ _ _) rfl ?_
      obtain ⟨v49, m49, h_, w49, rfl, o49, e_⟩ := spec_refPlain hG ha hgs
      obtain ⟨q49, c49, rfl⟩ := o49.ints.lenN
      have z49 := e_.1
      refine sCall2 rfl call39 rfl rfl h_ ?_
      clear h_
      have x_ : Ext m43 m49 := e_
      replace hG := hG.ext x_
      replace ha := ha.ext x_
      replace E := E.trans x_
      replace hGl := hGl.ext x_
      replace gD := x_.cells gD
      replace rO := rO.ext x_
      replace iL := iL.ext x_
      replace gO := x_.cells gO
      replace X_B := X_B.trans x_
      replace o31 := o31.ext x_
      replace o37 := o37.ext x_
      replace o43 := o43.ext x_
      clear x_
      clear e_
      refine sMv (v := .tuple _) rfl ?_
      refine sP (v := .slice _ _ _) rfl ?_   -- extract ['t46', '0']
      refine sP (v := nv _) rfl ?_   -- extract ['t46', '1']
      refine sAs (v := .slice _ _ _) rfl ?_
      refine sAs (v := nv _) rfl ?_
      refine sNil (kSeqN ?_)
      refine cSeq ?_
      refine cDrawH (hs := [(2,0)]) rfl (by decide) ?_
      refine lStepLdA A24 S24 rfl gO rfl fun e0 hm0 hv0 hr0 => ?_
      have gD0 := gD
      obtain ⟨v53, m53, h_, rfl, e_⟩ := spec_Check rO
      refine lStepO (sCall1 rfl call40 rfl h_ (sNil fun e1 hm1 => ?_))
      clear h_
      have x_ : Ext m49 m53 := e_
      replace hG := hG.ext x_
      replace ha := ha.ext x_
      replace E := E.trans x_
      replace hGl := hGl.ext x_
      replace gD := x_.cells gD
      replace rO := rO.ext x_
      replace iL := iL.ext x_
      replace gO := x_.cells gO
      replace X_B := X_B.trans x_
      replace o31 := o31.ext x_
      replace o37 := o37.ext x_
      replace o43 := o43.ext x_
      replace o49 := o49.ext x_
      clear x_
      clear e_
      refine lStepLdA A24 S24 rfl gD rfl fun e2 hm2 hv2 hr2 => ?_
      obtain ⟨v55, m55, h_, rfl, e_⟩ := spec_refCheck hG
      refine lStepO (sCall1 rfl call41 rfl h_ (sNil fun e3 hm3 => ?_))
      clear h_
      have x_ : Ext m53 m55 := e_
      replace hG := hG.ext x_
      replace ha := ha.ext x_
      replace E := E.trans x_
      replace hGl := hGl.ext x_
      replace gD := x_.cells gD
      replace rO := rO.ext x_
      replace iL := iL.ext x_
      replace gO := x_.cells gO
      replace X_B := X_B.trans x_
      replace o31 := o31.ext x_
      replace o37 := o37.ext x_
      replace o43 := o43.ext x_
      replace o49 := o49.ext x_
      clear x_
      clear e_
      refine lStepO (sBin (v := .bool true) rfl rfl (eqlT rfl) (sNil fun e4 hm4 => ?_))
      refine lStepO (sMv (v := .bool _) rfl (sNil fun e5 hm5 => ?_))
      refine lG rfl rfl ?_
      refine lStepO (sMv (v := .slice _ _ _) rfl (sNil fun e6 hm6 => ?_))
      refine lG rfl rfl ?_
      refine lStepO (sMv (v := .slice _ _ _) rfl (sNil fun e7 hm7 => ?_))
      refine lG rfl rfl ?_
      have h60 := spec_Equal o31.ints o37.ints (by rw [ofs_length]; exact Nat.lt_of_le_of_lt (ls_needed _ _) (by decide))
      rw [decide_eq_true rfl] at h60
      refine lStepO (sCall2 rfl call22 rfl rfl h60 (sNil fun e8 hm8 => ?_))
      refine lStepO (sP (v := .bool true) rfl (sNil fun e9 hm9 => ?_))
      refine lStepO (sMv (v := .bool _) rfl (sNil fun e10 hm10 => ?_))
      refine lG rfl rfl ?_
      refine lStepO (sMv (v := nv _) rfl (sNil fun e11 hm11 => ?_))
      refine lG rfl rfl ?_
      refine lStepO (sMv (v := nv _) rfl (sNil fun e12 hm12 => ?_))
      refine lG rfl rfl ?_
      refine lStepO (sBin (v := .bool true) rfl rfl (eqlT rfl) (sNil fun e13 hm13 => ?_))
      refine lStepO (sP (v := .bool true) rfl (sNil fun e14 hm14 => ?_))
      refine lStepO (sMv (v := .bool _) rfl (sNil fun e15 hm15 => ?_))
      refine lG rfl rfl ?_
      refine lStepO (sMv (v := .slice _ _ _) rfl (sNil fun e16 hm16 => ?_))
      refine lG rfl rfl ?_
      refine lStepO (sMv (v := .slice _ _ _) rfl (sNil fun e17 hm17 => ?_))
      refine lG rfl rfl ?_
      have h70 := spec_Equal o43.ints o49.ints (by rw [ofs_length]; exact Nat.lt_of_le_of_lt (ls_plain _ _) (by decide))
      rw [decide_eq_true rfl] at h70
      refine lStepO (sCall2 rfl call22 rfl rfl h70 (sNil fun e18 hm18 => ?_))
      refine lStepO (sP (v := .bool true) rfl (sNil fun e19 hm19 => ?_))
      refine lStepO (sMv (v := .bool _) rfl (sNil fun e20 hm20 => ?_))
      refine lG rfl rfl ?_
      refine lStepO (sMv (v := nv _) rfl (sNil fun e21 hm21 => ?_))
      refine lG rfl rfl ?_
      refine lStepO (sMv (v := nv _) rfl (sNil fun e22 hm22 => ?_))
      refine lG rfl rfl ?_
      refine lStepO (sBin (v := .bool true) rfl rfl (eqlT rfl) (sNil fun e23 hm23 => ?_))
      refine lStepO (sP (v := .bool true) rfl (sNil fun e24 hm24 => ?_))
      refine lStepO (sAs (v := .bool _) rfl (sNil fun e25 hm25 => ?_))
      refine ⟨?_, (kSeqN ?_)⟩
      ·
        refine obl_atE (e := e2) (e' := e0) (by simp) (by rfl) (by simp) ((hr2 e0.m _ (by rw [hm0]; exact gD0)).trans (congrArg some hv2.symm)) ?_
        trivial
      refine cSeq ?_
      refine cRegion ?_
      refine sMv (v := .slice _ _ _) rfl ?_
      refine sClrW T25 Z3 rfl rfl rfl rfl (o31.wr (M := m55.size) fun b hb => (o31.lt hb).2) fun m9 l9 k9 => ?_
      have o43' := o43.keep fun b hb => k9 b fun e => by
        have h1 := (o43_0.lt hb).1
        have h2 := (o31_0.lt e).2
        omega
      have e_B : Ext (m32.push (.cells true #[.slice qO G.length cO])) m9 := Low.to_ext X_B (l9.low) (Nat.le_refl _)
      replace X_B := e_B
      clear e_B
      replace hG := hG_B.ext X_B
      replace ha := ha_B.ext X_B
      replace E := E_B.trans X_B
      replace hGl := hGl_B.ext X_B
      replace gD := X_B.cells gD_B
      replace rO := rO_B.ext X_B
      replace iL := iL_B.ext X_B
      replace gO := X_B.cells gO_B
      refine sNil (kSeqN ?_)
      refine cSeq ?_
      refine cRegion ?_
      refine sMv (v := .slice _ _ _) rfl ?_
      refine sClrW T25 Z3 rfl rfl rfl rfl (o43'.wr (M := m9.size) fun b hb => (o43'.lt hb).2) fun m10 l10 k10 => ?_
      have e_B : Ext (m32.push (.cells true #[.slice qO G.length cO])) m10 := Low.to_ext X_B (l10.low.le zB) (Nat.le_refl _)
      replace X_B := e_B
      clear e_B
      replace hG := hG_B.ext X_B
      replace ha := ha_B.ext X_B
      replace E := E_B.trans X_B
      replace hGl := hGl_B.ext X_B
      replace gD := X_B.cells gD_B
      replace rO := rO_B.ext X_B
      replace iL := iL_B.ext X_B
      replace gO := X_B.cells gO_B
      refine sNil (kSeqN ?_)
      refine cSeq ?_
      refine cRegion ?_
      refine sMv (v := .bool _) rfl ?_
      refine sMv (v := .bool _) rfl ?_
      refine sG rfl rfl ?_
      refine sLdAll A24 S24 rfl gO rfl ?_
      refine sG rfl rfl ?_
      refine sLdAll A24 S24 rfl gD rfl ?_
      refine sG rfl rfl ?_
      obtain ⟨m83, h_, e_⟩ := ls_same rO hG hgl hgr
      refine sCall2 rfl call24 rfl rfl h_ ?_
      clear h_
      have x_ : Ext m10 m83 := e_
      replace hG := hG.ext x_
      replace ha := ha.ext x_
      replace E := E.trans x_
      replace hGl := hGl.ext x_
      replace gD := x_.cells gD
      replace rO := rO.ext x_
      replace iL := iL.ext x_
      replace gO := x_.cells gO
      replace X_B := X_B.trans x_
      clear x_
      clear e_
      refine sP (v := .bool true) rfl ?_
      refine sMv (v := .bool _) rfl ?_
      refine sG rfl rfl ?_
      refine sMv (v := .slice _ _ _) rfl ?_
      refine sG rfl rfl ?_
      refine sMv (v := .slice _ _ _) rfl ?_
      refine sG rfl rfl ?_
      have h88 := spec_Equal iL ha (by omega)
      rw [decide_eq_true rfl] at h88
      refine sCall2 rfl call22 rfl rfl h88 ?_
      refine sP (v := .bool true) rfl ?_
      refine sMv (v := .bool _) rfl ?_
      refine sG rfl rfl ?_
      obtain ⟨v91, m91, h91, rfl, e91⟩ := spec_awake hGl
      refine sCall0 rfl call13 h91 ?_
      refine sP (v := .bool true) rfl ?_
      refine sAs (v := .bool _) rfl ?_
      refine sNil (kSeqN ?_)
      refine cRet ?_
      exact ⟨.inr rfl, _, rfl, rfl, trivial⟩

end Go.AM

/-! ### P35 -/
namespace Go.AM
open Go.Proofs
set_option maxRecDepth 100000
set_option linter.unusedVariables false
set_option linter.unusedSimpArgs false
theorem obl_fl {P : Program} {l : List Oper} {log : List Ent} {m' : Mem} {hs : List (Nat × Nat)} (h : log.length ≤ 999999) (hr : obl P ⟨l⟩ log m' hs) : obl P ⟨l⟩ log m' ((999999, 0) :: hs) :=
  ⟨by rw [List.getElem?_eq_none h]; trivial, hr⟩

def H49 : Nat → List (Nat × Nat) := fun id => if id = 13 then [(999999, 0), (1, 4), (1, 10), (1, 13), (1, 15), (5, 0), (8, 0)] else []
theorem okf49 : okF Tryd.prog H49 49 65 = true := by kernel_rfl
theorem spec_refCircuit {m : Mem} {s a : Value} {G : List (List Int)} {l : List Int} (hG : RowsAt m s G) (ha : IntsAt m a l) : ∃ v m', ACalls Tryd.prog 49 #[.agg #[s], a] m v m' ∧ (∃ w cs, v = .tuple #[.agg #[nv (ifOk (gPlayE G l) G.length 0), nv 0, w], nv (gPlayE G l)] ∧ OwnG m.size m' w cs (ifOk (gPlayE G l) (circG G l) []) ∧ Ext m m') := by
  obtain ⟨q, cap, rfl⟩ := hG.len
  obtain ⟨qg, cg, rfl⟩ := ha.len
  refine wpF (args := [_, _]) mixed okf49 (fn := Tryd.f49) rfl rfl rfl (by simp) ?_
  refine cSeq ?_
  refine cRegion ?_
  refine sBox (v := .agg _) rfl ?_
  refine sAllocB (bl := m.size + 1) (by simp) Z57 (by kernel_rfl) ?_
  refine sAs (v := nv 0) rfl ?_
  refine sNil (kSeqN ?_)
  refine cSeq ?_
  refine cSeq ?_
  refine cRegion ?_
  refine sLdAll A24 S24 rfl (by simp (disch := first | omega | (simp only [Array.size_push, Array.size_setIfInBounds]; done) | (simp only [Array.size_push, Array.size_setIfInBounds]; omega)) only [gP, gPn, gS, gSn]; try rfl) rfl ?_
  refine sMv (v := .slice _ _ _) rfl ?_
  obtain ⟨v14, m9, h14, w14, rfl, o14, k14⟩ := spec_refPlay (m := (m.push (.cells true #[.slice q G.length cap])).push (.cells true #[nv 0, nv 0, .slice none 0 0])) (hG.ext ((Ext.push _ _).trans (.push _ _))) (ha.ext ((Ext.push _ _).trans (.push _ _)))
  have g1 : Mem.get m9 m.size = .cells true #[.slice q G.length cap] := k14.cells (by simp (disch := first | omega | (simp only [Array.size_push, Array.size_setIfInBounds]; done) | (simp only [Array.size_push, Array.size_setIfInBounds]; omega)) only [gP, gPn, gS, gSn]; try rfl)
  have g2 : Mem.get m9 (m.size + 1) = .cells true #[nv 0, nv 0, .slice none 0 0] := k14.cells (gP (by simp))
  have hz9 : m.size + 2 ≤ m9.size := by have := k14.1; simp at this; omega
  have e9 : Ext m m9 := ((Ext.push _ _).trans (.push _ _)).trans k14
  obtain ⟨q14, c14, rfl⟩ := o14.ints.lenN
  refine sCall2 rfl call43 rfl rfl h14 ?_
  refine sMv (v := .tuple _) rfl ?_
  refine sP (v := .slice _ _ _) rfl ?_   -- extract ['t12', '0']
  refine sP (v := nv _) rfl ?_   -- extract ['t12', '1']
  refine sAs (v := .slice _ _ _) rfl ?_
  refine sAs (v := nv _) rfl ?_
  refine sNil (kSeqN ?_)
  refine cSeq ?_
  refine cRegion ?_
  refine sMv (v := nv _) rfl ?_
  refine sBin (a := gPlayE G l) rfl rfl (aInt_neq (b := 0)) ?_
  refine sNil (kSeqN ?_)
  refine cCond rfl (fun c0 => ?_) (fun c0 => ?_)
  ·
    refine cSeq ?_
    refine cRegion ?_
    refine sBuild B57_0 ?_
    refine sMv (v := nv _) rfl ?_
    refine sStAll S57 rfl rfl (by simp (disch := first | omega | (simp only [Array.size_push, Array.size_setIfInBounds]; done) | (simp only [Array.size_push, Array.size_setIfInBounds]; omega)) only [gP, gPn, gS, gSn, g1, g2]; try rfl) rfl rfl (by kernel_rfl) ?_
    refine sAs (v := nv _) rfl ?_
    refine sNil (kSeqN ?_)
    refine cRet (kSeqR ?_)
    exact ⟨.inr rfl, _, resRs_agg2 A57 S57 rfl (gS rfl (by omega)) rfl, _, #[], by rw [show ifOk (gPlayE G l) G.length 0 = 0 from ifOk_n c0 _ _]; rfl, by rw [ifOk_n c0]; exact .nil _ _, e9.set (b := m.size + 1) (by omega) _⟩
  ·
    have h0 := Decidable.not_not.1 c0
    obtain ⟨N, ns, rfl, hN, rfl, hns, hnl⟩ := gPlayE_nat h0
    have h10 := hN.ten
    rw [show ifOk (gPlayE (ofs2 N) (ofs ns)) (circG (ofs2 N) (ofs ns)) [] = circM N ns by rw [ifOk_0 h0, circG, natsG_ofs2, nats_ofs], show ifOk (gPlayE (ofs2 N) (ofs ns)) (ofs2 N).length 0 = N.length by rw [ifOk_0 h0, ofs2_length]]
    rw [ofs2_length] at *
    rw [ofs_length] at *
    refine cSkip (kSeqN ?_)
    refine cSeq ?_
    refine cRegion ?_
    refine sFA F24_0 rfl ?_
    refine sLd A22 rfl (by simp (disch := first | omega | (simp only [Array.size_push, Array.size_setIfInBounds]; done) | (simp only [Array.size_push, Array.size_setIfInBounds]; omega)) only [gP, gPn, gS, gSn, g1, g2]; try rfl) rfl ?_
    refine sLen T22 rfl ?_
    refine sBuild B57_1 ?_
    refine sAllocB (bl := m9.size) rfl Z57 (by kernel_rfl) ?_
    refine sStNAB rfl S57 rfl rfl rfl rfl (by kernel_rfl) ?_
    refine sNil (kSeqN ?_)
    refine cSeq ?_
    refine cSeq ?_
    refine cRegion ?_
    refine sMv (v := .slice _ _ _) rfl ?_
    refine sLen T25 rfl ?_
    refine sMv (v := nv 0) rfl ?_
    refine sNil (kSeqN ?_)
    refine cBlock ?_
    refine wpC_loop (fun k' ρ m' => ∃ i v cs, k' = ns.length - i ∧ i ≤ ns.length ∧ Low m9.size m9 m' ∧ Mem.get m' m9.size = .cells true #[nv N.length, nv 0, v] ∧ OwnG (m9.size + 1) m' v cs (circM N (ns.take i)) ∧ Has ρ [(2, .pointer (some ⟨m.size, 0, none⟩)), (4, .pointer (some ⟨m.size + 1, 0, none⟩)), (8, .pointer (some ⟨m9.size, 0, none⟩)), (26, .slice qg ns.length cg), (27, nv ns.length), (28, nv i)]) ⟨0, _, _, rfl, Nat.zero_le _, .push _ (Nat.le_refl _) _, gP rfl, .nil _ _, rfl, rfl, rfl, rfl, rfl, rfl, trivial⟩ ?_
    rintro k' ρ m' ⟨i, v, cs, rfl, hi, hLo, g8, hO, hh⟩
    obtain ⟨qv, cv, rfl⟩ := hO.1.len
    rw [hh.env]; clear hh
    have hl8 := live g8
    have hEE : Ext m m' := Low.to_ext e9 hLo e9.1
    have f1 := hLo.cells (show m.size < m9.size by omega) g1
    have f2 := hLo.cells (show m.size + 1 < m9.size by omega) g2
    refine cSeq ?_
    refine cRegion ?_
    refine sBin rfl rfl (aInt_lss) ?_
    refine sNil (kSeqN ?_)
    refine cSeq ?_   -- seq 9
    refine cCond rfl (fun c1 => ?_) (fun c1 => ?_)
    ·
      obtain ⟨b1, o1, p1, r1, cc, e1, gg, x1⟩ := (ha.ext hEE).atN (by omega)
      cases e1
      have hni := hns ns[i] (List.getElem_mem c1)
      obtain ⟨b2, o2, p2, r2, cd, e2, gg2, x2⟩ := (hG.ext hEE).at (by rw [ofs2_length]; omega)
      rw [ofs2_length] at e2
      cases e2
      obtain ⟨s1, hs1, ha1⟩ := x2 ns[i] (ofs N[ns[i]]) (ofs2_get (by simp))
      obtain ⟨qs, csz, rfl⟩ := ha1.lenN
      have hrl := hN.row_len hni
      have hgd : N.getD ns[i] [] = N[ns[i]] := by rw [List.getD_eq_getElem?_getD, List.getElem?_eq_getElem hni]; rfl
      refine cSkip (kSeqN ?_)
      refine cSeq ?_
      refine cBlock ?_
      refine cSeq ?_
      refine cRegion ?_
      refine sIx T25 S3 rfl rfl (by omega) ?_
      refine sLd (v := nv ns[i]) A3 rfl gg (x1 i ns[i] (by simp)) ?_
      refine sAs (v := nv _) rfl ?_
      refine sNil (kSeqN ?_)
      refine cSeq ?_
      refine cRegion ?_
      refine sAs (v := nv 1) rfl ?_
      refine sNil (kSeqN ?_)
      refine cCut (fun ρ mm => m' = mm ∧ Has ρ [(2, .pointer (some ⟨m.size, 0, none⟩)), (4, .pointer (some ⟨m.size + 1, 0, none⟩)), (8, .pointer (some ⟨m9.size, 0, none⟩)), (10, nv ns[i]), (11, nv (if N[ns[i]].length = 1 then 9 else 1)), (26, .slice (some ⟨b1, o1, some 1⟩) ns.length cg), (27, nv ns.length), (28, nv i)]) ?_ ?_
      ·
        refine cSeq ?_
        refine cRegion ?_
        refine sFA F24_0 rfl ?_
        refine sLd (v := .slice _ _ _) A22 rfl f1 rfl ?_
        refine sMv (v := nv _) rfl ?_
        refine sIx T22 S25 rfl rfl hni ?_
        refine sLd (v := .slice _ _ _) A25 rfl gg2 hs1 ?_
        refine sLen T25 rfl ?_
        refine sBin (a := N[ns[i]].length) rfl rfl (aInt_eql (b := 1)) ?_
        refine sNil (kSeqN ?_)
        refine cCond rfl (fun c2 => ?_) (fun c2 => ?_)
        ·
          refine cRegion ?_
          refine sAs (v := nv 9) rfl ?_
          refine sNil (kSeqN ?_)
          exact ⟨rfl, rfl, rfl, rfl, rfl, by rw [if_pos c2]; rfl, rfl, rfl, rfl, trivial⟩
        ·
          refine cSkip (kSeqN ?_)
          exact ⟨rfl, rfl, rfl, rfl, rfl, by rw [if_neg c2]; rfl, rfl, rfl, rfl, trivial⟩
      rintro ρ _ ⟨rfl, hh⟩
      rw [hh.env]; clear hh
      refine cCut (fun ρ mm => m' = mm ∧ Has ρ [(2, .pointer (some ⟨m.size, 0, none⟩)), (4, .pointer (some ⟨m.size + 1, 0, none⟩)), (8, .pointer (some ⟨m9.size, 0, none⟩)), (10, nv ns[i]), (11, nv (kindM N[ns[i]].length)), (26, .slice (some ⟨b1, o1, some 1⟩) ns.length cg), (27, nv ns.length), (28, nv i)]) ?_ ?_
      ·
        refine cSeq ?_
        refine cRegion ?_
        refine sFA F24_0 rfl ?_
        refine sLd (v := .slice _ _ _) A22 rfl f1 rfl ?_
        refine sMv (v := nv _) rfl ?_
        refine sIx T22 S25 rfl rfl hni ?_
        refine sLd (v := .slice _ _ _) A25 rfl gg2 hs1 ?_
        refine sLen T25 rfl ?_
        refine sBin (a := N[ns[i]].length) rfl rfl (aInt_eql (b := 2)) ?_
        refine sNil (kSeqN ?_)
        refine cCond rfl (fun c3 => ?_) (fun c3 => ?_)
        ·
          refine cRegion ?_
          refine sAs (v := nv 12) rfl ?_
          refine sNil (kSeqN ?_)
          exact ⟨rfl, rfl, rfl, rfl, rfl, by rw [c3]; rfl, rfl, rfl, rfl, trivial⟩
        ·
          refine cSkip (kSeqN ?_)
          refine ⟨rfl, rfl, rfl, rfl, rfl, ?_, rfl, rfl, rfl, trivial⟩
          have : N[ns[i]].length = 0 ∨ N[ns[i]].length = 1 := by omega
          rcases this with h | h <;> rw [h] <;> rfl
      rintro ρ _ ⟨rfl, hh⟩
      rw [hh.env]; clear hh
      refine cDrawH (hs := [(999999, 0), (1, 4), (1, 10), (1, 13), (1, 15), (5, 0), (8, 0)]) rfl (by decide) ?_
      refine lStepO (sFA F57_2 rfl (sNil fun e0 hm0 => ?_))
      refine lStepLd (v := .slice _ _ _) A55 rfl g8 rfl fun e1 hm1 hv1 hr1 => ?_
      refine lStepO (sMv (v := nv _) rfl (sNil fun e2 hm2 => ?_))
      refine lStepO (sBuildS (c := #[]) T25 S3 Z3 (by decide) (by decide) (by decide) (by kernel_rfl) rfl rfl (sNil fun e3 hm3 => ?_))
      refine lStepO (sFA F24_0 rfl (sNil fun e4 hm4 => ?_))
      refine lStepLd (v := .slice _ _ _) A22 rfl ((gPn (live f1)).trans f1) rfl fun e5 hm5 hv5 hr5 => ?_
      refine lStepO (sMv (v := nv _) rfl (sNil fun e6 hm6 => ?_))
      refine lStepO (sIx T22 S25 rfl rfl hni (sNil fun e7 hm7 => ?_))
      refine lStepLd (v := .slice _ _ _) A25 rfl ((Ext.push _ _).cells gg2) hs1 fun e8 hm8 hv8 hr8 => ?_
      refine lStepO (sApp App25 rfl rfl (N := m'.size) (p := []) (.inr ⟨m'.size, 0, #[], rfl, Nat.le_refl _, gP rfl, by simp, by simp, by simp⟩) (ha1.ext (.push _ _)) (by simp) (by rw [ofs_length]; simp; omega) fun v55 m55 hO55 hL55 => (sNil fun e9 hm9 => ?_))
      rw [List.nil_append] at hO55
      have g855 := hL55.cells hl8 ((gPn hl8).trans g8)
      have z55 := hL55.1
      simp only [Array.size_push] at z55
      obtain ⟨q55, c55, rfl⟩ := hO55.ints.lenN
      have hE55 : Ext m' m55 := Low.to_ext (.push _ _) hL55 (Nat.le_refl _)
      refine lStepO (sMv (v := nv _) rfl (sNil fun e10 hm10 => ?_))
      refine lStepO (sBuildS T25 S3 Z3 (by decide) (by decide) (by decide) (by kernel_rfl) fill1 rfl (sNil fun e11 hm11 => ?_))
      refine lStepO (sApp App25 rfl rfl (N := m'.size) (hO55.ext (.push _ _)) one_ints (by simp; omega) (by rw [ofs_length]; simp; omega) fun v58 m58 hO58 hL58 => (sNil fun e12 hm12 => ?_))
      rw [show ofs N[ns[i]] ++ [Int.ofNat ns[i]] = ofs (N[ns[i]] ++ [ns[i]]) by rw [ofs_append]; rfl] at hO58
      obtain ⟨q58, c58, rfl⟩ := hO58.ints.lenN
      have hE58 : Ext m' m58 := Low.to_ext (hE55.trans (.push _ _)) hL58 (Nat.le_refl _)
      have g858 := hE58.cells g8
      have hO' := hO.ext hE58
      refine lStepO (sBuild B76 (sNil fun e13 hm13 => ?_))
      refine lStepO (sBuildS T55 S76 Z76 (by decide) (by decide) (by decide) (by kernel_rfl) fillA4 rfl (sNil fun e14 hm14 => ?_))
      refine lStepO (sAppC El55 rfl rfl (N := m9.size + 1) (n := (circM N (ns.take i)).length) (cs := cs) (hO'.1.ext (.push _ _)) (gP rfl) rfl (by kernel_rfl) (by have := live g858; simp; omega) (by simp [circM]; omega) fun v' m4 hO4 hL4 hG4 => (sNil fun e15 hm15 => ?_))
      have g84 := hL4.cells (show m9.size < m9.size + 1 by omega) ((gPn (live g858)).trans g858)
      have hgr := (hO'.ext (.push _ _)).grew (s := .slice q58 (N[ns[i]] ++ [ns[i]]).length c58) (k := kindM N[ns[i]].length) (w := N[ns[i]] ++ [ns[i]]) ((hO58.mono (by omega)).ext (.push _ _)) (fun b hb e => by
        have h1 := (hO58.lt hb).1
        have h2 := (hO.1.lt e).2
        omega) hG4 hO4
      obtain ⟨q4, cp4, rfl⟩ := hO4.len
      refine lStepO (sFA F57_2 rfl (sNil fun e16 hm16 => ?_))
      refine lStepO (sSt (v := .slice _ _ _) S55 rfl rfl g84 (by simp) rfl rfl (sNil fun e17 hm17 => ?_))
      refine ⟨?_, (kBlkN (kSeqN ?_))⟩
      ·
        refine obl_fl (by simp) ?_
        refine obl_atE (e := e1) (e' := e4) (by simp) (by rfl) (by simp) ((hr1 e4.m _ _ (by rw [hm4, gPn hl8]; exact g8) (by rfl)).trans (congrArg some hv1.symm)) ?_
        refine obl_atE (e := e1) (e' := e10) (by simp) (by rfl) (by simp) ((hr1 e10.m _ _ (by rw [hm10]; exact g855) (by rfl)).trans (congrArg some hv1.symm)) ?_
        refine obl_atE (e := e1) (e' := e13) (by simp) (by rfl) (by simp) ((hr1 e13.m _ _ (by rw [hm13]; exact g858) (by rfl)).trans (congrArg some hv1.symm)) ?_
        refine obl_atE (e := e1) (e' := e15) (by simp) (by rfl) (by simp) ((hr1 e15.m _ _ (by rw [hm15, gPn (live g858)]; exact g858) (by rfl)).trans (congrArg some hv1.symm)) ?_
        refine obl_atE (e := e5) (e' := e0) (by simp) (by rfl) (by simp) ((hr5 e0.m _ _ (by rw [hm0]; exact f1) (by rfl)).trans (congrArg some hv5.symm)) ?_
        refine obl_atE (e := e8) (e' := e0) (by simp) (by rfl) (by simp) ((hr8 e0.m _ _ (by rw [hm0]; exact gg2) hs1).trans (congrArg some hv8.symm)) ?_
        trivial
      refine cRegion ?_
      refine sBin rfl rfl (aInt_add (b := 1) (by omega)) ?_
      refine sMv (v := nv _) rfl ?_
      refine sNil (kSeqN ?_)
      refine ⟨_, ?_, i + 1, _, cs ++ #[nv (kindM N[ns[i]].length), .slice q58 (N[ns[i]] ++ [ns[i]]).length c58, nv 0, nv 0], rfl, by omega, hLo.trans ((Low.of_ext hE58 (by omega)).trans ((Low.push _ (by have := hE58.1; omega) _).trans ((hL4.le (Nat.le_succ _)).trans (.set (Nat.le_refl _) _)))), by rw [gS rfl (live g84)]; rfl, ?_, rfl, rfl, rfl, rfl, rfl, rfl, trivial⟩
      · omega
      · rw [circM_take c1, show gateM N ns[i] = (kindM N[ns[i]].length, N[ns[i]] ++ [ns[i]]) by rw [gateM, hgd]]
        have := hgr.only (.set m9.size m4 (.cells true #[nv N.length, nv 0, .slice q4 ((circM N (ns.take i)).length + 1) cp4])) (by omega)
        exact this
    ·
      refine cExit (kSeqE (kSeqE (kBlkS (kSeqN ?_))))
      refine cSeq ?_
      refine cRegion ?_
      refine sLdAll A57 S57 rfl (by simp (disch := first | omega | (simp only [Array.size_push, Array.size_setIfInBounds]; done) | (simp only [Array.size_push, Array.size_setIfInBounds]; omega)) only [gP, gPn, gS, gSn, g8, f1, f2]; try rfl) rfl ?_
      refine sStAll S57 rfl rfl (by simp (disch := first | omega | (simp only [Array.size_push, Array.size_setIfInBounds]; done) | (simp only [Array.size_push, Array.size_setIfInBounds]; omega)) only [gP, gPn, gS, gSn, g8, f1, f2]; try rfl) rfl rfl (by kernel_rfl) ?_
      refine sAs (v := nv 0) rfl ?_
      refine sNil (kSeqN ?_)
      refine cRet ?_
      obtain rfl : i = ns.length := by omega
      refine ⟨.inr rfl, _, resRs_agg2 A57 S57 rfl (gS rfl (live f2)) rfl, _, cs, by rw [h0]; rfl, ?_, hEE.set (b := m.size + 1) (by omega) _⟩
      have := (hO.only (.set (m.size + 1) m' (.cells true #[nv N.length, nv 0, .slice qv (circM N (ns.take ns.length)).length cv])) (by omega)).mono (N' := m.size) (by omega)
      simpa only [List.take_length] using this

end Go.AM

/-! ### P36 -/
namespace Go.AM
open Go.Proofs
set_option maxRecDepth 100000
set_option linter.unusedVariables false
set_option linter.unusedSimpArgs false
/-- A slice of elements of several cells that may be wiped. -/
def WrC (N : Nat) (m : Mem) (s : Value) (w n : Nat) : Prop := (s = .slice none 0 0 ∧ n = 0) ∨ ∃ b cap c, s = .slice (some ⟨b, 0, some w⟩) n cap ∧ N ≤ b ∧ Mem.get m b = .cells true c ∧ n * w ≤ c.size
theorem zeroCells_all {z : Array Value} {n : Nat} (h : z.all Value.oneCell' = true) (h0 : z.size ≠ 0) : (Builtin.zeroCells z n).all Value.oneCell' = true := by
  unfold Builtin.zeroCells
  rw [Array.all_eq_true] at h ⊢
  intro i hi
  have hlt : i % z.size < z.size := Nat.mod_lt _ (Nat.pos_of_ne_zero h0)
  have := h (i % z.size) hlt
  simp only [Array.getElem_map, Array.getElem_range]
  rw [getElem!_pos z (i % z.size) hlt]
  exact this
theorem sClrC {P : Program} {ρ : Env} {m : Mem} {K : Env → Mem → Prop} {ops : Array Oper} {l : List Oper} {d : Option Nat} {ty t e : TypeId} {pos : String} {af : Array Edge} {x : Operand} {s z : Value} {N w n : Nat}
    (ht : undOf P t = some (.slice e)) (hz : zeroOf P e = some z) (h0 : z.cells.size = w) (hw : w ≠ 0) (h2 : z.cells.all flat0 = true) (h3 : z.cells.all Value.oneCell' = true) (hx : evR ρ x = s) (hs : WrC N m s w n)
    (hk : ∀ m', m'.size = m.size → (∀ b, b < N → Mem.get m' b = Mem.get m b) → wpOps P ops K l (updO ρ d (.tuple #[])) m') : wpOps P ops K (⟨d, .call ⟨.builtin .clear, ⟨[x]⟩, ⟨[t]⟩⟩, ty, pos, af, none⟩ :: l) ρ m := by
  subst h0
  rcases hs with ⟨rfl, _⟩ | ⟨b, cap, c, rfl, hN, hb, hn⟩
  · refine sO (opF_eff rfl rfl ?_) (hk m rfl fun _ _ => rfl)
    simp only [aEff, hx, aClear, ht]
  · by_cases h0 : n = 0
    · refine sO (opF_eff rfl rfl ?_) (hk m rfl fun _ _ => rfl)
      simp only [aEff, hx, aClear, ht, h0, if_true]
    · refine sO (opF_eff rfl rfl ?_) (hk (m.setIfInBounds b (.cells true (lay c 0 (Builtin.zeroCells z.cells n)))) (by simp) fun i hi => gSn (by omega))
      simp only [aEff, hx, aClear, ht, if_neg h0, hz, hb]
      rw [if_pos ⟨hw, h2, by omega, zeroCells_all h3 hw⟩]
theorem quad_atD {c : Array Value} {i : Nat} {a b d e : Value} (h1 : c[i * 4]? = some a) (h2 : c[i * 4 + 1]? = some b) (h3 : c[i * 4 + 2]? = some d) (h4 : c[i * 4 + 3]? = some e) : c.extract (0 + i * 4) (0 + i * 4 + 4) = #[a, b, d, e] := by
  have l4 := (Array.getElem?_eq_some_iff.1 h4).1
  apply Array.ext
  · simp; omega
  · intro j hj1 hj2
    have hj : j < 4 := by simpa using hj2
    rw [Array.getElem_extract]
    have e0 : 0 + i * 4 + j = i * 4 + j := by omega
    match j, hj with
    | 0, _ => simpa [Array.getElem?_eq_some_iff] using (Array.getElem?_eq_some_iff.1 h1).2
    | 1, _ => simpa [e0] using (Array.getElem?_eq_some_iff.1 h2).2
    | 2, _ => simpa [e0] using (Array.getElem?_eq_some_iff.1 h3).2
    | 3, _ => simpa [e0] using (Array.getElem?_eq_some_iff.1 h4).2
/-- What holds while gates are spoiled. -/
def SpI (N : Nat) (v : Value) (m m' : Mem) : Prop := (m.size + 1 ≤ m'.size ∧ ∀ b, b < N → Mem.get m' b = Mem.get m b) ∧ (∀ b, blkOf v = some b → Mem.get m' b = Mem.get m b) ∧ ∀ b c, b < m.size → Mem.get m b = .cells true c → ∃ c', Mem.get m' b = .cells true c' ∧ c'.size = c.size
theorem SpI.next {N : Nat} {v : Value} {m m' m2 : Mem} {o : AObj} (h : SpI N v m m') (hN : N ≤ m.size) (hv : ∀ b, blkOf v = some b → b < m.size) (hw : Wipe N m.size (m'.push o) m2) (hk : ∀ b, blkOf v = some b → Mem.get m2 b = Mem.get (m'.push o) b) : SpI N v m m2 := by
  obtain ⟨⟨h1, h2⟩, h3, h4⟩ := h
  refine ⟨⟨by rw [hw.1]; simp; omega, fun b hb => ?_⟩, fun b hb => ?_, fun b c hb hc => ?_⟩
  · rw [hw.2.1 b (.inl hb), gPn (by omega)]; exact h2 b hb
  · have := hv b hb
    rw [hk b hb, gPn (by omega)]; exact h3 b hb
  · obtain ⟨c1, hc1, e1⟩ := h4 b c hb hc
    obtain ⟨c2, hc2, e2⟩ := hw.2.2 b c1 ((gPn (by omega)).trans hc1)
    exact ⟨c2, hc2, e2.trans e1⟩

theorem okf51 : okF Tryd.prog H0 51 16 = true := by kernel_rfl
theorem spec_Spoil {m : Mem} {N W B : Nat} {v : Value} {cs : Array Value} {Gs : List (Nat × List Nat)} (hO : OwnG N m v cs Gs) (hN : N ≤ m.size) (hl : Gs.length < 1000000) : ∃ w m', ACalls Tryd.prog 51 #[.agg #[nv W, nv B, v]] m w m' ∧ (Low N m m') := by
  obtain ⟨q, cap, rfl⟩ := hO.1.len
  have hvl : ∀ b, blkOf (.slice q Gs.length cap) = some b → b < m.size := fun b hb => (hO.1.lt hb).2
  refine wpF (args := [_]) mixed okf51 (fn := Tryd.f51) rfl rfl rfl (by simp) ?_
  refine cSeq ?_
  refine cRegion ?_
  refine sBox (v := .agg _) rfl ?_
  refine sNil (kSeqN ?_)
  refine cSeq ?_
  refine cSeq ?_
  refine cRegion ?_
  refine sFA F57_2 rfl ?_
  refine sLd A55 rfl (by simp (disch := first | omega | (simp only [Array.size_push, Array.size_setIfInBounds]; done) | (simp only [Array.size_push, Array.size_setIfInBounds]; omega)) only [gP, gPn, gS, gSn]; try rfl) rfl ?_
  refine sLen T55 rfl ?_
  refine sMv (v := nv 0) rfl ?_
  refine sNil (kSeqN ?_)
  refine cBlock ?_
  refine wpC_loop (fun k ρ m' => ∃ i, k = Gs.length - i ∧ i ≤ Gs.length ∧ SpI N (.slice q Gs.length cap) m m' ∧ Mem.get m' m.size = .cells true #[nv W, nv B, .slice q Gs.length cap] ∧ Has ρ [(1, .pointer (some ⟨m.size, 0, none⟩)), (5, .slice q Gs.length cap), (6, nv Gs.length), (7, nv i)]) ⟨0, rfl, Nat.zero_le _, ⟨⟨by simp, fun b hb => gPn (by omega)⟩, fun b hb => gPn (by have := hvl b hb; omega), fun b c hb hc => ⟨c, (gPn hb).trans hc, rfl⟩⟩, gP rfl, rfl, rfl, rfl, rfl, trivial⟩ ?_
  rintro k ρ m' ⟨i, rfl, hi, hS, gB, hh⟩
  rw [hh.env]; clear hh
  have hz := hS.1.1
  refine cSeq ?_
  refine cRegion ?_
  refine sBin rfl rfl (aInt_lss) ?_
  refine sNil (kSeqN ?_)
  refine cSeq ?_   -- seq 4
  refine cCond rfl (fun c0 => ?_) (fun c0 => ?_)
  ·
    obtain ⟨b1, p1, cc, e1, hb1, g1, hc1, x1⟩ := hO.1.at (by omega)
    cases e1
    obtain ⟨s, hs0, hs1, hs2, hs3, hso, hsb⟩ := hO.2 i Gs[i] (List.getElem?_eq_getElem c0)
    have hsM := hso.wr (M := m.size) fun b hb => (hso.lt hb).2
    obtain ⟨qs, c', rfl⟩ := hso.ints.len
    have hex : cc.extract (0 + i * 4) (0 + i * 4 + 4) = #[nv Gs[i].1, .slice qs (ofs Gs[i].2).length c', nv 0, nv 0] := quad_atD (by rw [x1 _ (by omega)]; exact hs0) (by rw [x1 _ (by omega)]; exact hs1) (by rw [x1 _ (by omega)]; exact hs2) (by rw [x1 _ (by omega)]; exact hs3)
    have gb' := (hS.2.1 b1 rfl).trans g1
    have hsW : Wr N m.size (m'.push (.cells true #[nv Gs[i].1, .slice qs (ofs Gs[i].2).length c', nv 0, nv 0])) (.slice qs (ofs Gs[i].2).length c') (ofs Gs[i].2).length := by
      rcases hsM with ⟨h1, h2⟩ | ⟨b, cp, c, h1, h2, h3, h4⟩
      · exact .inl ⟨h1, h2⟩
      · obtain ⟨d, hd, e⟩ := hS.2.2 b c h2.2 h3
        exact .inr ⟨b, cp, d, h1, h2, (gPn (by omega)).trans hd, by omega⟩
    refine cSkip (kSeqN ?_)
    refine cSeq ?_
    refine cBlock ?_
    refine cSeq ?_
    refine cRegion ?_
    refine sIx T55 S76 rfl rfl c0 ?_
    refine sLdA A76 S76 rfl gb' (by omega) ?_
    rw [hex]
    refine sAlloc Z76 (by kernel_rfl) ?_
    refine sStNA S76 rfl rfl rfl rfl (by kernel_rfl) ?_
    refine sNil (kSeqN ?_)
    refine cRegion ?_
    refine sFA F76_1 rfl ?_
    refine sLd (v := .slice _ _ _) A25 rfl (gP rfl) rfl ?_
    refine sClrW (N := N) (M := m.size) T25 Z3 rfl rfl rfl rfl hsW fun m2 hw2 hk2 => ?_
    have hS2 := hS.next hN hvl hw2 fun b hb => hk2 b fun e => hsb b e hb
    have gB2 : Mem.get m2 m.size = .cells true #[nv W, nv B, .slice (some ⟨b1, 0, some 4⟩) Gs.length cap] := by
      rw [hw2.2.1 m.size (.inr (Nat.le_refl _)), gPn (by omega)]; exact gB
    refine sNil (kBlkN (kSeqN ?_))
    refine cRegion ?_
    refine sBin rfl rfl (aInt_add (b := 1) (by omega)) ?_
    refine sMv (v := nv _) rfl ?_
    refine sNil (kSeqN ?_)
    refine ⟨_, ?_, i + 1, rfl, by omega, hS2, gB2, rfl, rfl, rfl, rfl, trivial⟩
    omega
  ·
    have hWC : WrC N m' (.slice q Gs.length cap) 4 Gs.length := by
      rcases hO.1 with ⟨h1, h2, _⟩ | ⟨b, cp, c, h1, h2, h3, h4, h5, _⟩
      · exact .inl ⟨h1, h2⟩
      · exact .inr ⟨b, cp, c, h1, h2, (hS.2.1 b (by rw [h1]; rfl)).trans h3, by rw [h5]; exact Nat.mul_le_mul_right 4 h4⟩
    refine cExit (kSeqE (kSeqE (kBlkS (kSeqN ?_))))
    refine cRegion ?_
    refine sFA F57_2 rfl ?_
    refine sLd (v := .slice _ _ _) A55 rfl gB rfl ?_
    refine sClrC (N := N) (w := 4) T55 Z76 rfl (by decide) (by kernel_rfl) (by kernel_rfl) rfl hWC fun m2 hz2 hk2 => ?_
    refine sNil ?_
    exact ⟨.inl rfl, _, rfl, by rw [hz2]; omega, fun b hb => (hk2 b hb).trans (hS.1.2 b hb)⟩

end Go.AM

/-! ### P37 -/
namespace Go.AM
open Go.Proofs
set_option maxRecDepth 100000
set_option linter.unusedVariables false
set_option linter.unusedSimpArgs false

theorem eqBool (q r : Bool) : aBin Tryd.prog .eql 4 (.bool q) (.bool r) = some (.bool (q == r)) := by
  cases q <;> cases r <;> kernel_rfl
theorem sEqB {ρ : Env} {m : Mem} {K : Env → Mem → Prop} {ops : Array Oper} {l : List Oper} {d : Option Nat} {ty : TypeId} {pos : String} {af : Array Edge} {x y : Operand} {q r : Bool} {tz : TypeId} (hx : evR ρ x = .bool q) (hy : evR ρ y = .bool r)
    (hk : wpOps Tryd.prog ops K l (updO ρ d (.bool (q == r))) m) : wpOps Tryd.prog ops K (⟨d, .binOp .eql 4 x y tz, ty, pos, af, none⟩ :: l) ρ m := by
  refine sP (v := .bool (q == r)) ?_ hk
  simp only [aPure, hx, hy, eqBool]
theorem ls_play (G : List (List Int)) (l : List Int) : (ifOk (gPlayE G l) (playedL l) []).length ≤ 1000 := by
  by_cases h : gPlayE G l = 0
  · rw [ifOk_0 h]; have := (gPlay_lt h).2.1; omega
  · rw [ifOk_n h]; simp
theorem ls_circL (G : List (List Int)) (l : List Int) (hl : l.length < 1000000) : (ifOk (gPlayE G l) (circG G l) []).length < 1000000 := by
  by_cases h : gPlayE G l = 0
  · obtain ⟨N, ns, rfl, hN, rfl, hns, hnl⟩ := gPlayE_nat h
    rw [ifOk_0 h, circG, natsG_ofs2, nats_ofs, circM, List.length_map]
    rw [ofs_length] at hl; exact hl
  · rw [ifOk_n h]; simp
theorem ls_circ (G : List (List Int)) (l : List Int) (hl : l.length < 1000000) : (ifOk (gPlayE G l) (circG G l) []).length < 1000000 ∧ ∀ g ∈ ifOk (gPlayE G l) (circG G l) [], g.2.length < 1000000 := by
  refine ⟨ls_circL G l hl, fun g hg => ?_⟩
  by_cases h : gPlayE G l = 0
  · obtain ⟨N, ns, rfl, hN, rfl, hns, hnl⟩ := gPlayE_nat h
    rw [ifOk_0 h, circG, natsG_ofs2, nats_ofs, circM, List.mem_map] at hg
    obtain ⟨n, hn, rfl⟩ := hg
    have hlt := hns n hn
    have := hN.row_len hlt
    rw [gateM, List.getD_eq_getElem?_getD, List.getElem?_eq_getElem hlt]
    simp; omega
  · rw [ifOk_n h] at hg; cases hg
theorem ls_sameC {m : Mem} {a b : Value} {W B : Nat} {Gs : List (Nat × List Nat)} (ha : GatesAt m a (Gs.map gvM)) (hb : GatesAt m b (Gs.map gvM)) (hl : Gs.length < 1000000 ∧ ∀ g ∈ Gs, g.2.length < 1000000) : ∃ m', ACalls Tryd.prog 50 #[.agg #[nv W, nv B, a], .agg #[nv W, nv B, b]] m (.bool true) m' ∧ Ext m m' := by
  obtain ⟨v, m', h, rfl, e⟩ := spec_Same (W := W) (B := B) (W' := W) (B' := B) ha hb (by rw [List.length_map]; omega) (fun g hg => by
    obtain ⟨x, hx, rfl⟩ := List.mem_map.1 hg
    have := hl.2 x hx
    simp only [gvM, ofs_length]; omega)
  rw [decide_eq_true ⟨rfl, rfl, rfl⟩] at h
  exact ⟨m', h, e⟩

theorem okf7 : okF Tryd.prog H0 7 151 = true := by kernel_rfl
theorem spec_PlaysLaw {m : Mem} {s a b : Value} {G : List (List Int)} {gs l : List Int} (hGl : GlobP m) (hG : RowsAt m s G) (ha : IntsAt m a gs) (hb : IntsAt m b l) : ∃ v m', ACalls Tryd.prog 7 #[.agg #[s], a, b] m v m' ∧ (v = .bool true ∧ True) := by
  obtain ⟨q, cap, rfl⟩ := hG.len
  obtain ⟨qg, cg, rfl⟩ := ha.len
  obtain ⟨ql, cl, rfl⟩ := hb.len
  have E : Ext m m := .refl _
  refine wpF (args := [_, _, _]) mixed okf7 (fn := Tryd.f7) rfl rfl rfl (by simp) ?_
  refine cSeq ?_
  refine cRegion ?_
  refine sBox (v := .agg _) rfl ?_
  have x_ : Ext m (m.push (.cells true #[.slice q G.length cap])) := .push _ _
  replace hG := hG.ext x_
  replace ha := ha.ext x_
  replace hb := hb.ext x_
  replace E := E.trans x_
  replace hGl := hGl.ext x_
  clear x_
  have gD : Mem.get (m.push (.cells true #[.slice q G.length cap])) m.size = .cells true #[.slice q G.length cap] := gP rfl
  refine sAs (v := .bool _) rfl ?_
  refine sNil (kSeqN ?_)
  refine cSeq ?_   -- seq 1
  refine cSeq ?_
  refine cRegion ?_
  refine sLdAll A24 S24 rfl gD rfl ?_
  obtain ⟨v22, m22, h_, rfl, e_⟩ := spec_Great hG
  refine sCall1 rfl call12 rfl h_ ?_
  clear h_
  have x_ : Ext (m.push (.cells true #[.slice q G.length cap])) m22 := e_
  replace hG := hG.ext x_
  replace ha := ha.ext x_
  replace hb := hb.ext x_
  replace E := E.trans x_
  replace hGl := hGl.ext x_
  replace gD := x_.cells gD
  clear x_
  clear e_
  refine sMv (v := .bool _) rfl ?_
  by_cases h1 : greatB G = true
  ·
    rw [h1]
    refine sGno (q' := true) rfl rfl (by simp) ?_
    refine sGno (q' := true) rfl rfl (by simp) ?_
    refine sGno (q' := true) rfl rfl (by simp) ?_
    refine sP (v := .bool _) rfl ?_
    refine sMv (v := .bool _) rfl ?_
    refine sGno (q' := true) rfl rfl (by simp) ?_
    refine sGno (q' := true) rfl rfl (by simp) ?_
    refine sGno (q' := true) rfl rfl (by simp) ?_
    refine sP (v := .bool _) rfl ?_
    refine sNil (kSeqN ?_)
    refine cCondT rfl ?_
    refine cSeq ?_
    refine cRegion ?_
    obtain ⟨v28, m28, h28, rfl, e28⟩ := spec_awake hGl
    refine sCall0 rfl call13 h28 ?_
    refine sAs (v := .bool _) rfl ?_
    refine sNil (kSeqN ?_)
    refine cRet (kSeqR ?_)
    exact ⟨.inr rfl, _, rfl, rfl, trivial⟩
  ·
    rw [Bool.eq_false_iff.2 h1]
    obtain ⟨hgl, hgr⟩ := greatB_not h1
    refine sG rfl rfl ?_
    refine sMv (v := .slice _ _ _) rfl ?_
    refine sG rfl rfl ?_
    refine sLen T25 rfl ?_
    refine sG rfl rfl ?_
    refine sBin (b := 20) rfl rfl aInt_gtr ?_
    refine sP (v := .bool _) rfl ?_
    refine sMv (v := .bool _) rfl ?_
    by_cases h2 : 20 < gs.length
    ·
      rw [decide_eq_true h2]
      refine sGno (q' := true) rfl rfl (by simp) ?_
      refine sGno (q' := true) rfl rfl (by simp) ?_
      refine sGno (q' := true) rfl rfl (by simp) ?_
      refine sP (v := .bool _) rfl ?_
      refine sNil (kSeqN ?_)
      refine cCondT rfl ?_
      refine cSeq ?_
      refine cRegion ?_
      obtain ⟨v28, m28, h28, rfl, e28⟩ := spec_awake hGl
      refine sCall0 rfl call13 h28 ?_
      refine sAs (v := .bool _) rfl ?_
      refine sNil (kSeqN ?_)
      refine cRet (kSeqR ?_)
      exact ⟨.inr rfl, _, rfl, rfl, trivial⟩
    ·
      rw [decide_eq_false h2]
      refine sG rfl rfl ?_
      refine sMv (v := .slice _ _ _) rfl ?_
      refine sG rfl rfl ?_
      refine sLen T25 rfl ?_
      refine sG rfl rfl ?_
      refine sBin (b := 140) rfl rfl aInt_gtr ?_
      refine sP (v := .bool _) rfl ?_
      refine sNil (kSeqN ?_)
      refine cCond (p := 140 < l.length) rfl (fun c2 => ?_) (fun c2 => ?_)
      ·
        refine cSeq ?_
        refine cRegion ?_
        obtain ⟨v28, m28, h28, rfl, e28⟩ := spec_awake hGl
        refine sCall0 rfl call13 h28 ?_
        refine sAs (v := .bool _) rfl ?_
        refine sNil (kSeqN ?_)
        refine cRet (kSeqR ?_)
        exact ⟨.inr rfl, _, rfl, rfl, trivial⟩
      ·
        have hgs : gs.length < 1000000 := by omega
        refine cSkip (kSeqN ?_)
        refine cSeq ?_
        refine cRegion ?_
        refine sLdAll A24 S24 rfl gD rfl ?_
        obtain ⟨v30, m30, h_, w30, cs30, rfl, oO, e_⟩ := spec_Own hG hgl hgr
        obtain ⟨qO, cO, rfl⟩ := oO.1.len
        have rO := oO.rows
        refine sCall1 rfl call14 rfl h_ ?_
        clear h_
        have x_ : Ext m22 m30 := e_
        replace hG := hG.ext x_
        replace ha := ha.ext x_
        replace hb := hb.ext x_
        replace E := E.trans x_
        replace hGl := hGl.ext x_
        replace gD := x_.cells gD
        clear x_
        clear e_
        refine sMv (v := .slice _ _ _) rfl ?_
        obtain ⟨v32, m32, h_, oL, e_⟩ := spec_Clone ha (by omega)
        have iL := oL.ints
        obtain ⟨qL, cL, rfl⟩ := iL.len
        refine sCall1 rfl call15 rfl h_ ?_
        clear h_
        have x_ : Ext m30 m32 := e_
        replace hG := hG.ext x_
        replace ha := ha.ext x_
        replace hb := hb.ext x_
        replace E := E.trans x_
        replace hGl := hGl.ext x_
        replace gD := x_.cells gD
        replace rO := rO.ext x_
        clear x_
        clear e_
        refine sMv (v := .slice _ _ _) rfl ?_
        obtain ⟨v33, m33, h_, oM, e_⟩ := spec_Clone hb (by omega)
        have iM := oM.ints
        obtain ⟨qM, cM, rfl⟩ := iM.len
        refine sCall1 rfl call15 rfl h_ ?_
        clear h_
        have x_ : Ext m32 m33 := e_
        replace hG := hG.ext x_
        replace ha := ha.ext x_
        replace hb := hb.ext x_
        replace E := E.trans x_
        replace hGl := hGl.ext x_
        replace gD := x_.cells gD
        replace rO := rO.ext x_
        replace iL := iL.ext x_
        clear x_
        clear e_
        refine sAlloc Z24 (by kernel_rfl) ?_
        refine sStNA S24 rfl rfl rfl rfl (by kernel_rfl) ?_
        have x_ : Ext m33 (m33.push (.cells true #[.slice qO G.length cO])) := .push _ _
        replace hG := hG.ext x_
        replace ha := ha.ext x_
        replace hb := hb.ext x_
        replace E := E.trans x_
        replace hGl := hGl.ext x_
        replace gD := x_.cells gD
        replace rO := rO.ext x_
        replace iL := iL.ext x_
        replace iM := iM.ext x_
        clear x_
        have gO : Mem.get (m33.push (.cells true #[.slice qO G.length cO])) m33.size = .cells true #[.slice qO G.length cO] := gP rfl
        refine sAs (v := .slice _ _ _) rfl ?_
        refine sAs (v := .slice _ _ _) rfl ?_
        refine sNil (kSeqN ?_)
        refine cSeq ?_
        refine cRegion ?_
        refine sLdAll A24 S24 rfl gO rfl ?_
        refine sMv (v := .slice _ _ _) rfl ?_
        have hG_B := hG
        have ha_B := ha
        have hb_B := hb
        have E_B := E
        have hGl_B := hGl
        have gD_B := gD
        have rO_B := rO
        have iL_B := iL
        have iM_B := iM
        have gO_B := gO
        have X_B : Ext (m33.push (.cells true #[.slice qO G.length cO])) (m33.push (.cells true #[.slice qO G.length cO])) := .refl _
        obtain ⟨v45, m45, h_, w45, rfl, o45, e_⟩ := spec_Play rO iM
        obtain ⟨q45, c45, rfl⟩ := o45.ints.lenN
        refine sCall2 rfl call42 rfl rfl h_ ?_
        clear h_
        have x_ : Ext (m33.push (.cells true #[.slice qO G.length cO])) m45 := e_
        replace hG := hG.ext x_
        replace ha := ha.ext x_
        replace hb := hb.ext x_
        replace E := E.trans x_
        replace hGl := hGl.ext x_
        replace gD := x_.cells gD
        replace rO := rO.ext x_
        replace iL := iL.ext x_
        replace iM := iM.ext x_
        replace gO := x_.cells gO
        replace X_B := X_B.trans x_
        clear x_
        clear e_
        refine sMv (v := .tuple _) rfl ?_
        refine sP (v := .slice _ _ _) rfl ?_   -- extract ['t42', '0']
        refine sP (v := nv _) rfl ?_   -- extract ['t42', '1']
        refine sAs (v := .slice _ _ _) rfl ?_
        refine sAs (v := nv _) rfl ?_
        refine sNil (kSeqN ?_)
        refine cSeq ?_
        refine cRegion ?_
        refine sLdAll A24 S24 rfl gD rfl ?_
        refine sMv (v := .slice _ _ _) rfl ?_
        obtain ⟨v51, m51, h_, w51, rfl, o51, e_⟩ := spec_refPlay hG hb
        obtain ⟨q51, c51, rfl⟩ := o51.ints.lenN
        refine sCall2 rfl call43 rfl rfl h_ ?_
        clear h_
        have x_ : Ext m45 m51 := e_
        replace hG := hG.ext x_
        replace ha := ha.ext x_
        replace hb := hb.ext x_
        replace E := E.trans x_
        replace hGl := hGl.ext x_
        replace gD := x_.cells gD
        replace rO := rO.ext x_
        replace iL := iL.ext x_
        replace iM := iM.ext x_
        replace gO := x_.cells gO
        replace X_B := X_B.trans x_
        replace o45 := o45.ext x_
        clear x_
        clear e_
        refine sMv (v := .tuple _) rfl ?_
        refine sP (v := .slice _ _ _) rfl ?_   -- extract ['t48', '0']
        refine sP (v := nv _) rfl ?_   -- extract ['t48', '1']
        refine sAs (v := .slice _ _ _) rfl ?_
        refine sAs (v := nv _) rfl ?_
        refine sNil (kSeqN ?_)
        refine cSeq ?_
        refine cRegion ?_
        refine sLdAll A24 S24 rfl gO rfl ?_
        refine sMv (v := .slice _ _ _) rfl ?_
        obtain ⟨v57, m57, h_, rfl, e_⟩ := spec_Most rO iM
        refine sCall2 rfl call44 rfl rfl h_ ?_
        clear h_
        have x_ : Ext m51 m57 := e_
        replace hG := hG.ext x_
        replace ha := ha.ext x_
        replace hb := hb.ext x_
        replace E := E.trans x_
        replace hGl := hGl.ext x_
        replace gD := x_.cells gD
        replace rO := rO.ext x_
        replace iL := iL.ext x_
        replace iM := iM.ext x_
        replace gO := x_.cells gO
        replace X_B := X_B.trans x_
        replace o45 := o45.ext x_
        replace o51 := o51.ext x_
        clear x_
        clear e_
        refine sMv (v := .tuple _) rfl ?_
        refine sP (v := nv _) rfl ?_   -- extract ['t54', '0']
        refine sP (v := nv _) rfl ?_   -- extract ['t54', '1']
        refine sAs (v := nv _) rfl ?_
        refine sAs (v := nv _) rfl ?_
        refine sNil (kSeqN ?_)
        refine cSeq ?_
        refine cRegion ?_
        refine sLdAll A24 S24 rfl gD rfl ?_
        refine sMv (v := .slice _ _ _) rfl ?_
        obtain ⟨v63, m63, h_, rfl, e_⟩ := spec_refMost hG hb
        refine sCall2 rfl call45 rfl rfl h_ ?_
        clear h_
        have x_ : Ext m57 m63 := e_
        replace hG := hG.ext x_
        replace ha := ha.ext x_
        replace hb := hb.ext x_
        replace E := E.trans x_
        replace hGl := hGl.ext x_
        replace gD := x_.cells gD
        replace rO := rO.ext x_
        replace iL := iL.ext x_
        replace iM := iM.ext x_
        replace gO := x_.cells gO
        replace X_B := X_B.trans x_
        replace o45 := o45.ext x_
        replace o51 := o51.ext x_
        clear x_
        clear e_
        refine sMv (v := .tuple _) rfl ?_
        refine sP (v := nv _) rfl ?_   -- extract ['t60', '0']
        refine sP (v := nv _) rfl ?_   -- extract ['t60', '1']
        refine sAs (v := nv _) rfl ?_
        refine sAs (v := nv _) rfl ?_
        refine sNil (kSeqN ?_)
        refine cSeq ?_   -- seq 11
        refine cSeq ?_
        refine cRegion ?_
        refine sMv (v := .slice _ _ _) rfl ?_
        refine sMv (v := .slice _ _ _) rfl ?_
        have h68 := spec_Equal o45.ints o51.ints (by rw [ofs_length]; exact Nat.lt_of_le_of_lt (ls_play _ _) (by decide))
        rw [decide_eq_true rfl] at h68
        refine sCall2 rfl call22 rfl rfl h68 ?_
        refine sP (v := .bool false) rfl ?_
        refine sMv (v := .bool _) rfl ?_
        refine sG rfl rfl ?_
        refine sMv (v := nv _) rfl ?_
        refine sG rfl rfl ?_
        refine sMv (v := nv _) rfl ?_
        refine sG rfl rfl ?_
        refine sBin (v := .bool false) rfl rfl (neqF rfl) ?_
        refine sP (v := .bool false) rfl ?_
        refine sMv (v := .bool _) rfl ?_
        refine sG rfl rfl ?_
        refine sMv (v := nv _) rfl ?_
        refine sG rfl rfl ?_
        refine sMv (v := nv _) rfl ?_
        refine sG rfl rfl ?_
        refine sBin (v := .bool false) rfl rfl (neqF rfl) ?_
        refine sP (v := .bool false) rfl ?_
        refine sMv (v := .bool _) rfl ?_
        refine sG rfl rfl ?_
        refine sMv (v := nv _) rfl ?_
        refine sG rfl rfl ?_
        refine sMv (v := nv _) rfl ?_
        refine sG rfl rfl ?_
        refine sBin (v := .bool false) rfl rfl (neqF rfl) ?_
        refine sP (v := .bool false) rfl ?_
        refine sNil (kSeqN ?_)
        refine cCondF rfl ?_
        refine cSkip (kSeqN ?_)
        refine cSeq ?_
        refine cRegion ?_
        refine sLdAll A24 S24 rfl gO rfl ?_
        refine sMv (v := .slice _ _ _) rfl ?_
        refine sMv (v := .slice _ _ _) rfl ?_
        obtain ⟨v89, m89, h_, rfl, e_⟩ := spec_Reaches rO iL hgs iM
        refine sCall3 rfl call46 rfl rfl rfl h_ ?_
        clear h_
        have x_ : Ext m63 m89 := e_
        replace hG := hG.ext x_
        replace ha := ha.ext x_
        replace hb := hb.ext x_
        replace E := E.trans x_
        replace hGl := hGl.ext x_
        replace gD := x_.cells gD
        replace rO := rO.ext x_
        replace iL := iL.ext x_
        replace iM := iM.ext x_
        replace gO := x_.cells gO
        replace X_B := X_B.trans x_
        replace o45 := o45.ext x_
        replace o51 := o51.ext x_
        clear x_
        clear e_
        refine sMv (v := .tuple _) rfl ?_
        refine sP (v := .bool _) rfl ?_   -- extract ['t85', '0']
        refine sP (v := nv _) rfl ?_   -- extract ['t85', '1']
        refine sAs (v := .bool _) rfl ?_
        refine sAs (v := nv _) rfl ?_
        refine sNil (kSeqN ?_)
        refine cSeq ?_
        refine cRegion ?_
        refine sLdAll A24 S24 rfl gD rfl ?_
        refine sMv (v := .slice _ _ _) rfl ?_
        refine sMv (v := .slice _ _ _) rfl ?_
        obtain ⟨v96, m96, h_, rfl, e_⟩ := spec_refReaches hG ha hgs hb
        refine sCall3 rfl call47 rfl rfl rfl h_ ?_
        clear h_
        have x_ : Ext m89 m96 := e_
        replace hG := hG.ext x_
        replace ha := ha.ext x_
        replace hb := hb.ext x_
        replace E := E.trans x_
        replace hGl := hGl.ext x_
        replace gD := x_.cells gD
        replace rO := rO.ext x_
        replace iL := iL.ext x_
        replace iM := iM.ext x_
        replace gO := x_.cells gO
        replace X_B := X_B.trans x_
        replace o45 := o45.ext x_
        replace o51 := o51.ext x_
        clear x_
        clear e_
        refine sMv (v := .tuple _) rfl ?_
        refine sP (v := .bool _) rfl ?_   -- extract ['t92', '0']
        refine sP (v := nv _) rfl ?_   -- extract ['t92', '1']
        refine sAs (v := .bool _) rfl ?_
        refine sAs (v := nv _) rfl ?_
        refine sNil (kSeqN ?_)
        refine cSeq ?_
        refine cRegion ?_
        refine sLdAll A24 S24 rfl gO rfl ?_
        refine sMv (v := .slice _ _ _) rfl ?_
        have zC := X_B.1
        have o45C := o45
        have X_C : Ext m96 m96 := .refl _
        obtain ⟨v102, m102, h_, w102, cs102, rfl, o102, e_⟩ := spec_Circuit rO iM
        obtain ⟨q102, c102, rfl⟩ := o102.1.len
        refine sCall2 rfl call48 rfl rfl h_ ?_
        clear h_
        have x_ : Ext m96 m102 := e_
        replace hG := hG.ext x_
        replace ha := ha.ext x_
        replace hb := hb.ext x_
        replace E := E.trans x_
        replace hGl := hGl.ext x_
        replace gD := x_.cells gD
        replace rO := rO.ext x_
        replace iL := iL.ext x_
        replace iM := iM.ext x_
        replace gO := x_.cells gO
        replace X_B := X_B.trans x_
        replace o45 := o45.ext x_
        replace o51 := o51.ext x_
        replace X_C := X_C.trans x_
        clear x_
        clear e_
        refine sMv (v := .tuple _) rfl ?_
        refine sP (v := .agg _) rfl ?_   -- extract ['t99', '0']
        refine sP (v := nv _) rfl ?_   -- extract ['t99', '1']
        refine sAlloc Z57 (by kernel_rfl) ?_
        refine sStNA S57 rfl rfl rfl rfl (by kernel_rfl) ?_
        have x_ : Ext m102 (m102.push (.cells true #[nv (ifOk (gPlayE G l) G.length 0), nv 0, .slice q102 (ifOk (gPlayE G l) (circG G l) []).length c102])) := .push _ _
        replace hG := hG.ext x_
        replace ha := ha.ext x_
        replace hb := hb.ext x_
        replace E := E.trans x_
        replace hGl := hGl.ext x_
        replace gD := x_.cells gD
        replace rO := rO.ext x_
        replace iL := iL.ext x_
        replace iM := iM.ext x_
        replace gO := x_.cells gO
        replace X_B := X_B.trans x_
        replace o45 := o45.ext x_
        replace o51 := o51.ext x_
        replace X_C := X_C.trans x_
        replace o102 := o102.ext x_
        clear x_
        have gC : Mem.get (m102.push (.cells true #[nv (ifOk (gPlayE G l) G.length 0), nv 0, .slice q102 (ifOk (gPlayE G l) (circG G l) []).length c102])) m102.size = .cells true #[nv (ifOk (gPlayE G l) G.length 0), nv 0, .slice q102 (ifOk (gPlayE G l) (circG G l) []).length c102] := gP rfl
        refine sAs (v := nv _) rfl ?_
        refine sNil (kSeqN ?_)
        refine cSeq ?_
        refine cRegion ?_
        refine sLdAll A24 S24 rfl gD rfl ?_
        refine sMv (v := .slice _ _ _) rfl ?_
        obtain ⟨v108, m108, h_, w108, cs108, rfl, o108, e_⟩ := spec_refCircuit hG hb
        obtain ⟨q108, c108, rfl⟩ := o108.1.len
        refine sCall2 rfl call49 rfl rfl h_ ?_
        clear h_
        have x_ : Ext (m102.push (.cells true #[nv (ifOk (gPlayE G l) G.length 0), nv 0, .slice q102 (ifOk (gPlayE G l) (circG G l) []).length c102])) m108 := e_
        replace hG := hG.ext x_
        replace ha := ha.ext x_
        replace hb := hb.ext x_
        replace E := E.trans x_
        replace hGl := hGl.ext x_
        replace gD := x_.cells gD
        replace rO := rO.ext x_
        replace iL := iL.ext x_
        replace iM := iM.ext x_
        replace gO := x_.cells gO
        replace X_B := X_B.trans x_
        replace o45 := o45.ext x_
        replace o51 := o51.ext x_
        replace X_C := X_C.trans x_
        replace o102 := o102.ext x_
        replace gC := x_.cells gC
        clear x_
        clear e_
        refine sMv (v := .tuple _) rfl ?_
        refine sP (v := .agg _) rfl ?_   -- extract ['t105', '0']
        refine sP (v := nv _) rfl ?_   -- extract ['t105', '1']
        refine sAlloc Z57 (by kernel_rfl) ?_
        refine sStNA S57 rfl rfl rfl rfl (by kernel_rfl) ?_
        have x_ : Ext m108 (m108.push (.cells true #[nv (ifOk (gPlayE G l) G.length 0), nv 0, .slice q108 (ifOk (gPlayE G l) (circG G l) []).length c108])) := .push _ _
        replace hG := hG.ext x_
        replace ha := ha.ext x_
        replace hb := hb.ext x_
        replace E := E.trans x_
        replace hGl := hGl.ext x_
        replace gD := x_.cells gD
        replace rO := rO.ext x_
        replace iL := iL.ext x_
        replace iM := iM.ext x_
        replace gO := x_.cells gO
        replace X_B := X_B.trans x_
        replace o45 := o45.ext x_
        replace o51 := o51.ext x_
        replace X_C := X_C.trans x_
        replace o102 := o102.ext x_
        replace gC := x_.cells gC
        replace o108 := o108.ext x_
        clear x_
        have gK : Mem.get (m108.push (.cells true #[nv (ifOk (gPlayE G l) G.length 0), nv 0, .slice q108 (ifOk (gPlayE G l) (circG G l) []).length c108])) m108.size = .cells true #[nv (ifOk (gPlayE G l) G.length 0), nv 0, .slice q108 (ifOk (gPlayE G l) (circG G l) []).length c108] := gP rfl
        refine sAs (v := nv _) rfl ?_
        refine sNil (kSeqN ?_)
        refine cSeq ?_
        refine cRegion ?_
        refine sMv (v := .bool _) rfl ?_
        refine sMv (v := .bool _) rfl ?_
        refine sEqB rfl rfl ?_
        rw [beq_self_eq_true]
        refine sMv (v := .bool _) rfl ?_
        refine sG rfl rfl ?_
        refine sMv (v := nv _) rfl ?_
        refine sG rfl rfl ?_
        refine sMv (v := nv _) rfl ?_
        refine sG rfl rfl ?_
        refine sBin (v := .bool true) rfl rfl (eqlT rfl) ?_
        refine sP (v := .bool true) rfl ?_
        refine sMv (v := .bool _) rfl ?_
        refine sG rfl rfl ?_
        refine sLdAll A57 S57 rfl gC rfl ?_
        refine sG rfl rfl ?_
        refine sLdAll A57 S57 rfl gK rfl ?_
        refine sG rfl rfl ?_
        obtain ⟨m122, h_, e_⟩ := ls_sameC o102.gates o108.gates (ls_circ G l (by omega))
        refine sCall2 rfl call50 rfl rfl h_ ?_
        clear h_
        have x_ : Ext (m108.push (.cells true #[nv (ifOk (gPlayE G l) G.length 0), nv 0, .slice q108 (ifOk (gPlayE G l) (circG G l) []).length c108])) m122 := e_
        replace hG := hG.ext x_
        replace ha := ha.ext x_
        replace hb := hb.ext x_
        replace E := E.trans x_
        replace hGl := hGl.ext x_
        replace gD := x_.cells gD
        replace rO := rO.ext x_
        replace iL := iL.ext x_
        replace iM := iM.ext x_
        replace gO := x_.cells gO
        replace X_B := X_B.trans x_
        replace o45 := o45.ext x_
        replace o51 := o51.ext x_
        replace X_C := X_C.trans x_
        replace o102 := o102.ext x_
        replace gC := x_.cells gC
        replace o108 := o108.ext x_
        replace gK := x_.cells gK
        clear x_
        clear e_
        refine sP (v := .bool true) rfl ?_
        refine sMv (v := .bool _) rfl ?_
        refine sG rfl rfl ?_
        refine sMv (v := nv _) rfl ?_
        refine sG rfl rfl ?_
        refine sMv (v := nv _) rfl ?_
        refine sG rfl rfl ?_
        refine sBin (v := .bool true) rfl rfl (eqlT rfl) ?_
        refine sP (v := .bool true) rfl ?_
        refine sAs (v := .bool _) rfl ?_
        refine sNil (kSeqN ?_)
        refine cSeq ?_
        refine cRegion ?_
        refine sLdAll A57 S57 rfl gC rfl ?_
        obtain ⟨w130, m130, h130, l130⟩ := spec_Spoil o102 X_C.1 (ls_circL G l (by omega))
        refine sCall1 rfl call51 rfl h130 ?_
        have o45' := o45C.at_most (Nat.le_refl _) (fun c h1 h2 => (l130.2 c h2).trans (X_C.2 c h2))
        have e_B : Ext (m33.push (.cells true #[.slice qO G.length cO])) m130 := Low.to_ext X_B (l130.le zC) (Nat.le_refl _)
        replace X_B := e_B
        clear e_B
        replace hG := hG_B.ext X_B
        replace ha := ha_B.ext X_B
        replace hb := hb_B.ext X_B
        replace E := E_B.trans X_B
        replace hGl := hGl_B.ext X_B
        replace gD := X_B.cells gD_B
        replace rO := rO_B.ext X_B
        replace iL := iL_B.ext X_B
        replace iM := iM_B.ext X_B
        replace gO := X_B.cells gO_B
        refine sNil (kSeqN ?_)
        refine cSeq ?_
        refine cRegion ?_
        refine sMv (v := .slice _ _ _) rfl ?_
        refine sClrW T25 Z3 rfl rfl rfl rfl (o45'.wr (M := m130.size) fun b hb => (o45'.lt hb).2) fun m9 l9 k9 => ?_
        have e_B : Ext (m33.push (.cells true #[.slice qO G.length cO])) m9 := Low.to_ext X_B (l9.low) (Nat.le_refl _)
        replace X_B := e_B
        clear e_B
        replace hG := hG_B.ext X_B
        replace ha := ha_B.ext X_B
        replace hb := hb_B.ext X_B
        replace E := E_B.trans X_B
        replace hGl := hGl_B.ext X_B
        replace gD := X_B.cells gD_B
        replace rO := rO_B.ext X_B
        replace iL := iL_B.ext X_B
        replace iM := iM_B.ext X_B
        replace gO := X_B.cells gO_B
        refine sNil (kSeqN ?_)
        refine cSeq ?_
        refine cRegion ?_
        refine sMv (v := .bool _) rfl ?_
        refine sMv (v := .bool _) rfl ?_
        refine sG rfl rfl ?_
        refine sLdAll A24 S24 rfl gO rfl ?_
        refine sG rfl rfl ?_
        refine sLdAll A24 S24 rfl gD rfl ?_
        refine sG rfl rfl ?_
        obtain ⟨m136, h_, e_⟩ := ls_same rO hG hgl hgr
        refine sCall2 rfl call24 rfl rfl h_ ?_
        clear h_
        have x_ : Ext m9 m136 := e_
        replace hG := hG.ext x_
        replace ha := ha.ext x_
        replace hb := hb.ext x_
        replace E := E.trans x_
        replace hGl := hGl.ext x_
        replace gD := x_.cells gD
        replace rO := rO.ext x_
        replace iL := iL.ext x_
        replace iM := iM.ext x_
        replace gO := x_.cells gO
        replace X_B := X_B.trans x_
        clear x_
        clear e_
        refine sP (v := .bool true) rfl ?_
        refine sMv (v := .bool _) rfl ?_
        refine sG rfl rfl ?_
        refine sMv (v := .slice _ _ _) rfl ?_
        refine sG rfl rfl ?_
        refine sMv (v := .slice _ _ _) rfl ?_
        refine sG rfl rfl ?_
        have h141 := spec_Equal iL ha (by omega)
        rw [decide_eq_true rfl] at h141
        refine sCall2 rfl call22 rfl rfl h141 ?_
        refine sP (v := .bool true) rfl ?_
        refine sMv (v := .bool _) rfl ?_
        refine sG rfl rfl ?_
        refine sMv (v := .slice _ _ _) rfl ?_
        refine sG rfl rfl ?_
        refine sMv (v := .slice _ _ _) rfl ?_
        refine sG rfl rfl ?_
        have h146 := spec_Equal iM hb (by omega)
        rw [decide_eq_true rfl] at h146
        refine sCall2 rfl call22 rfl rfl h146 ?_
        refine sP (v := .bool true) rfl ?_
        refine sMv (v := .bool _) rfl ?_
        refine sG rfl rfl ?_
        obtain ⟨v149, m149, h149, rfl, e149⟩ := spec_awake hGl
        refine sCall0 rfl call13 h149 ?_
        refine sP (v := .bool true) rfl ?_
        refine sAs (v := .bool _) rfl ?_
        refine sNil (kSeqN ?_)
        refine cRet ?_
        exact ⟨.inr rfl, _, rfl, rfl, trivial⟩

end Go.AM

/-! ### F20 -/
namespace Go.AM
open Go.Proofs Go.Proofs.YthfhbddnkgfhaaaDoor Go.ChangeShapes
set_option maxRecDepth 100000
set_option linter.unusedVariables false

theorem gAsk : Tryd.prog.globalNamed "spoondrift/pebble.asks" = some 0 := by kernel_rfl
theorem tAsk : (Tryd.prog.globals[0]?).map (·.type) = some 96 := by kernel_rfl
theorem gSize : Tryd.prog.globals.size = 1 := by kernel_rfl
theorem u4 : Tryd.prog.underlying 4 = some .bool := by kernel_rfl
theorem u5 : Tryd.prog.underlying 5 = some (.int .u8) := by kernel_rfl
theorem u94 : Tryd.prog.underlying 94 = some (.func #[79, 3, 3, 25, 93] #[4] false) := by kernel_rfl
theorem u95 : Tryd.prog.underlying 95 = some (.struct #[{ name := "so", type := 94, offset := 0, embedded := false, tag := "", pkgPath := "spoondrift/pebble", byteOffset := 0 }]) := by kernel_rfl
theorem u96 : Tryd.prog.underlying 96 = some (.array 3 95) := by kernel_rfl

theorem var_block {P : Program} {w : World} {n : String} {g : Nat} {cs : Array Value} (hg : P.globalNamed n = some g) (h : w.var? P n = some cs) : ∃ t fz, w.heap[g]? = some (.cells cs t fz) := by
  simp only [World.var?, hg, Option.bind_some] at h
  split at h
  · rename_i c t fz e
    injection h with h; subst h
    exact ⟨t, fz, e⟩
  · cases h

def tokA : Nat → List UInt8
  | 0 => [115, 112, 111, 111, 110, 100, 114, 105, 102, 116, 47, 112, 101, 98, 98, 108, 101, 46, 97, 115, 107, 115, 36, 49]
  | 1 => [115, 112, 111, 111, 110, 100, 114, 105, 102, 116, 47, 112, 101, 98, 98, 108, 101, 46, 97, 115, 107, 115, 36, 50]
  | _ => [115, 112, 111, 111, 110, 100, 114, 105, 102, 116, 47, 112, 101, 98, 98, 108, 101, 46, 97, 115, 107, 115, 36, 51]
theorem one140 : ((List.range Tryd.prog.funcs.size).filter fun f => (Tryd.prog.funcs[f]?).any (·.name.toUTF8.data.toList == tokA 0)) = [140] := by kernel_rfl
theorem one143 : ((List.range Tryd.prog.funcs.size).filter fun f => (Tryd.prog.funcs[f]?).any (·.name.toUTF8.data.toList == tokA 1)) = [143] := by kernel_rfl
theorem one144 : ((List.range Tryd.prog.funcs.size).filter fun f => (Tryd.prog.funcs[f]?).any (·.name.toUTF8.data.toList == tokA 2)) = [144] := by kernel_rfl
theorem hc95 : Tryd.prog.cellsOf 95 = 1 := by kernel_rfl
theorem hc94 : Tryd.prog.cellsOf 94 = 1 := by kernel_rfl
/-- One entry of the table of what is asked. -/
theorem entry_ask {w : World} {n q : Nat} (hq : q < 3) {cs : List Value} {y : DataW (List UInt8) × List MemPlace}
    (h : DataW.trod (funcToken Tryd.prog) Tryd.prog w 0 (fun _ => true) true n 95 cs = some y) (hy : y.1 = .agg [.held (tokA q)]) : cs = [.func (.func (askF q)) #[] #[]] := by
  obtain ⟨xs, m, rfl, hx, hl, hn, hel⟩ := DataW.trod_struct u95 h
  have h0 := hel 0 _ rfl
  rw [hx] at hy
  simp only [DataW.agg.injEq] at hy
  rw [hc95] at hl
  match cs, hl with
  | [a], _ =>
    match xs, hn, hy, h0 with
    | [e0], _, hy, h0 =>
      simp only [List.map_cons, List.map_nil, List.cons.injEq, and_true] at hy
      simp only [hc94, List.drop_zero, List.take_one, List.getElem?_cons_zero] at h0
      have h1 : DataW.trod (funcToken Tryd.prog) Tryd.prog w 0 (fun _ => true) true m 94 [a] = some (.held (tokA q), e0.2) := by
        rw [← hy]; simpa [hc94] using h0
      have : q = 0 ∨ q = 1 ∨ q = 2 := by omega
      rcases this with rfl | rfl | rfl
      · rw [func_of_trod (f0 := 140) u94 one140 h1]; rfl
      · rw [func_of_trod (f0 := 143) u94 one143 h1]; rfl
      · rw [func_of_trod (f0 := 144) u94 one144 h1]; rfl
def askD : DataW Unit := .agg [.agg [.iface "func" (.lit (.string (tokA 0)))], .agg [.iface "func" (.lit (.string (tokA 1)))], .agg [.iface "func" (.lit (.string (tokA 2)))]]
/-- What the table of what is asked holds. -/
theorem open_asks {w : World} (h : funcsAt Tryd.prog w "spoondrift/pebble.asks" askD) :
    ∃ c t fz, w.heap[0]? = some (.cells c t fz) ∧ ∀ q, q < 3 → c[q]? = some (.func (.func (askF q)) #[] #[]) := by
  obtain ⟨g, t, cs, fuel, p, hg, ht, hc, hd⟩ := h
  obtain rfl := Option.some.inj (gAsk.symm.trans hg)
  obtain rfl := Option.some.inj (tAsk.symm.trans ht)
  obtain ⟨ty, fz, hb0⟩ := var_block hg hc
  have hout : askD.funcsOut = .agg [.agg [.held (tokA 0)], .agg [.held (tokA 1)], .agg [.held (tokA 2)]] := by rfl
  rw [hout] at hd
  obtain ⟨xs, m, rfl, hx, hl, hn, hel⟩ := DataW.trod_array u96 hd
  match xs, hn with
  | [e0, e1, e2], _ =>
    simp only [Prod.mk.injEq, DataW.agg.injEq, List.map_cons, List.map_nil, List.cons.injEq, and_true] at hx
    obtain ⟨⟨x0, x1, x2⟩, _⟩ := hx
    have key : ∀ (q : Nat) (e : DataW (List UInt8) × List MemPlace), q < 3 → [e0, e1, e2][q]? = some e → e.1 = .agg [.held (tokA q)] → cs[q]? = some (.func (.func (askF q)) #[] #[]) := by
      intro q e hq he h1
      have h2 := hel q hq
      rw [he, hc95, Nat.mul_one] at h2
      have h3 := entry_ask hq h2 h1
      have := congrArg (·[0]?) h3
      simpa [List.getElem?_take, List.getElem?_drop] using this
    refine ⟨cs, ty, fz, hb0, fun q hq => ?_⟩
    have : q = 0 ∨ q = 1 ∨ q = 2 := by omega
    rcases this with rfl | rfl | rfl
    · exact key 0 e0 (by omega) rfl x0.symm
    · exact key 1 e1 (by omega) rfl x1.symm
    · exact key 2 e2 (by omega) rfl x2.symm
def laid1 : List (String × DataW Unit) := [("spoondrift/pebble.asks", Rows.laid_spoondrift_pebble_asks)]
theorem ask_data : (Rows.laid_spoondrift_pebble_asks : DataW Unit) = .iface "func table" askD := by rfl
theorem of_laid {w : World} (h : laidMetH Tryd.prog laid1 w) : ∃ c t fz, w.heap[0]? = some (.cells c t fz) ∧ ∀ q, q < 3 → c[q]? = some (.func (.func (askF q)) #[] #[]) :=
  open_asks (h.funcs (n := "spoondrift/pebble.asks") (by rw [← ask_data]; simp [laid1]))
end Go.AM

/-! ### F21 -/
namespace Go.AM
open Go.Proofs Go.Proofs.YthfhbddnkgfhaaaDoor Go.RowKit
set_option maxRecDepth 100000
set_option linter.unusedVariables false

/-- An argument's block: where it lies, and its abstract cells (each stands for the machine's cell at the same place). -/
structure Arg0 where
  blk : Nat
  off : Nat
  cap : Nat
  cs : Array Value
def arg0 : Arg0 := ⟨0, 0, 0, #[]⟩
def askCs : Array Value := #[.func (.func 140) #[] #[], .func (.func 143) #[] #[], .func (.func 144) #[] #[]]
def mem0 (A : List Arg0) : Mem := (AObj.cells false askCs :: A.map fun a => AObj.cells false a.cs).toArray
def beta0 (A : List Arg0) : Beta where
  blk i := if i < 1 then i else (A.getD (i - 1) arg0).blk
  sh i := if i < 1 then 0 else (A.getD (i - 1) arg0).off
  cap i := if i < 1 then 1000000 else (A.getD (i - 1) arg0).off + max (A.getD (i - 1) arg0).cs.size (A.getD (i - 1) arg0).cap
/-- What is known of an argument's cells, all arguments' places being known. -/
def Arg0.ok (W : World) (A : List Arg0) (a : Arg0) : Prop := ∃ c t fz, W.heap[a.blk]? = some (.cells c t fz) ∧ ∀ (i : Nat) v, a.cs[i]? = some v → ∃ v', c[a.off + i]? = some v' ∧ VRel (beta0 A) (1 + A.length) v v'
theorem mem0_size (A : List Arg0) : (mem0 A).size = 1 + A.length := by simp [mem0]; omega
theorem mem0_get (A : List Arg0) (i : Nat) : Mem.get (mem0 A) i = if i = 0 then .cells false askCs else if h : i - 1 < A.length then .cells false (A[i - 1]).cs else .dead := by
  unfold Mem.get mem0
  rw [Array.getD_eq_getD_getElem?, List.getElem?_toArray]
  match i with
  | 0 => rfl
  | i + 1 =>
    rw [if_neg (by omega)]
    simp only [List.getElem?_cons_succ, Nat.add_sub_cancel, List.getElem?_map]
    by_cases h : i < A.length
    · rw [dif_pos h, List.getElem?_eq_getElem h]; rfl
    · rw [dif_neg h, List.getElem?_eq_none (by omega)]; rfl
theorem glob0 (A : List Arg0) : GlobP (mem0 A) := ⟨false, by rw [mem0_get]; rfl⟩
theorem rel0 {W : World} (hL : laidMetH Tryd.prog laid1 W) {A : List Arg0} (hA : ∀ a ∈ A, a.ok W A) : Rel Tryd.prog (beta0 A) (mem0 A) W := by
  obtain ⟨c, t, fz, h0, hc0⟩ := of_laid hL
  refine ⟨by rw [mem0_size, gSize]; omega, fun g hg => ?_, fun i hi => ?_, fun i j _ hr _ => ?_⟩
  · rw [gSize] at hg
    exact ⟨if_pos hg, if_pos hg⟩
  · rw [mem0_get] at hi ⊢
    by_cases e0 : i = 0
    · subst e0
      rw [if_pos rfl] at hi ⊢
      refine ⟨_, h0, c, t, fz, rfl, by simp [beta0, askCs], fun j v hj => ?_, fun h => by cases h⟩
      have hf : ∀ q, VRel (beta0 A) (mem0 A).size (.func (.func q) #[] #[]) (.func (.func q) #[] #[]) := fun q => .func _ _ _ _ _ rfl (fun i v v' h => by simp at h) rfl (fun i v v' h => by simp at h)
      match j with
      | 0 => simp [askCs] at hj; subst hj; exact ⟨_, by simpa [beta0, askF] using hc0 0 (by omega), hf _⟩
      | 1 => simp [askCs] at hj; subst hj; exact ⟨_, by simpa [beta0, askF] using hc0 1 (by omega), hf _⟩
      | 2 => simp [askCs] at hj; subst hj; exact ⟨_, by simpa [beta0, askF] using hc0 2 (by omega), hf _⟩
      | j + 3 => simp [askCs] at hj
    rw [if_neg e0] at hi ⊢
    by_cases e4 : i - 1 < A.length
    · rw [dif_pos e4] at hi ⊢
      obtain ⟨c, t, fz, g1, g2⟩ := hA _ (List.getElem_mem e4)
      have hb : (beta0 A).blk i = (A[i - 1]).blk := by
        simp only [beta0]; rw [if_neg (by omega), List.getD_eq_getElem?_getD, List.getElem?_eq_getElem e4]; rfl
      have hsh : (beta0 A).sh i = (A[i - 1]).off := by
        simp only [beta0]; rw [if_neg (by omega), List.getD_eq_getElem?_getD, List.getElem?_eq_getElem e4]; rfl
      have hcp : (beta0 A).cap i = (A[i - 1]).off + max (A[i - 1]).cs.size (A[i - 1]).cap := by
        simp only [beta0]; rw [if_neg (by omega), List.getD_eq_getElem?_getD, List.getElem?_eq_getElem e4]; rfl
      refine ⟨_, by rw [hb]; exact g1, c, t, fz, rfl, by rw [hsh, hcp]; omega, fun j v hj => ?_, fun h => by cases h⟩
      obtain ⟨v', q1, q2⟩ := g2 j v hj
      exact ⟨v', by rw [hsh]; exact q1, by rw [mem0_size]; exact q2⟩
    · rw [dif_neg e4] at hi; cases hi
  · rw [mem0_get] at hr
    repeat' split at hr
    all_goals cases hr
theorem arel_nil {β : Beta} {N : Nat} : ARel β N #[] #[] := ⟨rfl, fun i v v' h => by simp at h⟩
theorem arel_cons {β : Beta} {N : Nat} {v v' : Value} {l l' : List Value} (hv : VRel β N v v') (h : ARel β N l.toArray l'.toArray) : ARel β N (v :: l).toArray (v' :: l').toArray := by
  refine ⟨by have := h.1; simp at this ⊢; exact this, fun i x x' h1 h2 => ?_⟩
  cases i with
  | zero => simp at h1 h2; subst h1 h2; exact hv
  | succ i => exact h.2 i x x' (by simpa using h1) (by simpa using h2)
/-- From the abstract call to the machine's. -/
theorem entry {f : FuncId} {args args' : Array Value} {W : World} {A : List Arg0} (hL : laidMetH Tryd.prog laid1 W) (hA : ∀ a ∈ A, a.ok W A)
    (hargs : ARel (beta0 A) (1 + A.length) args args') (hc : ∃ v m', ACalls Tryd.prog f args (mem0 A) v m' ∧ v = .bool true) :
    Calls Tryd.prog f args' W fun e W' => e = .returned (.bool true) ∧ Below W.heap.size W W' := by
  have hR := rel0 hL hA
  obtain ⟨v, m', hcall, rfl⟩ := hc
  refine (hcall.2 _ W args' hR (by rw [mem0_size]; exact hargs)).mono ?_
  rintro e W' ⟨v', rfl, β', hv, _, hS⟩
  cases hv
  refine ⟨rfl, hS.os, hS.tape, hS.output, hS.wsz, fun k hk => hS.keep k hk fun i hi => ?_⟩
  rw [mem0_get] at hi
  repeat' split at hi
  all_goals cases hi
end Go.AM

/-! ### F22 -/
namespace Go.AM
open Go Go.Proofs Go.Proofs.YthfhbddnkgfhaaaDoor Go.RowKit Go.ChangeShapes Go.WideShapes
set_option maxRecDepth 100000
set_option linter.unusedVariables false

/-- A slice of whole numbers of a kind, readable. -/
def KAt (k : IntKind) (m : Mem) (v : Value) (l : List Int) : Prop :=
  (l = [] ∧ (v = .slice none 0 0 ∨ ∃ b o, v = .slice (some ⟨b, o, none⟩) 0 0)) ∨
  ∃ b o cap r c, v = .slice (some ⟨b, o, some 1⟩) l.length cap ∧ l.length ≤ cap ∧ Mem.get m b = .cells r c ∧ ∀ i x, l[i]? = some x → c[o + i]? = some (.int k x)
theorem KAt.ints {m : Mem} {v : Value} {l : List Int} (h : KAt .i64 m v l) : IntsAt m v l := by
  rcases h with h | ⟨b, o, cap, r, c, h1, _, h2, h3⟩
  · exact .inl h
  · exact .inr ⟨b, o, cap, r, c, h1, h2, h3⟩
theorem KAt.bytes {m : Mem} {v : Value} {l : List Int} (h : KAt .u8 m v l) : BytesAt m v l := h
theorem cell_heap {W : World} {a : Addr} {v : Value} (h : W.cell? a = some v) : a.spot = none ∧ ∃ c t fz, W.heap[a.block]? = some (.cells c t fz) ∧ c[a.off]? = some v := by
  unfold World.cell? at h
  split at h
  · rename_i c t fz e
    split at h
    · cases h
    · rename_i hs
      exact ⟨by simpa using hs, c, t, fz, e, h⟩
  · cases h
theorem add_block (a : Addr) (n : Nat) : (a.add n).block = a.block := by unfold Addr.add; split <;> rfl
theorem add0 (a : Addr) : a.add 0 = a := if_pos rfl
theorem add_off {a : Addr} {n : Nat} (h : a.spot = none) : (a.add n).off = a.off + n := by
  unfold Addr.add
  split <;> simp_all
theorem mem0_arg {A : List Arg0} {i : Nat} {a : Arg0} (h : A[i]? = some a) : Mem.get (mem0 A) (1 + i) = .cells false a.cs := by
  obtain ⟨hi, e⟩ := List.getElem?_eq_some_iff.1 h
  rw [mem0_get, if_neg (by omega), dif_pos (by omega)]
  simp only [Nat.add_sub_cancel_left, e]
theorem beta0_arg {A : List Arg0} {i : Nat} {a : Arg0} (h : A[i]? = some a) : (beta0 A).blk (1 + i) = a.blk ∧ (beta0 A).sh (1 + i) = a.off ∧ (beta0 A).cap (1 + i) = a.off + max a.cs.size a.cap := by
  have e : A.getD (1 + i - 1) arg0 = a := by rw [Nat.add_sub_cancel_left, List.getD_eq_getElem?_getD, h]; rfl
  refine ⟨?_, ?_, ?_⟩
  · simp only [beta0]; rw [if_neg (by omega), e]
  · simp only [beta0]; rw [if_neg (by omega), e]
  · simp only [beta0]; rw [if_neg (by omega), e]
/-- The blocks of an argument lie from a place on. -/
def PartAt (A : List Arg0) (pos : Nat) (B : List Arg0) : Prop := ∀ (j : Nat) a, B[j]? = some a → A[pos + j]? = some a
theorem part_self {B : List Arg0} : PartAt B 0 B := fun j a h => by rwa [Nat.zero_add]
theorem part_left {X Y B : List Arg0} {pos : Nat} (h : PartAt X pos B) : PartAt (X ++ Y) pos B := fun j a hj => by
  have := h j a hj
  rw [List.getElem?_append_left (List.getElem?_eq_some_iff.1 this).1]; exact this
theorem part_right {X Y : List Arg0} {pos : Nat} (h : X.length = pos) : PartAt (X ++ Y) pos Y := fun j a hj => by
  subst h
  rw [List.getElem?_append_right (by omega), Nat.add_sub_cancel_left]; exact hj
/-- A slice of whole numbers that is read: its block, what it holds, its abstract value by the place of its block. -/
structure RowP (W : World) (k : IntKind) (s : Value) where
  a : Arg0
  l : List Int
  f : Nat → Value
  ok : ∀ A : List Arg0, a.ok W A
  wf : ∀ n ∈ l, (Lit.int k n).wf = true
  rel : ∀ (A : List Arg0) (i : Nat), A[i]? = some a → KAt k (mem0 A) (f i) l ∧ VRel (beta0 A) (1 + A.length) (f i) s
theorem ok0 {W : World} (hL : laidMetH Tryd.prog laid1 W) (A : List Arg0) : Arg0.ok W A ⟨0, 0, 0, #[]⟩ := by
  obtain ⟨c0, t0, fz0, h0, _⟩ := of_laid hL
  exact ⟨c0, t0, fz0, h0, fun i v h => by simp at h⟩
theorem row_of {H : Type} {enc : TypeId × Value → H} {W : World} {k : IntKind} {t e : TypeId} {s : Value} {fuel : Nat} {x : DataW H × List MemPlace} (hL : laidMetH Tryd.prog laid1 W)
    (ht : Tryd.prog.underlying t = some (.slice e)) (he : Tryd.prog.underlying e = some (.int k)) (hc : Tryd.prog.cellsOf e = 1)
    (hd : DataW.trod enc Tryd.prog W 0 (fun _ => true) true fuel t [s] = some x) : Nonempty (RowP W k s) := by
  rcases open_ints ht he hc hd with ⟨hcs, _⟩ | ⟨x, ln, cp, zs, hcs, _, hl, hm, hz, _, hcell, hwz⟩
  · simp at hcs
    subst hcs
    exact ⟨⟨_, [], fun _ => .slice none 0 0, ok0 hL, by simp, fun A i _ => ⟨.inl ⟨rfl, .inl rfl⟩, .sliceNil⟩⟩⟩
  · simp at hcs
    subst hcs
    rw [if_pos rfl] at hz
    by_cases h0 : ln = 0
    · subst h0
      exact ⟨⟨_, [], fun _ => .slice (some ⟨0, 0, none⟩) 0 0, ok0 hL, by simp, fun A i _ => ⟨.inl ⟨rfl, .inr ⟨_, _, rfl⟩⟩, .lost _ _ _ trivial⟩⟩⟩
    · obtain ⟨hsp, c, t1, fz, hh, _⟩ := cell_heap (hcell 0 (by omega))
      rw [add0] at hsp
      rw [add_block] at hh
      have hcs : ∀ j, j < ln → c[x.off + j]? = some (.int k (zs.getD j 0)) := fun j hj => by
        obtain ⟨_, c', t2, fz2, h2, h3⟩ := cell_heap (hcell j (by omega))
        rw [add_block, hh] at h2
        obtain ⟨rfl, rfl, rfl⟩ : c = c' ∧ t1 = t2 ∧ fz = fz2 := by injection h2 with h2; injection h2 with a b c; exact ⟨a, b, c⟩
        rwa [add_off hsp] at h3
      have hlz : (zs.take ln).length = ln := by rw [List.length_take]; omega
      refine ⟨⟨⟨x.block, x.off, cp, ((zs.take ln).map fun n => Value.int k n).toArray⟩, zs.take ln, fun i => .slice (some ⟨1 + i, 0, some 1⟩) ln cp, fun A => ⟨c, t1, fz, hh, fun j y hy => ?_⟩, fun n hn => hwz n (List.mem_of_mem_take hn), fun A i hA => ⟨?_, ?_⟩⟩⟩
      · simp only [List.getElem?_toArray, List.getElem?_map, Option.map_eq_some_iff] at hy
        obtain ⟨n, hn, rfl⟩ := hy
        rw [List.getElem?_take] at hn
        split at hn
        · refine ⟨_, ?_, .int _ _⟩
          rw [hcs j (by assumption), List.getD_eq_getElem?_getD, hn]; rfl
        · cases hn
      · refine .inr ⟨1 + i, 0, cp, false, _, by rw [hlz], by rw [hlz]; exact hl, mem0_arg hA, fun j n hn => ?_⟩
        simp only [List.getElem?_toArray, List.getElem?_map, hn, Option.map_some, Nat.zero_add]
      · obtain ⟨e1, e2, e3⟩ := beta0_arg hA
        have hi := (List.getElem?_eq_some_iff.1 hA).1
        have := VRel.slice (β := beta0 A) (N := 1 + A.length) (1 + i) 0 1 ln cp cp (by omega) (by omega) hl (Nat.le_refl _) (by rw [e2, e3]; simp only; omega) (by unfold maxLen at hm; omega)
        rw [e1, e2] at this
        obtain ⟨xb, xo, xs⟩ := x
        obtain rfl : xs = none := hsp
        exact this
/-- An argument that is a slice of whole numbers. -/
theorem ints_arg {H : Type} {enc : TypeId × Value → H} {W : World} {k : IntKind} {t e : TypeId} {r : Reach} {base : Nat} {v : Value} {d : DataW H} {p : List MemPlace} (hL : laidMetH Tryd.prog laid1 W)
    (ht : Tryd.prog.underlying t = some (.slice e)) (he : Tryd.prog.underlying e = some (.int k)) (hc : Tryd.prog.cellsOf e = 1)
    (hval : Value.okWide Tryd.prog W r base t v) (hd : DataW.Trod enc Tryd.prog W 0 (fun _ => true) true t v d p) :
    ∃ (L : Nat) (B : Nat → List Arg0) (l : List Int) (f : Nat → Value), (∀ pos, (B pos).length = L) ∧ (∀ n ∈ l, (Lit.int k n).wf = true) ∧
      ∀ (A : List Arg0) (pos : Nat), PartAt A pos (B pos) → (∀ a ∈ B pos, a.ok W A) ∧ KAt k (mem0 A) (f pos) l ∧ VRel (beta0 A) (1 + A.length) (f pos) v := by
  obtain ⟨q, len, cap, rfl⟩ := okWide_slice ht hval
  obtain ⟨fuel, hf⟩ := hd
  obtain ⟨R⟩ := row_of hL ht he hc hf
  refine ⟨1, fun _ => [R.a], R.l, R.f, fun _ => rfl, R.wf, fun A pos hp => ⟨fun a ha => ?_, R.rel A pos (hp 0 _ rfl)⟩⟩
  rw [List.mem_singleton.1 ha]; exact R.ok A
theorem u22 : Tryd.prog.underlying 22 = some (.slice 25) := by kernel_rfl
theorem u3 : Tryd.prog.underlying 3 = some (.int .i64) := by kernel_rfl
theorem u25 : Tryd.prog.underlying 25 = some (.slice 3) := by kernel_rfl
theorem u63 : Tryd.prog.underlying 63 = some (.slice 5) := by kernel_rfl
theorem u24 : Tryd.prog.underlying 24 = some (.struct #[{ name := "Needs", type := 22, offset := 0, embedded := false, tag := "", pkgPath := "", byteOffset := 0 }]) := by kernel_rfl
theorem c3 : Tryd.prog.cellsOf 3 = 1 := by kernel_rfl
theorem c5 : Tryd.prog.cellsOf 5 = 1 := by kernel_rfl
theorem c22 : Tryd.prog.cellsOf 22 = 1 := by kernel_rfl
theorem c24 : Tryd.prog.cellsOf 24 = 1 := by kernel_rfl
theorem c25 : Tryd.prog.cellsOf 25 = 1 := by kernel_rfl
theorem laidOut : laidOutB Tryd.prog = true := by kernel_rfl
theorem u8_nat {n : Int} (h : (Lit.int .u8 n).wf = true) : ∃ c : Nat, c < 256 ∧ n = Int.ofNat c := by
  have h' : 0 ≤ n ∧ n < 256 := by
    simp [Lit.wf, IntKind.min, IntKind.max, IntKind.signed, IntKind.bits] at h
    omega
  exact ⟨n.toNat, by omega, by simp; omega⟩
theorem i64_lt {n : Int} (h : (Lit.int .i64 n).wf = true) : n < 9223372036854775808 := by
  simp [Lit.wf, IntKind.min, IntKind.max, IntKind.signed, IntKind.bits] at h
  omega
/-- A cell of a slice's row, read. -/
theorem one_cell {W : World} {a : Addr} {x : List Value} (h : W.cells? 0 a 1 = some x) : ∃ s, x = [s] ∧ W.cell? (a.add 0) = some s := by
  unfold World.cells? at h
  rw [if_pos (Nat.zero_le _), List.range_one] at h
  cases e : W.cell? (a.add 0) with
  | none => simp [e] at h
  | some s => simp [e] at h; exact ⟨s, h.symm, rfl⟩
/-- An argument that is a graph. -/
theorem dag_arg {H : Type} {enc : TypeId × Value → H} {W : World} {r : Reach} {base : Nat} {v : Value} {d : DataW H} {p : List MemPlace} (hL : laidMetH Tryd.prog laid1 W)
    (hval : Value.okWide Tryd.prog W r base 24 v) (hd : DataW.Trod enc Tryd.prog W 0 (fun _ => true) true 24 v d p) :
    ∃ (L : Nat) (B : Nat → List Arg0) (G : List (List Int)) (f : Nat → Value), (∀ pos, (B pos).length = L) ∧ True ∧
      ∀ (A : List Arg0) (pos : Nat), PartAt A pos (B pos) → (∀ a ∈ B pos, a.ok W A) ∧ (∃ s, f pos = .agg #[s] ∧ RowsAt (mem0 A) s G) ∧ VRel (beta0 A) (1 + A.length) (f pos) v := by
  unfold Value.okWide at hval
  rw [u24] at hval
  obtain ⟨cs, rfl, hsz, _⟩ := hval
  rw [c24] at hsz
  obtain ⟨w, rfl⟩ : ∃ w, cs = #[w] := by
    obtain ⟨l⟩ := cs
    match l, hsz with
    | [w], _ => exact ⟨w, rfl⟩
  obtain ⟨fuel, hf⟩ := hd
  obtain ⟨xs, m, rfl, hx, hl, hn, hel⟩ := DataW.trod_struct u24 hf
  have h0 := hel 0 _ rfl
  match xs, hn, h0 with
  | [x0], _, h0 =>
    have h1 : DataW.trod enc Tryd.prog W 0 (fun _ => true) true m 22 [w] = some x0 := by simpa [c22, Value.cells] using h0
    have agg1 : ∀ {A : List Arg0} {s s' : Value}, VRel (beta0 A) (1 + A.length) s s' → VRel (beta0 A) (1 + A.length) (.agg #[s]) (.agg #[s']) := fun h => .agg _ _ rfl fun i v v' e e' => by
      match i with
      | 0 => simp at e e'; subst e e'; exact h
      | i + 1 => simp at e
    rcases DataW.trod_slice u22 h1 with ⟨hw, _⟩ | ⟨a, len, cap, elems, rest, n, _, hw, _, _, hlc, hml, hlen, hcell, _, _⟩
    · simp at hw
      subst hw
      exact ⟨0, fun _ => [], [], fun _ => .agg #[.slice none 0 0], fun _ => rfl, trivial, fun A pos _ => ⟨by simp, ⟨_, rfl, .inl ⟨rfl, .inl rfl⟩⟩, agg1 .sliceNil⟩⟩
    · simp at hw
      subst hw
      by_cases hz : len = 0
      · subst hz
        exact ⟨0, fun _ => [], [], fun _ => .agg #[.slice (some ⟨0, 0, none⟩) 0 0], fun _ => rfl, trivial, fun A pos _ => ⟨by simp, ⟨_, rfl, .inl ⟨rfl, .inr ⟨_, _, rfl⟩⟩⟩, agg1 (.lost _ _ _ trivial)⟩⟩
      · have key : ∀ i : Fin len, ∃ s : Value, W.cell? ((a.add (i * 1)).add 0) = some s ∧ Nonempty (RowP W .i64 s) := fun i => by
          have h2 := hcell i i.2
          rw [c25, List.getElem?_eq_getElem (by omega), Option.bind_eq_some_iff] at h2
          obtain ⟨x, h3, h4⟩ := h2
          obtain ⟨s, rfl, h5⟩ := one_cell h3
          exact ⟨s, h5, row_of hL u25 u3 c3 h4⟩
        have hch := Classical.axiomOfChoice key
        obtain ⟨S, hS⟩ := hch
        have hR : ∀ i : Fin len, Nonempty (RowP W .i64 (S i)) := fun i => (hS i).2
        let R : (i : Fin len) → RowP W .i64 (S i) := fun i => Classical.choice (hR i)
        obtain ⟨hsp, c, t1, fz, hh, _⟩ := cell_heap (hS ⟨0, by omega⟩).1
        rw [add0] at hsp
        replace hsp : a.spot = none := by simpa [add0] using hsp
        rw [add_block, add_block] at hh
        have hcs : ∀ j : Fin len, c[a.off + j]? = some (S j) := fun j => by
          obtain ⟨hs, c', t2, fz2, h2, h3⟩ := cell_heap (hS j).1
          rw [add_block, add_block, hh] at h2
          obtain ⟨rfl, rfl, rfl⟩ : c = c' ∧ t1 = t2 ∧ fz = fz2 := by injection h2 with h2; injection h2 with a b c; exact ⟨a, b, c⟩
          rw [add0, add_off hsp] at h3
          simpa using h3
        let G : List (List Int) := List.ofFn fun i => (R i).l
        let rowsB : List Arg0 := List.ofFn fun i => (R i).a
        let outer : Nat → Arg0 := fun pos => ⟨a.block, a.off, cap, (List.ofFn fun i : Fin len => (R i).f (pos + 1 + i)).toArray⟩
        have hGl : G.length = len := List.length_ofFn
        refine ⟨1 + len, fun pos => outer pos :: rowsB, G, fun pos => .agg #[.slice (some ⟨1 + pos, 0, some 1⟩) len cap], fun pos => by simp [rowsB]; omega, trivial, fun A pos hp => ?_⟩
        have hA0 : A[pos]? = some (outer pos) := hp 0 _ rfl
        have hAi : ∀ i : Fin len, A[pos + 1 + i]? = some (R i).a := fun i => by
          have := hp (1 + i) (R i).a (by rw [Nat.add_comm 1, List.getElem?_cons_succ]; simp [rowsB])
          rwa [← Nat.add_assoc] at this
        have hrel := fun i : Fin len => (R i).rel A (pos + 1 + i) (hAi i)
        refine ⟨fun b hb => ?_, ⟨_, rfl, ?_⟩, agg1 ?_⟩
        · rcases List.mem_cons.1 hb with rfl | hb
          · refine ⟨c, t1, fz, hh, fun j y hy => ?_⟩
            have hj : j < len := by
              have := (Array.getElem?_eq_some_iff.1 hy).1
              simpa [outer] using this
            have e : y = (R ⟨j, hj⟩).f (pos + 1 + j) := by
              simp [outer, hj] at hy
              exact hy.symm
            subst e
            exact ⟨_, hcs ⟨j, hj⟩, (hrel ⟨j, hj⟩).2⟩
          · obtain ⟨i, rfl⟩ := List.mem_ofFn.1 hb
            exact (R i).ok A
        · refine .inr ⟨1 + pos, 0, cap, false, _, by rw [hGl], mem0_arg hA0, fun i g hi => ?_⟩
          have hj : i < len := by
            have := (List.getElem?_eq_some_iff.1 hi).1
            omega
          have e : g = (R ⟨i, hj⟩).l := by
            simp [G, hj] at hi
            exact hi.symm
          subst e
          exact ⟨(R ⟨i, hj⟩).f (pos + 1 + i), by simp [outer, hj], (hrel ⟨i, hj⟩).1.ints⟩
        · obtain ⟨e1, e2, e3⟩ := beta0_arg hA0
          have hi := (List.getElem?_eq_some_iff.1 hA0).1
          have := VRel.slice (β := beta0 A) (N := 1 + A.length) (1 + pos) 0 1 len cap cap (by omega) (by omega) hlc (Nat.le_refl _) (by rw [e2, e3]; simp only [outer]; omega) (by unfold maxLen at hml; omega)
          rw [e1, e2] at this
          obtain ⟨xb, xo, xs⟩ := a
          obtain rfl : xs = none := hsp
          exact this
end Go.AM
