/- Part 5 of the proof: Plain laws, no program in sight. -/
import Derived.Test.YthfhbddnkgfhaaaDoorPartD
set_option linter.unusedVariables false
set_option linter.unusedSimpArgs false
/-! ### M21 -/
namespace Go.AM
set_option linter.unusedVariables false
set_option linter.unusedSimpArgs false
def nodesUp (x n : Nat) : List Nat := (List.range n).filter fun i => x.testBit i
def nodesM (x : Nat) : List Nat := nodesUp x 10
theorem nodesUp_succ (x n : Nat) : nodesUp x (n + 1) = nodesUp x n ++ (if x.testBit n then [n] else []) := by
  rw [nodesUp, List.range_succ, List.filter_append, nodesUp]
  congr 1
  by_cases h : x.testBit n = true
  · simp [h]
  · simp [h]
theorem nodesUp_len (x n : Nat) : (nodesUp x n).length ≤ n := by
  have := List.length_filter_le (fun i => x.testBit i) (List.range n)
  rwa [List.length_range] at this
def neededF (P : List Nat) : Nat → Nat → Nat
  | 0, x => x
  | n + 1, x => neededF P n (if x.testBit n then x ||| P.getD n 0 else x)
def neededM (N : List (List Nat)) (gs : List Nat) : Nat := neededF (needsM N) N.length (posM gs)
theorem neededF_lt {P : List Nat} {k : Nat} (hP : ∀ x ∈ P, x < 2 ^ k) : ∀ (n x : Nat), x < 2 ^ k → neededF P n x < 2 ^ k
  | 0, x, h => h
  | n + 1, x, h => by
    rw [neededF]
    refine neededF_lt hP n _ ?_
    split
    · refine Nat.or_lt_two_pow h ?_
      rw [List.getD_eq_getElem?_getD]
      cases hn : P[n]? with
      | none => exact Nat.two_pow_pos k
      | some y => exact hP y (List.mem_of_getElem? hn)
    · exact h
def mayM (P : List Nat) (x n : Nat) : Bool := decide (x &&& P.getD n 0 = P.getD n 0)
def playE (P : List Nat) : Nat → List Int → Nat
  | _, [] => 0
  | x, n :: l => if n < 0 ∨ Int.ofNat P.length ≤ n then 1 else if mayM P x n.toNat then playE P (x ^^^ 2 ^ n.toNat) l else 15
def playL : Nat → List Int → List Nat
  | _, [] => []
  | x, n :: l => (x ^^^ 2 ^ n.toNat) :: playL (x ^^^ 2 ^ n.toNat) l
def playedE (P : List Nat) (l : List Int) : Nat := if 120 < l.length then 2 else playE P 0 l
def playedL (l : List Int) : List Nat := 0 :: playL 0 l
def natsG (G : List (List Int)) : List (List Nat) := G.map nats
@[simp] theorem natsG_ofs2 (N : List (List Nat)) : natsG (ofs2 N) = N := by
  simp only [natsG, ofs2, List.map_map]
  conv => rhs; rw [← List.map_id N]
  exact List.map_congr_left fun x _ => nats_ofs x
def gPlayE (G : List (List Int)) (l : List Int) : Nat := if checkG G = 0 then playedE (needsM (natsG G)) l else checkG G
def mostM (L : List Nat) : Nat := L.foldl (fun a x => max a (popc x)) 0
theorem popc_le_of_lt : ∀ {n x : Nat}, x < 2 ^ n → popc x ≤ n
  | 0, x, h => by
    obtain rfl : x = 0 := by simpa using h
    exact popc_le 0
  | n + 1, x, h => by
    by_cases h0 : 0 < x
    · rw [popc_pos h0]
      have := popc_le_of_lt (n := n) (x := x / 2) (by rw [Nat.pow_succ] at h; omega)
      omega
    · obtain rfl : x = 0 := by omega
      exact Nat.le_trans (popc_le 0) (by omega)
theorem playL_len : ∀ (x : Nat) (l : List Int), (playL x l).length = l.length
  | _, [] => rfl
  | x, n :: l => by rw [playL, List.length_cons, List.length_cons, playL_len]
theorem playL_lt {P : List Nat} (hP : P.length ≤ 10) : ∀ {x : Nat} {l : List Int}, x < 1024 → playE P x l = 0 → ∀ y ∈ playL x l, y < 1024
  | _, [], _, _, y, hy => by cases hy
  | x, n :: l, hx, h, y, hy => by
    rw [playE] at h
    split at h
    · cases h
    rename_i hn
    split at h
    · have hn2 : n.toNat < 10 := by simp at hn; omega
      have h2 : x ^^^ 2 ^ n.toNat < 2 ^ 10 := Nat.xor_lt_two_pow hx (Nat.pow_lt_pow_right (by omega) hn2)
      rw [playL] at hy
      rcases List.mem_cons.1 hy with rfl | hy
      · exact h2
      · exact playL_lt hP h2 h y hy
    · cases h
theorem playedL_lt {P : List Nat} (hP : P.length ≤ 10) {l : List Int} (h : playedE P l = 0) : ∀ y ∈ playedL l, y < 1024 := by
  unfold playedE at h
  split at h
  · cases h
  · intro y hy
    rcases List.mem_cons.1 hy with rfl | hy
    · omega
    · exact playL_lt hP (by omega) h y hy
end Go.AM

/-! ### P6 -/
namespace Go.AM
open Go.Proofs
set_option maxRecDepth 100000
set_option linter.unusedVariables false
set_option linter.unusedSimpArgs false
theorem maxN {a b : Nat} : aFold aMax2 (nv a) [nv b] = some (nv (max a b)) := by
  simp only [aFold, aMax2, nv, if_true]
  congr 2
  by_cases h : a < b
  · rw [if_pos (by simpa using h), Nat.max_eq_right (by omega)]
  · rw [if_neg (by simpa using h), Nat.max_eq_left (by omega)]
theorem conv3_104 {a : Nat} (h : a < 9223372036854775808) : aConv Tryd.prog 3 104 (.int .i64 (Int.ofNat a)) = some (.int .u64 (Int.ofNat a)) := by
  have h1 : undOf Tryd.prog 3 = some (.int .i64) := by kernel_rfl
  have h2 : undOf Tryd.prog 104 = some (.int .u64) := by kernel_rfl
  simp only [aConv, h1, h2]
  have : IntKind.u64.wrap (Int.ofNat a) = Int.ofNat a := by
    simp [IntKind.wrap, IntKind.bits, IntKind.signed]; omega
  rw [this]

theorem okf76 : okF Tryd.prog H0 76 19 = true := by kernel_rfl
theorem spec_nodes {m : Mem} {x : Nat} (hx : x < 9223372036854775808) : ∃ v m', ACalls Tryd.prog 76 #[nv x] m v m' ∧ (OwnF m.size m' v (ofs (nodesM x)) ∧ Ext m m') := by
  refine wpF (args := [_]) mixed okf76 (fn := Tryd.f76) rfl rfl rfl (by simp) ?_
  refine cSeq ?_
  refine cRegion ?_
  refine sAs (v := .slice _ _ _) rfl ?_
  refine sNil (kSeqN ?_)
  refine cSeq ?_
  refine cRegion ?_
  refine sAs (v := .slice _ _ _) rfl ?_
  refine sNil (kSeqN ?_)
  refine cSeq ?_
  refine cSeq ?_
  refine cRegion ?_
  refine sMv (v := nv 0) rfl ?_
  refine sNil (kSeqN ?_)
  refine cBlock ?_
  refine wpC_loop (fun k ρ m' => ∃ i v, k = 10 - i ∧ i ≤ 10 ∧ Low m.size m m' ∧ OwnF m.size m' v (ofs (nodesUp x i)) ∧ Has ρ [(0, nv x), (3, v), (5, nv i)]) ⟨0, _, rfl, by omega, .refl _ _, .nil _ _, rfl, rfl, rfl, trivial⟩ ?_
  rintro k ρ m' ⟨i, v, rfl, hi, hLo, hO, hh⟩
  obtain ⟨qv, cv, rfl⟩ := hO.ints.lenN
  rw [hh.env]; clear hh
  have hsz := hLo.1
  have hnl := nodesUp_len x i
  refine cSeq ?_
  refine cRegion ?_
  refine sBin (b := 10) rfl rfl aInt_lss ?_
  refine sNil (kSeqN ?_)
  refine cSeq ?_   -- seq 5
  refine cCond rfl (fun c0 => ?_) (fun c0 => ?_)
  ·
    refine cSkip (kSeqN ?_)
    refine cSeq ?_
    refine cBlock ?_
    refine cSeq ?_
    refine cRegion ?_
    refine sMv (v := nv _) rfl ?_
    refine sAs (v := nv _) rfl ?_
    refine sNil (kSeqN ?_)
    refine cSeq ?_
    refine cRegion ?_
    refine sMv (v := nv _) rfl ?_
    refine sMv (v := nv _) rfl ?_
    refine sBin (a := x) (b := i) rfl rfl (aInt_shr (by omega)) ?_
    have hsh := Nat.shiftRight_le x i
    refine sBin (b := 1) rfl rfl (aInt_and (by omega)) ?_
    refine sBin (b := 1) rfl rfl aInt_eql ?_
    refine sNil (kSeqN ?_)
    refine cCond rfl (fun c1 => ?_) (fun c1 => ?_)
    ·
      have hb := (bit_one x i).1 c1
      refine cRegion ?_
      refine sMv (v := .slice _ _ _) rfl ?_
      refine sMv (v := nv _) rfl ?_
      refine sBuildS T25 S3 Z3 (by decide) (by decide) (by decide) (by kernel_rfl) fill1 rfl ?_
      refine sApp App25 rfl rfl (N := m.size) (hO.ext (.push _ _)) one_ints (by simp; omega) (by simp; omega) fun v3 m3 hO3 hL3 => ?_
      have hI3 := hO3.ints
      obtain ⟨q3, cp3, rfl⟩ := hI3.len
      refine sAs (v := .slice _ _ _) rfl ?_
      refine sNil (kBlkN (kSeqN ?_))
      refine cRegion ?_
      refine sBin rfl rfl (aInt_add (b := 1) (by omega)) ?_
      refine sMv (v := nv _) rfl ?_
      refine sNil (kSeqN ?_)
      refine ⟨_, ?_, i + 1, _, rfl, by omega, hLo.trans ((Low.push _ hsz _).trans hL3), by rw [nodesUp_succ, if_pos hb, ofs_append]; exact hO3, rfl, rfl, rfl, trivial⟩
      omega
    ·
      refine cSkip (kBlkN (kSeqN ?_))
      refine cRegion ?_
      refine sBin rfl rfl (aInt_add (b := 1) (by omega)) ?_
      refine sMv (v := nv _) rfl ?_
      refine sNil (kSeqN ?_)
      refine ⟨_, ?_, i + 1, _, rfl, by omega, hLo, by rw [nodesUp_succ, if_neg (fun h => c1 ((bit_one x i).2 h)), List.append_nil]; exact hO, rfl, rfl, rfl, trivial⟩
      omega
  ·
    refine cExit (kSeqE (kSeqE (kBlkS (kSeqN ?_))))
    refine cSeq ?_
    refine cRegion ?_
    refine sMv (v := .slice _ _ _) rfl ?_
    refine sAs (v := .slice _ _ _) rfl ?_
    refine sNil (kSeqN ?_)
    refine cRet ?_
    obtain rfl : i = 10 := by omega
    exact ⟨.inr rfl, _, rfl, hO, hLo⟩

theorem okf77 : okF Tryd.prog H0 77 30 = true := by kernel_rfl
theorem spec_needed {m : Mem} {b a : Value} {N : List (List Nat)} {gs : List Nat} (hB : BoardAt m b N) (hN : Dag N) (ha : IntsAt m a (ofs gs)) (hg : Goals N.length gs) (hl : gs.length < 1000000) : ∃ v m', ACalls Tryd.prog 77 #[b, a] m v m' ∧ (v = nv (neededM N gs) ∧ Ext m m') := by
  obtain ⟨q, n, c, q2, n2, c2, rfl, hr, hi2⟩ := hB
  obtain ⟨qg, cg, rfl⟩ := ha.lenN
  have he : Ext m (m.push (.cells true #[.slice q n c, .slice q2 n2 c2, nv (2 ^ N.length - 1)])) := .push _ _
  obtain ⟨_, _, hn2⟩ := hi2.lenN
  cases hn2
  have h10 := hN.ten
  have h1 := hN.one
  have hlt : ∀ x ∈ needsM N, x < 2 ^ 10 := fun x hx => hN.needs_lt' hx
  have hp : posM gs < 2 ^ 10 := posM_lt fun k hk => Nat.lt_of_lt_of_le (hg.lt k hk) h10
  refine wpF (args := [_, _]) mixed okf77 (fn := Tryd.f77) rfl rfl rfl (by simp) ?_
  refine cSeq ?_
  refine cRegion ?_
  refine sBox (v := .agg _) rfl ?_
  refine sAs (v := nv 0) rfl ?_
  refine sNil (kSeqN ?_)
  refine cSeq ?_
  refine cRegion ?_
  refine sMv (v := .slice _ _ _) rfl ?_
  refine sCall1 rfl call70 rfl (spec_position (ha.ext he) hl fun x hx => by have := hg.lt x hx; omega) ?_
  refine sAs (v := nv _) rfl ?_
  refine sNil (kSeqN ?_)
  refine cSeq ?_
  refine cSeq ?_
  refine cRegion ?_
  refine sFA F79_1 rfl ?_
  refine sLd A25 rfl (by simp (disch := first | omega | (simp only [Array.size_push, Array.size_setIfInBounds]; done) | (simp only [Array.size_push, Array.size_setIfInBounds]; omega)) only [gP, gPn, gS, gSn]; try rfl) rfl ?_
  refine sLen T25 rfl ?_
  refine sBin (v := .int .i64 (Int.ofNat N.length - 1)) rfl rfl (by rw [needsM_length, aInt_sub (b := 1) (by omega)]; simp only [nv]; congr 2; simp; omega) ?_
  refine sAs (v := .int _ _) rfl ?_
  refine sNil (kSeqN ?_)
  refine cBlock ?_
  refine wpC_loop (fun k ρ m' => ∃ i x, k = i ∧ i ≤ N.length ∧ neededM N gs = neededF (needsM N) i x ∧ x < 2 ^ 10 ∧ m.push (.cells true #[.slice q n c, .slice q2 (needsM N).length c2, nv (2 ^ N.length - 1)]) = m' ∧ Has ρ [(2, .pointer (some ⟨m.size, 0, none⟩)), (5, nv x), (6, .int .i64 (Int.ofNat i - 1))]) ⟨N.length, _, rfl, Nat.le_refl _, rfl, hp, rfl, rfl, rfl, rfl, trivial⟩ ?_
  rintro k ρ _ ⟨i, x, rfl, hi, hr0, hx, rfl, hh⟩
  rw [hh.env]; clear hh
  refine cSeq ?_   -- seq 4
  refine cSeq ?_
  refine cRegion ?_
  refine sMv (v := .int _ _) rfl ?_
  refine sBinI (b := 0) rfl rfl aInt_geqI ?_
  refine sNil (kSeqN ?_)
  refine cCond rfl (fun c0 => ?_) (fun c0 => ?_)
  ·
    obtain ⟨j, rfl⟩ : ∃ j, k = j + 1 := ⟨k - 1, by simp at c0; omega⟩
    have hj : Int.ofNat (j + 1) - 1 = Int.ofNat j := by simp
    rw [hj]
    have hsh := Nat.shiftRight_le x j
    obtain ⟨b1, o1, p1, r1, cc, e1, gg, x1⟩ := hi2.atN (by rw [needsM_length]; omega)
    cases e1
    have hPj : (needsM N)[j]? = some ((needsM N).getD j 0) := getDeq (by rw [needsM_length]; omega)
    have hPl := hlt _ (List.mem_of_getElem? hPj)
    have hor : x ||| (needsM N).getD j 0 < 2 ^ 10 := Nat.or_lt_two_pow hx hPl
    refine cSkip (kSeqN ?_)
    refine cSeq ?_
    refine cBlock ?_
    refine cSeq ?_
    refine cRegion ?_
    refine sMv (v := nv _) rfl ?_
    refine sMv (v := nv j) rfl ?_
    refine sBin (a := x) (b := j) rfl rfl (aInt_shr (by omega)) ?_
    refine sBin (b := 1) rfl rfl (aInt_and (by omega)) ?_
    refine sBin (b := 1) rfl rfl aInt_eql ?_
    refine sNil (kSeqN ?_)
    refine cCond rfl (fun c1 => ?_) (fun c1 => ?_)
    ·
      have hb := (bit_one x j).1 c1
      refine cRegion ?_
      refine sMv (v := nv _) rfl ?_
      refine sFA F79_1 rfl ?_
      refine sLd A25 rfl (by simp (disch := first | omega | (simp only [Array.size_push, Array.size_setIfInBounds]; done) | (simp only [Array.size_push, Array.size_setIfInBounds]; omega)) only [gP, gPn, gS, gSn]; try rfl) rfl ?_
      refine sMv (v := nv j) rfl ?_
      refine sIx T25 S3 rfl rfl (by rw [needsM_length]; omega) ?_
      refine sLd (v := nv ((needsM N).getD j 0)) A3 rfl (he.cells gg) (x1 j _ hPj) ?_
      refine sBin rfl rfl (aInt_or (by omega)) ?_
      refine sAs (v := nv _) rfl ?_
      refine sNil (kBlkN (kSeqN ?_))
      refine cRegion ?_
      refine sMv (v := nv j) rfl ?_
      refine sBinI (v := .int .i64 (Int.ofNat j - 1)) (a := Int.ofNat j) (b := 1) rfl rfl (aInt_subI (by simp; omega)) ?_
      refine sAs (v := .int _ _) rfl ?_
      refine sNil (kSeqN ?_)
      refine ⟨j, by omega, j, _, rfl, by omega, by rw [hr0, neededF, if_pos hb], hor, rfl, rfl, rfl, rfl, trivial⟩
    ·
      refine cSkip (kBlkN (kSeqN ?_))
      refine cRegion ?_
      refine sMv (v := nv j) rfl ?_
      refine sBinI (v := .int .i64 (Int.ofNat j - 1)) (a := Int.ofNat j) (b := 1) rfl rfl (aInt_subI (by simp; omega)) ?_
      refine sAs (v := .int _ _) rfl ?_
      refine sNil (kSeqN ?_)
      refine ⟨j, by omega, j, _, rfl, by omega, by rw [hr0, neededF, if_neg (fun h => c1 ((bit_one x j).2 h))], hx, rfl, rfl, rfl, rfl, trivial⟩
  ·
    refine cExit (kSeqE (kSeqE (kBlkS (kSeqN ?_))))
    refine cSeq ?_
    refine cRegion ?_
    refine sMv (v := nv _) rfl ?_
    refine sAs (v := nv _) rfl ?_
    refine sNil (kSeqN ?_)
    refine cRet ?_
    obtain rfl : k = 0 := by simp at c0; omega
    exact ⟨.inr rfl, _, rfl, by rw [hr0]; rfl, he⟩

theorem okf95 : okF Tryd.prog H0 95 20 = true := by kernel_rfl
theorem spec_may {m : Mem} {b : Value} {N : List (List Nat)} {x n : Nat} (hB : BoardAt m b N) (hN : Dag N) (hx : x < 9223372036854775808) (hn : n < N.length) : ∃ v m', ACalls Tryd.prog 95 #[b, nv x, nv n] m v m' ∧ (v = .bool (mayM (needsM N) x n) ∧ Ext m m') := by
  obtain ⟨q, n1, c, q2, n2, c2, rfl, hr, hi2⟩ := hB
  have he : Ext m (m.push (.cells true #[.slice q n1 c, .slice q2 n2 c2, nv (2 ^ N.length - 1)])) := .push _ _
  obtain ⟨b1, o1, p1, r1, cc, e1, gg, x1⟩ := hi2.atN (by rw [needsM_length]; omega)
  cases e1
  have hPj : (needsM N)[n]? = some ((needsM N).getD n 0) := getDeq (by rw [needsM_length]; omega)
  have hPl := hN.needs_lt' (List.mem_of_getElem? hPj)
  refine wpF (args := [_, _, _]) mixed okf95 (fn := Tryd.f95) rfl rfl rfl (by simp) ?_
  refine cSeq ?_
  refine cRegion ?_
  refine sBox (v := .agg _) rfl ?_
  refine sAs (v := .bool _) rfl ?_
  refine sNil (kSeqN ?_)
  refine cSeq ?_
  refine cDraw rfl ?_
  refine sMv (v := nv _) rfl ?_
  refine sFA F79_1 rfl ?_
  refine sLd A25 rfl (by simp (disch := first | omega | (simp only [Array.size_push, Array.size_setIfInBounds]; done) | (simp only [Array.size_push, Array.size_setIfInBounds]; omega)) only [gP, gPn, gS, gSn]; try rfl) rfl ?_
  refine sMv (v := nv _) rfl ?_
  refine sIx T25 S3 rfl rfl (by rw [needsM_length]; omega) ?_
  refine sLd (v := nv ((needsM N).getD n 0)) A3 rfl (he.cells gg) (x1 n _ hPj) ?_
  refine sBin rfl rfl (aInt_and (by omega)) ?_
  refine sFA F79_1 rfl ?_
  refine sLd A25 rfl (by simp (disch := first | omega | (simp only [Array.size_push, Array.size_setIfInBounds]; done) | (simp only [Array.size_push, Array.size_setIfInBounds]; omega)) only [gP, gPn, gS, gSn]; try rfl) rfl ?_
  refine sMv (v := nv _) rfl ?_
  refine sIx T25 S3 rfl rfl (by rw [needsM_length]; omega) ?_
  refine sLd (v := nv ((needsM N).getD n 0)) A3 rfl (he.cells gg) (x1 n _ hPj) ?_
  refine sBin (a := x &&& (needsM N).getD n 0) (b := (needsM N).getD n 0) rfl rfl aInt_eql ?_
  refine sAs (v := .bool _) rfl ?_
  refine sNil (kSeqN ?_)
  refine cRet ?_
  exact ⟨.inr rfl, _, rfl, rfl, he⟩

theorem okf78 : okF Tryd.prog H0 78 44 = true := by kernel_rfl
theorem spec_played {m : Mem} {b a : Value} {N : List (List Nat)} {l : List Int} (hB : BoardAt m b N) (hN : Dag N) (ha : IntsAt m a l) : ∃ v m', ACalls Tryd.prog 78 #[b, a] m v m' ∧ (∃ w, v = .tuple #[w, nv (playedE (needsM N) l)] ∧ OwnF m.size m' w (ofs (ifOk (playedE (needsM N) l) (playedL l) [])) ∧ Ext m m') := by
  have hB0 := hB
  obtain ⟨q, n1, c, q2, n2, c2, rfl, hr, hi2⟩ := hB
  obtain ⟨qg, cg, rfl⟩ := ha.len
  have he : Ext m (m.push (.cells true #[.slice q n1 c, .slice q2 n2 c2, nv (2 ^ N.length - 1)])) := .push _ _
  obtain ⟨_, _, hn2⟩ := hi2.lenN
  cases hn2
  have h10 := hN.ten
  have h1 := hN.one
  unfold playedE
  refine wpF (args := [_, _]) mixed okf78 (fn := Tryd.f78) rfl rfl rfl (by simp) ?_
  refine cSeq ?_
  refine cRegion ?_
  refine sBox (v := .agg _) rfl ?_
  refine sAs (v := .slice _ _ _) rfl ?_
  refine sAs (v := nv 0) rfl ?_
  refine sNil (kSeqN ?_)
  refine cSeq ?_   -- seq 1
  refine cSeq ?_
  refine cRegion ?_
  refine sMv (v := .slice _ _ _) rfl ?_
  refine sLen T25 rfl ?_
  refine sBin (b := 120) rfl rfl aInt_gtr ?_
  refine sNil (kSeqN ?_)
  refine cCond rfl (fun c0 => ?_) (fun c0 => ?_)
  ·
    refine cSeq ?_
    refine cRegion ?_
    refine sAs (v := .slice _ _ _) rfl ?_
    refine sAs (v := nv 2) rfl ?_
    refine sNil (kSeqN ?_)
    refine cRet (kSeqR ?_)
    exact ⟨.inr rfl, _, rfl, _, by rw [if_pos c0]; rfl, by rw [if_pos c0, ifOk_n (by decide)]; exact .nil _ _, he⟩
  ·
    rw [if_neg c0]
    refine cSkip (kSeqN ?_)
    refine cSeq ?_
    refine cRegion ?_
    refine sBuildS T25 S3 Z3 (by decide) (by decide) (by decide) (by kernel_rfl) fill1 rfl ?_
    refine sAs (v := .slice _ _ _) rfl ?_
    refine sNil (kSeqN ?_)
    refine cSeq ?_
    refine cRegion ?_
    refine sAs (v := nv 0) rfl ?_
    refine sNil (kSeqN ?_)
    refine cSeq ?_
    refine cSeq ?_
    refine cRegion ?_
    refine sMv (v := .slice _ _ _) rfl ?_
    refine sLen T25 rfl ?_
    refine sMv (v := nv 0) rfl ?_
    refine sNil (kSeqN ?_)
    refine cBlock ?_
    refine wpC_loop (fun k ρ m' => ∃ i x L v, k = l.length - i ∧ i ≤ l.length ∧ playE (needsM N) 0 l = playE (needsM N) x (l.drop i) ∧ playedL l = L ++ playL x (l.drop i) ∧ L.length = i + 1 ∧ x < 1024 ∧ Low (m.size + 1) (m.push (.cells true #[.slice q n1 c, .slice q2 (needsM N).length c2, nv (2 ^ N.length - 1)])) m' ∧ OwnF (m.size + 1) m' v (ofs L) ∧ Has ρ [(2, .pointer (some ⟨m.size, 0, none⟩)), (6, v), (7, nv x), (14, .slice qg l.length cg), (15, nv l.length), (16, nv i)]) ⟨0, 0, [0], _, rfl, by omega, rfl, rfl, rfl, by omega, .push _ (by simp) _, .ofCells (l := [0]) (r := []) (by simp) (gP rfl), rfl, rfl, rfl, rfl, rfl, rfl, trivial⟩ ?_
    rintro k ρ m' ⟨i, x, L, v, rfl, hi, hr1, hr2, hLl, hx, hLo, hO, hh⟩
    obtain ⟨qv, cv, rfl⟩ := hO.ints.lenN
    rw [hh.env]; clear hh
    have hE := Low.to_ext he hLo (by omega)
    have g3 := hLo.cells (show m.size < m.size + 1 by omega) (gP rfl)
    refine cSeq ?_
    refine cRegion ?_
    refine sBin rfl rfl (aInt_lss) ?_
    refine sNil (kSeqN ?_)
    refine cSeq ?_   -- seq 9
    refine cCond rfl (fun c1 => ?_) (fun c1 => ?_)
    ·
      obtain ⟨b1, o1, p1, r1, cc, e1, gg, x1⟩ := ha.at (by omega)
      cases e1
      rw [drop_cons c1, playE] at hr1
      rw [drop_cons c1, playL] at hr2
      generalize hni : l[i] = n at *
      refine cSkip (kSeqN ?_)
      refine cSeq ?_
      refine cBlock ?_
      refine cSeq ?_
      refine cRegion ?_
      refine sIx T25 S3 rfl rfl (by omega) ?_
      refine sLd (v := .int _ _) A3 rfl (hE.cells gg) (x1 i n (by rw [← hni]; simp)) ?_
      refine sAs (v := .int _ _) rfl ?_
      refine sNil (kSeqN ?_)
      refine cSeq ?_   -- seq 12
      refine cSeq ?_
      refine cRegion ?_
      refine sMv (v := .int _ _) rfl ?_
      refine sBinI (v := .bool (decide (n < 0))) rfl rfl rfl ?_
      refine sMv (v := .bool _) rfl ?_
      by_cases h2 : n < 0
      ·
        rw [decide_eq_true h2]
        refine sGno (q' := true) rfl rfl (by simp) ?_
        refine sGno (q' := true) rfl rfl (by simp) ?_
        refine sGno (q' := true) rfl rfl (by simp) ?_
        refine sGno (q' := true) rfl rfl (by simp) ?_
        refine sGno (q' := true) rfl rfl (by simp) ?_
        refine sP (v := .bool _) rfl ?_
        refine sNil (kSeqN ?_)
        refine cCondT rfl ?_
        refine cSeq ?_
        refine cRegion ?_
        refine sAs (v := .slice _ _ _) rfl ?_
        refine sAs (v := nv 1) rfl ?_
        refine sNil (kSeqN ?_)
        refine cRet (kSeqR (kBlkR (kSeqR (kSeqR (kBlkR (kSeqR ?_))))))
        exact ⟨.inr rfl, _, rfl, _, by rw [hr1, if_pos (.inl h2)]; rfl, by rw [hr1, if_pos (.inl h2), ifOk_n (by decide)]; exact .nil _ _, hE⟩
      ·
        rw [decide_eq_false h2]
        refine sG rfl rfl ?_
        refine sMv (v := .int _ _) rfl ?_
        refine sG rfl rfl ?_
        refine sFA F79_1 rfl ?_
        refine sG rfl rfl ?_
        refine sLd A25 rfl (by simp (disch := first | omega | (simp only [Array.size_push, Array.size_setIfInBounds]; done) | (simp only [Array.size_push, Array.size_setIfInBounds]; omega)) only [gP, gPn, gS, gSn, g3]; try rfl) rfl ?_
        refine sG rfl rfl ?_
        refine sLen T25 rfl ?_
        refine sG rfl rfl ?_
        refine sBinI (b := Int.ofNat (needsM N).length) rfl rfl aInt_geqI ?_
        refine sP (v := .bool _) rfl ?_
        refine sNil (kSeqN ?_)
        refine cCond (p := Int.ofNat (needsM N).length ≤ n) rfl (fun c3 => ?_) (fun c3 => ?_)
        ·
          refine cSeq ?_
          refine cRegion ?_
          refine sAs (v := .slice _ _ _) rfl ?_
          refine sAs (v := nv 1) rfl ?_
          refine sNil (kSeqN ?_)
          refine cRet (kSeqR (kBlkR (kSeqR (kSeqR (kBlkR (kSeqR ?_))))))
          exact ⟨.inr rfl, _, rfl, _, by rw [hr1, if_pos (.inr c3)]; rfl, by rw [hr1, if_pos (.inr c3), ifOk_n (by decide)]; exact .nil _ _, hE⟩
        ·
          rw [if_neg (by omega)] at hr1
          obtain ⟨y, rfl⟩ : ∃ y : Nat, n = Int.ofNat y := ⟨n.toNat, by simp; omega⟩
          have hy : y < N.length := by rw [needsM_length] at c3; simp at c3; omega
          have hyt : (Int.ofNat y).toNat = y := rfl
          rw [hyt] at hr1 hr2
          refine cSkip (kSeqN ?_)
          refine cSeq ?_   -- seq 16
          refine cSeq ?_
          refine cRegion ?_
          refine sLdAll A79 S79 rfl (by simp (disch := first | omega | (simp only [Array.size_push, Array.size_setIfInBounds]; done) | (simp only [Array.size_push, Array.size_setIfInBounds]; omega)) only [gP, gPn, gS, gSn, g3]; try rfl) rfl ?_
          refine sMv (v := nv _) rfl ?_
          refine sMv (v := nv y) rfl ?_
          obtain ⟨v32, m32, h32, rfl, k32⟩ := spec_may (hB0.ext hE) hN (x := x) (by omega) hy
          refine sCall3 rfl call95 rfl rfl rfl h32 ?_
          refine sP (v := .bool (!mayM (needsM N) x y)) rfl ?_
          refine sNil (kSeqN ?_)
          refine cCond (p := mayM (needsM N) x y = false) (by show Value.bool _ = Value.bool _; cases mayM (needsM N) x y <;> rfl) (fun c4 => ?_) (fun c4 => ?_)
          ·
            refine cSeq ?_
            refine cRegion ?_
            refine sAs (v := .slice _ _ _) rfl ?_
            refine sAs (v := nv 15) rfl ?_
            refine sNil (kSeqN ?_)
            refine cRet (kSeqR (kBlkR (kSeqR (kSeqR (kBlkR (kSeqR ?_))))))
            exact ⟨.inr rfl, _, rfl, _, by rw [hr1, c4]; rfl, by rw [hr1, c4]; exact .nil _ _, hE.trans k32⟩
          ·
            have c4' : mayM (needsM N) x y = true := by simpa using c4
            rw [c4', if_pos rfl] at hr1
            have h2y : 2 ^ y < 2 ^ 10 := Nat.pow_lt_pow_right (by omega) (by omega)
            have hxy : x ^^^ 2 ^ y < 2 ^ 10 := Nat.xor_lt_two_pow hx h2y
            refine cSkip (kSeqN ?_)
            refine cSeq ?_
            refine cRegion ?_
            refine sMv (v := nv _) rfl ?_
            refine sMv (v := nv y) rfl ?_
            refine sBin (a := 1) (b := y) rfl rfl (aInt_shl (by omega)) ?_
            rw [Nat.shiftLeft_eq, Nat.one_mul]
            refine sBin rfl rfl (aInt_xor (by omega)) ?_
            refine sAs (v := nv _) rfl ?_
            refine sNil (kSeqN ?_)
            refine cRegion ?_
            refine sMv (v := .slice _ _ _) rfl ?_
            refine sMv (v := nv _) rfl ?_
            refine sBuildS T25 S3 Z3 (by decide) (by decide) (by decide) (by kernel_rfl) fill1 rfl ?_
            refine sApp App25 rfl rfl (N := m.size + 1) ((hO.ext k32).ext (.push _ _)) one_ints (by have := k32.1; have := hLo.1; simp at *; omega) (by rw [ofs_length]; simp; omega) fun v3 m3 hO3 hL3 => ?_
            have hI3 := hO3.ints
            obtain ⟨q3, cp3, rfl⟩ := hI3.len
            refine sAs (v := .slice _ _ _) rfl ?_
            refine sNil (kBlkN (kSeqN ?_))
            refine cRegion ?_
            refine sBin rfl rfl (aInt_add (b := 1) (by omega)) ?_
            refine sMv (v := nv _) rfl ?_
            refine sNil (kSeqN ?_)
            refine ⟨_, ?_, i + 1, x ^^^ 2 ^ y, L ++ [x ^^^ 2 ^ y], _, rfl, by omega, hr1, by rw [hr2, List.append_assoc]; rfl, by simp; omega, hxy, hLo.trans ((Low.of_ext k32 (by have := hLo.1; simp at this; omega)).trans ((Low.push _ (by have := k32.1; have := hLo.1; simp at *; omega) _).trans hL3)), by rw [ofs_append]; exact hO3, rfl, rfl, rfl, rfl, rfl, rfl, trivial⟩
            omega
    ·
      refine cExit (kSeqE (kSeqE (kBlkS (kSeqN ?_))))
      refine cSeq ?_
      refine cRegion ?_
      refine sMv (v := .slice _ _ _) rfl ?_
      refine sAs (v := .slice _ _ _) rfl ?_
      refine sAs (v := nv 0) rfl ?_
      refine sNil (kSeqN ?_)
      refine cRet ?_
      obtain rfl : i = l.length := by omega
      rw [List.drop_length] at hr1 hr2
      have hz : playE (needsM N) 0 l = 0 := hr1
      rw [playL, List.append_nil] at hr2
      exact ⟨.inr rfl, _, rfl, _, by rw [hz]; rfl, by rw [hz, ifOk_0 rfl, hr2]; exact hO.mono (by omega), hE⟩

end Go.AM

/-! ### M22 -/
namespace Go.AM
set_option linter.unusedVariables false
set_option linter.unusedSimpArgs false
def neededG (G : List (List Int)) (gs : List Int) : List Nat := nodesM (neededM (natsG G) (nats gs))
def reachesE (G : List (List Int)) (gs l : List Int) : Nat := if withE G gs = 0 then playedE (needsM (natsG G)) l else withE G gs
def reachesB (G : List (List Int)) (gs l : List Int) : Bool := decide (reachesE G gs l = 0 ∧ (playedL l).getLastD 0 = posM (nats gs))
/-- The nodes of one position that are not in another one. -/
def offM (x y : Nat) : Nat := x &&& (x ^^^ y)
def plainM (G : List (List Int)) (gs : List Int) : List Nat := neededG G gs ++ ((neededG G gs).filter fun i => !decide (i ∈ nats gs)).reverse
theorem nodesM_len (x : Nat) : (nodesM x).length ≤ 10 := nodesUp_len x 10
def benF : Nat → Nat → Nat → List Nat
  | 0, _, _ => []
  | f + 1, a, m => if m = 1 then [a] else benF f a ((m + 1) / 2) ++ (benF f (a + (m + 1) / 2) (m - (m + 1) / 2) ++ (benF f a ((m + 1) / 2)).reverse)
def benM (n : Nat) : List Nat := benF 10 0 n
theorem benF_len : ∀ (f a m : Nat), (benF f a m).length ≤ 3 ^ f
  | 0, _, _ => by simp [benF]
  | f + 1, a, m => by
    rw [benF]
    split
    · have := Nat.pow_pos (n := f + 1) (show 0 < 3 by decide); simp; omega
    · have h1 := benF_len f a ((m + 1) / 2)
      have h2 := benF_len f (a + (m + 1) / 2) (m - (m + 1) / 2)
      simp only [List.length_append, List.length_reverse]
      rw [Nat.pow_succ]; omega
def benE (n : Int) : Nat := if n < 1 ∨ 10 < n then 2 else 0
end Go.AM

/-! ### P7 -/
namespace Go.AM
open Go.Proofs
set_option maxRecDepth 100000
set_option linter.unusedVariables false
set_option linter.unusedSimpArgs false
theorem aInt_andNot {a b : Nat} (h : a < 9223372036854775808 ∧ b < 9223372036854775808) : aInt .andNot .i64 (Int.ofNat a) (Int.ofNat b) = some (nv (offM a b)) := by
  have e : (BitVec.ofInt 64 (Int.ofNat a) &&& ~~~ BitVec.ofInt 64 (Int.ofNat b)).toNat = offM a b := by
    apply Nat.eq_of_testBit_eq
    intro i
    rw [BitVec.testBit_toNat, BitVec.getLsbD_and, BitVec.getLsbD_not, ← BitVec.testBit_toNat, ← BitVec.testBit_toNat, bvN h.1, bvN h.2, offM, Nat.testBit_and, Nat.testBit_xor]
    by_cases hi : i < 64
    · rw [decide_eq_true hi]; cases a.testBit i <;> cases b.testBit i <;> rfl
    · rw [Nat.testBit_lt_two_pow (Nat.lt_of_lt_of_le h.1 (Nat.pow_le_pow_right (n := 2) (by decide) (show 63 ≤ i by omega)))]; rfl
  have hl : offM a b < 9223372036854775808 := Nat.lt_of_le_of_lt Nat.and_le_left h.1
  show some (Value.int .i64 (IntKind.i64.wrap (BitVec.ofInt 64 (Int.ofNat a) &&& ~~~ BitVec.ofInt 64 (Int.ofNat b)).toNat)) = _
  rw [e]
  exact congrArg (fun z => some (Value.int .i64 z)) (wrapN hl)
section
variable {P : Program} {n : Nat} {ρ : Env} {m m' : Mem} {K : Env → Mem → Prop} {ops : Array Oper} {l : List Oper}
  {d : Option Nat} {i : Nat} {op : Op} {ty t xt e : TypeId} {pos : String} {af : Array Edge} {v : Value} {x y : Operand}
/-- All of a list is copied to new cells. -/
theorem sCopyN {b : Nat} {w : Value} {L : List Nat} {c : Array Value} (ht : undOf P t = some (.slice e)) (hs : szOf P e = some 1) (hx : evR ρ x = .slice (some ⟨b, 0, some 1⟩) L.length L.length) (hb : Mem.get m b = .cells true c) (hc : c.size = L.length) (hy : evR ρ y = w) (hw : IntsAt m w (ofs L))
    (hk : ∀ m', Mem.get m' b = .cells true (cellsN L) → Only b m m' → wpOps P ops K l (updO ρ d (nv L.length)) m') : wpOps P ops K (⟨d, .call ⟨.builtin .copy, ⟨[x, y]⟩, ⟨[t, xt]⟩⟩, ty, pos, af, none⟩ :: l) ρ m := by
  have hl := hw.lenOf
  have hf := first_ints hw
  rw [ofs_length] at hl hf
  by_cases h0 : L.length = 0
  · obtain rfl := List.length_eq_zero_iff.1 h0
    obtain rfl : c = #[] := Array.eq_empty_of_size_eq_zero hc
    refine sO (v := nv 0) (opF_eff rfl rfl ?_) (hk m hb (.refl _ _))
    simp only [aEff, hx, hy, aCopy, ht, hs, hl]; rfl
  · have hci : cellsI (ofs L) = cellsN L := by
      apply Array.ext_getElem?
      intro i
      rw [cellsI_get]
      simp only [ofs, cellsN, List.getElem?_map, Option.map_map, List.getElem?_toArray]; rfl
    rw [hci] at hf
    refine sO (v := nv L.length) (opF_eff rfl rfl ?_) (hk (m.setIfInBounds b (.cells true (cellsN L))) (gS rfl (live hb)) (.set _ _ _))
    simp only [aEff, hx, hy, aCopy, ht, hs, hl, Nat.min_self, if_true, if_neg h0, hf, hb]
    have h1 : (cellsN L).all Value.oneCell' = true := by
      rw [← hci]; exact cellsI_one _
    rw [if_pos ⟨by simp [hc], h1⟩, lay_all _ _ (by simp [hc])]; rfl
end

theorem okf74 : okF Tryd.prog H0 74 13 = true := by kernel_rfl
theorem spec_turned {m : Mem} {a : Value} {l : List Nat} (ha : IntsAt m a (ofs l)) (hl : l.length < 1000000) : ∃ v m', ACalls Tryd.prog 74 #[a] m v m' ∧ (OwnF m.size m' v (ofs l.reverse) ∧ Ext m m') := by
  obtain ⟨q, cap, rfl⟩ := ha.lenN
  refine wpF (args := [_]) mixed okf74 (fn := Tryd.f74) rfl rfl rfl (by simp) ?_
  refine cSeq ?_
  refine cRegion ?_
  refine sAs (v := .slice _ _ _) rfl ?_
  refine sNil (kSeqN ?_)
  refine cSeq ?_
  refine cRegion ?_
  refine sMv (v := .slice _ _ _) rfl ?_
  refine sLen T25 rfl ?_
  refine sMkN T25 S3 Z3 bytes3 rfl rfl (by omega) ?_
  refine sAs (v := .slice _ _ _) rfl ?_
  refine sNil (kSeqN ?_)
  refine cSeq ?_
  refine cRegion ?_
  refine sMv (v := .slice _ _ _) rfl ?_
  refine sMv (v := .slice _ _ _) rfl ?_
  refine sCopyN (L := l) T25 S3 rfl (gP rfl) (by simp) rfl (ha.ext (.push _ _)) fun m2 g2 o2 => ?_
  refine sNil (kSeqN ?_)
  refine cSeq ?_
  refine cRegion ?_
  refine sMv (v := .slice _ _ _) rfl ?_
  obtain ⟨v11, m11, h11, rfl, g11, k11, z11⟩ := spec_Reverse (m := m2) (b := m.size) (n := l.length) (L := l) g2 (Nat.le_refl _) hl
  refine sCall1 rfl call88 rfl h11 ?_
  refine sNil (kSeqN ?_)
  refine cSeq ?_
  refine cRegion ?_
  refine sMv (v := .slice _ _ _) rfl ?_
  refine sAs (v := .slice _ _ _) rfl ?_
  refine sNil (kSeqN ?_)
  refine cRet ?_
  rw [List.take_length, List.drop_length, List.append_nil] at g11
  refine ⟨.inr rfl, _, rfl, ?_, ?_, fun b hb => ?_⟩
  · have := OwnF.ofCells (N := m.size) (l := l.reverse) (r := []) (Nat.le_refl _) (by rw [List.append_nil]; exact g11)
    rw [List.append_nil, List.length_reverse] at this; exact this
  · rw [z11, o2.1]; simp
  · rw [k11.2 b (by rw [o2.1]; simp; omega) (by omega), o2.2 b (by omega), gPn hb]

theorem okf36 : okF Tryd.prog H0 36 21 = true := by kernel_rfl
theorem spec_Needed {m : Mem} {s a : Value} {G : List (List Int)} {gs : List Int} (hG : RowsAt m s G) (ha : IntsAt m a gs) (hl : gs.length < 1000000) : ∃ v m', ACalls Tryd.prog 36 #[.agg #[s], a] m v m' ∧ (∃ w, v = .tuple #[w, nv (withE G gs)] ∧ OwnF m.size m' w (ofs (ifOk (withE G gs) (neededG G gs) [])) ∧ Ext m m') := by
  obtain ⟨q, cap, rfl⟩ := hG.len
  obtain ⟨qg, cg, rfl⟩ := ha.len
  refine wpF (args := [_, _]) mixed okf36 (fn := Tryd.f36) rfl rfl rfl (by simp) ?_
  refine cSeq ?_
  refine cRegion ?_
  refine sBox (v := .agg _) rfl ?_
  refine sAs (v := .slice _ _ _) rfl ?_
  refine sAs (v := nv 0) rfl ?_
  refine sNil (kSeqN ?_)
  refine cSeq ?_
  refine cRegion ?_
  refine sLdAll A24 S24 rfl (by simp (disch := first | omega | (simp only [Array.size_push, Array.size_setIfInBounds]; done) | (simp only [Array.size_push, Array.size_setIfInBounds]; omega)) only [gP, gPn, gS, gSn]; try rfl) rfl ?_
  refine sMv (v := .slice _ _ _) rfl ?_
  obtain ⟨v11, m11, h11, vs, rfl, hv1, hv2, hv3, k11⟩ := spec_with (hG.ext (.push _ (.cells true #[.slice q G.length cap]))) (ha.ext (.push _ _)) (by omega)
  have e11 := (Ext.push m (.cells true #[.slice q G.length cap])).trans k11
  refine sCall2 rfl call62 rfl rfl h11 ?_
  refine sMv (v := .tuple _) rfl ?_
  refine sP (v := .agg _) rfl ?_   -- extract ['t8', '0']
  refine sP (v := nv _) rfl ?_   -- extract ['t8', '1']
  refine sAlloc Z79 (by kernel_rfl) ?_
  refine sStNA S79 rfl rfl rfl hv1 hv2 ?_
  refine sAs (v := nv _) rfl ?_
  refine sNil (kSeqN ?_)
  refine cSeq ?_   -- seq 2
  refine cSeq ?_
  refine cRegion ?_
  refine sMv (v := nv _) rfl ?_
  refine sBin (a := withE G gs) rfl rfl (aInt_neq (b := 0)) ?_
  refine sNil (kSeqN ?_)
  refine cCond rfl (fun c0 => ?_) (fun c0 => ?_)
  ·
    refine cSeq ?_
    refine cRegion ?_
    refine sMv (v := nv _) rfl ?_
    refine sAs (v := .slice _ _ _) rfl ?_
    refine sAs (v := nv _) rfl ?_
    refine sNil (kSeqN ?_)
    refine cRet (kSeqR ?_)
    exact ⟨.inr rfl, _, rfl, _, rfl, by rw [ifOk_n c0]; exact .nil _ _, e11.trans (.push _ _)⟩
  ·
    have h0 := Decidable.not_not.1 c0
    obtain ⟨N, g, rfl, hN, rfl, hg⟩ := withE_nat h0
    have hE := e11.trans (.push m11 (.cells true vs))
    have hB := (hv3 h0 N rfl).at ((hG.ext e11))
    refine cSkip (kSeqN ?_)
    refine cSeq ?_
    refine cRegion ?_
    refine sLdAll A79 S79 rfl (by simp (disch := first | omega | (simp only [Array.size_push, Array.size_setIfInBounds]; done) | (simp only [Array.size_push, Array.size_setIfInBounds]; omega)) only [gP, gPn, gS, gSn]; try rfl) hv1 ?_
    refine sMv (v := .slice _ _ _) rfl ?_
    obtain ⟨v19, m19, h19, rfl, k19⟩ := spec_needed (hB.ext (.push m11 (.cells true vs))) hN (ha.ext hE) hg (by rw [ofs_length] at hl; exact hl)
    refine sCall2 rfl call77 rfl rfl h19 ?_
    have hlt : neededM N g < 2 ^ 10 := neededF_lt (fun x hx => hN.needs_lt' hx) _ _ (posM_lt fun k hk => Nat.lt_of_lt_of_le (hg.lt k hk) hN.ten)
    obtain ⟨v20, m20, h20, o20, k20⟩ := spec_nodes (m := m19) (x := neededM N g) (by omega)
    refine sCall1 rfl call76 rfl h20 ?_
    obtain ⟨q20, c20, rfl⟩ := o20.ints.lenN
    refine sAs (v := .slice _ _ _) rfl ?_
    refine sAs (v := nv 0) rfl ?_
    refine sNil (kSeqN ?_)
    refine cRet ?_
    have hE2 := (hE.trans k19)
    refine ⟨.inr rfl, _, rfl, _, by rw [h0]; rfl, ?_, hE2.trans k20⟩
    rw [ifOk_0 h0, neededG, natsG_ofs2, nats_ofs]
    exact o20.mono hE2.1

theorem okf42 : okF Tryd.prog H0 42 21 = true := by kernel_rfl
theorem spec_Play {m : Mem} {s a : Value} {G : List (List Int)} {l : List Int} (hG : RowsAt m s G) (ha : IntsAt m a l) : ∃ v m', ACalls Tryd.prog 42 #[.agg #[s], a] m v m' ∧ (∃ w, v = .tuple #[w, nv (gPlayE G l)] ∧ OwnF m.size m' w (ofs (ifOk (gPlayE G l) (playedL l) [])) ∧ Ext m m') := by
  obtain ⟨q, cap, rfl⟩ := hG.len
  obtain ⟨qg, cg, rfl⟩ := ha.len
  unfold gPlayE
  refine wpF (args := [_, _]) mixed okf42 (fn := Tryd.f42) rfl rfl rfl (by simp) ?_
  refine cSeq ?_
  refine cRegion ?_
  refine sBox (v := .agg _) rfl ?_
  refine sAs (v := .slice _ _ _) rfl ?_
  refine sAs (v := nv 0) rfl ?_
  refine sNil (kSeqN ?_)
  refine cSeq ?_
  refine cRegion ?_
  refine sLdAll A24 S24 rfl (by simp (disch := first | omega | (simp only [Array.size_push, Array.size_setIfInBounds]; done) | (simp only [Array.size_push, Array.size_setIfInBounds]; omega)) only [gP, gPn, gS, gSn]; try rfl) rfl ?_
  obtain ⟨v11, m11, h11, vs, rfl, hv1, hv2, hv3, k11⟩ := spec_opened (hG.ext (.push _ (.cells true #[.slice q G.length cap])))
  have e11 := (Ext.push m (.cells true #[.slice q G.length cap])).trans k11
  refine sCall1 rfl call66 rfl h11 ?_
  refine sMv (v := .tuple _) rfl ?_
  refine sP (v := .agg _) rfl ?_   -- extract ['t8', '0']
  refine sP (v := nv _) rfl ?_   -- extract ['t8', '1']
  refine sAlloc Z79 (by kernel_rfl) ?_
  refine sStNA S79 rfl rfl rfl hv1 hv2 ?_
  refine sAs (v := nv _) rfl ?_
  refine sNil (kSeqN ?_)
  refine cSeq ?_   -- seq 2
  refine cSeq ?_
  refine cRegion ?_
  refine sMv (v := nv _) rfl ?_
  refine sBin (a := checkG G) rfl rfl (aInt_neq (b := 0)) ?_
  refine sNil (kSeqN ?_)
  refine cCond rfl (fun c0 => ?_) (fun c0 => ?_)
  ·
    refine cSeq ?_
    refine cRegion ?_
    refine sMv (v := nv _) rfl ?_
    refine sAs (v := .slice _ _ _) rfl ?_
    refine sAs (v := nv _) rfl ?_
    refine sNil (kSeqN ?_)
    refine cRet (kSeqR ?_)
    exact ⟨.inr rfl, _, rfl, _, by rw [if_neg c0]; rfl, by rw [if_neg c0, ifOk_n c0]; exact .nil _ _, e11.trans (.push _ _)⟩
  ·
    have h0 := Decidable.not_not.1 c0
    obtain ⟨N, rfl, hN⟩ := checkG_nat h0
    have hE := e11.trans (.push m11 (.cells true vs))
    have hB := (hv3 h0 N rfl).at ((hG.ext e11))
    rw [if_pos h0, natsG_ofs2]
    refine cSkip (kSeqN ?_)
    refine cSeq ?_
    refine cRegion ?_
    refine sLdAll A79 S79 rfl (by simp (disch := first | omega | (simp only [Array.size_push, Array.size_setIfInBounds]; done) | (simp only [Array.size_push, Array.size_setIfInBounds]; omega)) only [gP, gPn, gS, gSn]; try rfl) hv1 ?_
    refine sMv (v := .slice _ _ _) rfl ?_
    obtain ⟨v18, m18, h18, w18, rfl, o18, k18⟩ := spec_played (hB.ext (.push m11 (.cells true vs))) hN (ha.ext hE)
    refine sCall2 rfl call78 rfl rfl h18 ?_
    obtain ⟨q18, c18, rfl⟩ := o18.ints.lenN
    refine sP (v := .slice _ _ _) rfl ?_   -- extract ['t18', '0']
    refine sP (v := nv _) rfl ?_   -- extract ['t18', '1']
    refine sAs (v := .slice _ _ _) rfl ?_
    refine sAs (v := nv _) rfl ?_
    refine sNil (kSeqN ?_)
    refine cRet ?_
    exact ⟨.inr rfl, _, rfl, _, rfl, o18.mono hE.1, hE.trans k18⟩

theorem okf44 : okF Tryd.prog H0 44 31 = true := by kernel_rfl
theorem spec_Most {m : Mem} {s a : Value} {G : List (List Int)} {l : List Int} (hG : RowsAt m s G) (ha : IntsAt m a l) : ∃ v m', ACalls Tryd.prog 44 #[.agg #[s], a] m v m' ∧ (v = .tuple #[nv (mostM (ifOk (gPlayE G l) (playedL l) [])), nv (gPlayE G l)] ∧ Ext m m') := by
  obtain ⟨q, cap, rfl⟩ := hG.len
  obtain ⟨qg, cg, rfl⟩ := ha.len
  have hlt : ∀ y ∈ ifOk (gPlayE G l) (playedL l) [], y < 1024 := by
    by_cases h : gPlayE G l = 0
    · rw [ifOk_0 h]
      unfold gPlayE at h
      split at h
      · rename_i h0
        obtain ⟨N, rfl, hN⟩ := checkG_nat h0
        exact playedL_lt (P := needsM (natsG (ofs2 N))) (by rw [natsG_ofs2, needsM_length]; exact hN.ten) h
      · rename_i h0; exact absurd h h0
    · rw [ifOk_n h]; simp
  have hlen : (ifOk (gPlayE G l) (playedL l) []).length ≤ 121 := by
    by_cases h : gPlayE G l = 0
    · rw [ifOk_0 h]
      unfold gPlayE at h
      split at h
      · unfold playedE at h
        split at h
        · cases h
        · rw [playedL, List.length_cons, playL_len]; omega
      · rename_i h0; exact absurd h h0
    · rw [ifOk_n h]; simp
  refine wpF (args := [_, _]) mixed okf44 (fn := Tryd.f44) rfl rfl rfl (by simp) ?_
  refine cSeq ?_
  refine cRegion ?_
  refine sBox (v := .agg _) rfl ?_
  refine sAs (v := nv 0) rfl ?_
  refine sAs (v := nv 0) rfl ?_
  refine sNil (kSeqN ?_)
  refine cSeq ?_
  refine cRegion ?_
  refine sLdAll A24 S24 rfl (by simp (disch := first | omega | (simp only [Array.size_push, Array.size_setIfInBounds]; done) | (simp only [Array.size_push, Array.size_setIfInBounds]; omega)) only [gP, gPn, gS, gSn]; try rfl) rfl ?_
  refine sMv (v := .slice _ _ _) rfl ?_
  obtain ⟨v14, m14, h14, w14, rfl, o14, k14⟩ := spec_Play (hG.ext (.push _ (.cells true #[.slice q G.length cap]))) (ha.ext (.push _ _))
  have e14 := (Ext.push m (.cells true #[.slice q G.length cap])).trans k14
  generalize hL : ifOk (gPlayE G l) (playedL l) [] = L at *
  have i14 := o14.ints
  obtain ⟨q14, c14, rfl⟩ := i14.lenN
  refine sCall2 rfl call42 rfl rfl h14 ?_
  refine sMv (v := .tuple _) rfl ?_
  refine sP (v := .slice _ _ _) rfl ?_   -- extract ['t11', '0']
  refine sP (v := nv _) rfl ?_   -- extract ['t11', '1']
  refine sAs (v := .slice _ _ _) rfl ?_
  refine sAs (v := nv _) rfl ?_
  refine sNil (kSeqN ?_)
  refine cSeq ?_
  refine cRegion ?_
  refine sAs (v := nv 0) rfl ?_
  refine sNil (kSeqN ?_)
  refine cSeq ?_
  refine cSeq ?_
  refine cRegion ?_
  refine sMv (v := .slice _ _ _) rfl ?_
  refine sLen T25 rfl ?_
  refine sMv (v := nv 0) rfl ?_
  refine sNil (kSeqN ?_)
  refine cBlock ?_
  refine wpC_loop (fun k ρ m' => ∃ i y, k = L.length - i ∧ i ≤ L.length ∧ mostM L = (L.drop i).foldl (fun a x => max a (popc x)) y ∧ y ≤ 1000 ∧ m14 = m' ∧ Has ρ [(7, nv (gPlayE G l)), (8, nv y), (17, .slice q14 L.length c14), (18, nv L.length), (19, nv i)]) ⟨0, 0, rfl, by omega, rfl, by omega, rfl, rfl, rfl, rfl, rfl, rfl, trivial⟩ ?_
  rintro k ρ _ ⟨i, y, rfl, hi, hr, hy, rfl, hh⟩
  rw [hh.env]; clear hh
  refine cSeq ?_
  refine cRegion ?_
  refine sBin rfl rfl (aInt_lss) ?_
  refine sNil (kSeqN ?_)
  refine cSeq ?_   -- seq 6
  refine cCond rfl (fun c0 => ?_) (fun c0 => ?_)
  ·
    obtain ⟨b1, o1, p1, r1, cc, e1, gg, x1⟩ := i14.atN (by omega)
    cases e1
    have hx := hlt L[i] (by simp)
    have hpo : popc L[i] ≤ 10 := popc_le_of_lt (by omega)
    refine cSkip (kSeqN ?_)
    refine cSeq ?_
    refine cBlock ?_
    refine cSeq ?_
    refine cRegion ?_
    refine sIx T25 S3 rfl rfl (by omega) ?_
    refine sLd (v := nv L[i]) A3 rfl gg (x1 i L[i] (by simp)) ?_
    refine sAs (v := nv _) rfl ?_
    refine sNil (kSeqN ?_)
    refine cRegion ?_
    refine sMv (v := nv _) rfl ?_
    refine sMv (v := nv _) rfl ?_
    refine sP (v := .int .u64 (Int.ofNat L[i])) (conv3_104 (by omega)) ?_
    obtain ⟨v26, m26, h26, rfl, k26⟩ := spec_OnesCount (m := m14) (x := L[i]) (by omega)
    rw [k26] at h26
    refine sCall1 rfl call79 rfl h26 ?_
    refine sP (v := nv (max y (popc L[i]))) maxN ?_
    refine sAs (v := nv _) rfl ?_
    refine sNil (kBlkN (kSeqN ?_))
    refine cRegion ?_
    refine sBin rfl rfl (aInt_add (b := 1) (by omega)) ?_
    refine sMv (v := nv _) rfl ?_
    refine sNil (kSeqN ?_)
    refine ⟨_, ?_, i + 1, max y (popc L[i]), rfl, by omega, by rw [hr, drop_cons c0]; rfl, by omega, rfl, rfl, rfl, rfl, rfl, rfl, trivial⟩
    omega
  ·
    refine cExit (kSeqE (kSeqE (kBlkS (kSeqN ?_))))
    refine cSeq ?_
    refine cRegion ?_
    refine sMv (v := nv _) rfl ?_
    refine sMv (v := nv _) rfl ?_
    refine sAs (v := nv _) rfl ?_
    refine sAs (v := nv _) rfl ?_
    refine sNil (kSeqN ?_)
    refine cRet ?_
    obtain rfl : i = L.length := by omega
    rw [List.drop_length] at hr
    exact ⟨.inr rfl, _, rfl, by rw [hr]; rfl, e14⟩

end Go.AM

/-! ### M23 -/
namespace Go.AM
set_option linter.unusedVariables false
set_option linter.unusedSimpArgs false
theorem offM_bit (x y i : Nat) : (offM x y).testBit i = (x.testBit i && !y.testBit i) := by
  rw [offM, Nat.testBit_and, Nat.testBit_xor]
  cases x.testBit i <;> cases y.testBit i <;> rfl
theorem nodesM_off (x : Nat) (g : List Nat) : nodesM (offM x (posM g)) = (nodesM x).filter fun i => !decide (i ∈ g) := by
  rw [nodesM, nodesM, nodesUp, nodesUp, List.filter_filter]
  refine List.filter_congr fun i _ => ?_
  rw [offM_bit, posM_bit, Bool.and_comm]
theorem offM_le (x y : Nat) : offM x y ≤ x := Nat.and_le_left
theorem playedL_last (l : List Int) : (playedL l)[(playedL l).length - 1]? = some ((playedL l).getLastD 0) := by
  rw [← List.getLast?_eq_getElem?, List.getLastD_eq_getLast?, playedL]
  simp [List.getLast?_cons]
def lineAt (n i : Nat) : List (List Nat) := (List.range n).map fun j => if 1 ≤ j ∧ j < i then [j - 1] else []
def lineM (n : Nat) : List (List Nat) := lineAt n n
def treeAt (n i : Nat) : List (List Nat) := (List.range (2 * n - 1)).map fun j => if n ≤ j ∧ j < n + i then [2 * (j - n), 2 * (j - n) + 1] else []
def treeM (n : Nat) : List (List Nat) := treeAt (2 ^ (n - 1)) (2 ^ (n - 1) - 1)
def treeE (n : Int) : Nat := if n < 1 ∨ 3 < n then 2 else 0
@[simp] theorem lineAt_length (n i : Nat) : (lineAt n i).length = n := by simp [lineAt]
@[simp] theorem treeAt_length (n i : Nat) : (treeAt n i).length = 2 * n - 1 := by simp [treeAt]
theorem lineAt_set {n i : Nat} (h : i < n) (h1 : 1 ≤ i) : lineAt n (i + 1) = (lineAt n i).set i [i - 1] := by
  refine List.ext_getElem? fun k => ?_
  rw [List.getElem?_set, lineAt_length]
  simp only [lineAt, List.getElem?_map, List.getElem?_range']
  by_cases hk : i = k
  · subst hk
    rw [if_pos rfl, if_pos h, List.getElem?_range h]
    simp only [Option.map_some]
    rw [if_pos ⟨h1, by omega⟩]
  · rw [if_neg hk]
    by_cases hn : k < n
    · rw [List.getElem?_range hn]
      simp only [Option.map_some]
      congr 1
      by_cases hc : 1 ≤ k ∧ k < i
      · rw [if_pos hc, if_pos (by omega)]
      · rw [if_neg hc, if_neg (by omega)]
    · rw [List.getElem?_eq_none (by simp; omega)]; rfl
theorem treeAt_set {n i : Nat} (h : n + i < 2 * n - 1) : treeAt n (i + 1) = (treeAt n i).set (n + i) [2 * i, 2 * i + 1] := by
  refine List.ext_getElem? fun k => ?_
  rw [List.getElem?_set, treeAt_length]
  simp only [treeAt, List.getElem?_map]
  by_cases hk : n + i = k
  · subst hk
    rw [if_pos rfl, if_pos h, List.getElem?_range h]
    simp only [Option.map_some]
    rw [if_pos ⟨by omega, by omega⟩, Nat.add_sub_cancel_left]
  · rw [if_neg hk]
    by_cases hn : k < 2 * n - 1
    · rw [List.getElem?_range hn]
      simp only [Option.map_some]
      congr 1
      by_cases hc : n ≤ k ∧ k < n + i
      · rw [if_pos hc, if_pos (by omega)]
      · rw [if_neg hc, if_neg (by omega)]
    · rw [List.getElem?_eq_none (by simp; omega)]; rfl
theorem lineAt_one (n : Nat) {j : Nat} {g : List Nat} (h : (lineAt n 1)[j]? = some g) : g = [] := by
  simp only [lineAt, List.getElem?_map, Option.map_eq_some_iff] at h
  obtain ⟨k, _, rfl⟩ := h
  rw [if_neg (by omega)]
theorem treeAt_zero (n : Nat) {j : Nat} {g : List Nat} (h : (treeAt n 0)[j]? = some g) : g = [] := by
  simp only [treeAt, List.getElem?_map, Option.map_eq_some_iff] at h
  obtain ⟨k, _, rfl⟩ := h
  rw [if_neg (by omega)]
end Go.AM

/-! ### P8 -/
namespace Go.AM
open Go.Proofs
set_option maxRecDepth 100000
set_option linter.unusedVariables false
set_option linter.unusedSimpArgs false
theorem fillS3 {q1 q2 q3 : Option Addr} {n1 n2 n3 c1 c2 c3 : Nat} : Instr.fill (fun i => some (i * 1, 1)) (if 3 * 1 = 0 then #[] else (Array.range (3 * 1)).map ((Value.slice none 0 0).cells[· % (Value.slice none 0 0).cells.size]!)) [(0, .slice q1 n1 c1), (1, .slice q2 n2 c2), (2, .slice q3 n3 c3)] = some #[.slice q1 n1 c1, .slice q2 n2 c2, .slice q3 n3 c3] := by kernel_rfl

def H46 : Nat → List (Nat × Nat) := fun id => if id = 5 then [(5,11),(8,11)] else []
theorem okf46 : okF Tryd.prog H46 46 40 = true := by kernel_rfl
theorem spec_Reaches {m : Mem} {s a b : Value} {G : List (List Int)} {gs l : List Int} (hG : RowsAt m s G) (ha : IntsAt m a gs) (hl : gs.length < 1000000) (hb : IntsAt m b l) : ∃ v m', ACalls Tryd.prog 46 #[.agg #[s], a, b] m v m' ∧ (v = .tuple #[.bool (reachesB G gs l), nv (reachesE G gs l)] ∧ Ext m m') := by
  obtain ⟨q, cap, rfl⟩ := hG.len
  obtain ⟨qg, cg, rfl⟩ := ha.len
  obtain ⟨ql, cl, rfl⟩ := hb.len
  refine wpF (args := [_, _, _]) mixed okf46 (fn := Tryd.f46) rfl rfl rfl (by simp) ?_
  refine cSeq ?_
  refine cRegion ?_
  refine sBox (v := .agg _) rfl ?_
  refine sAs (v := .bool _) rfl ?_
  refine sAs (v := nv 0) rfl ?_
  refine sNil (kSeqN ?_)
  refine cSeq ?_
  refine cRegion ?_
  refine sLdAll A24 S24 rfl (by simp (disch := first | omega | (simp only [Array.size_push, Array.size_setIfInBounds]; done) | (simp only [Array.size_push, Array.size_setIfInBounds]; omega)) only [gP, gPn, gS, gSn]; try rfl) rfl ?_
  refine sMv (v := .slice _ _ _) rfl ?_
  obtain ⟨v11, m11, h11, vs, rfl, hv1, hv2, hv3, k11⟩ := spec_with (hG.ext (.push _ (.cells true #[.slice q G.length cap]))) (ha.ext (.push _ _)) (by omega)
  have e11 := (Ext.push m (.cells true #[.slice q G.length cap])).trans k11
  refine sCall2 rfl call62 rfl rfl h11 ?_
  refine sMv (v := .tuple _) rfl ?_
  refine sP (v := .agg _) rfl ?_   -- extract ['t11', '0']
  refine sP (v := nv _) rfl ?_   -- extract ['t11', '1']
  refine sAlloc Z79 (by kernel_rfl) ?_
  refine sStNA S79 rfl rfl rfl hv1 hv2 ?_
  refine sAs (v := nv _) rfl ?_
  refine sNil (kSeqN ?_)
  refine cSeq ?_   -- seq 2
  refine cSeq ?_
  refine cRegion ?_
  refine sMv (v := nv _) rfl ?_
  refine sBin (a := withE G gs) rfl rfl (aInt_neq (b := 0)) ?_
  refine sNil (kSeqN ?_)
  refine cCond rfl (fun c0 => ?_) (fun c0 => ?_)
  ·
    refine cSeq ?_
    refine cRegion ?_
    refine sMv (v := nv _) rfl ?_
    refine sAs (v := .bool _) rfl ?_
    refine sAs (v := nv _) rfl ?_
    refine sNil (kSeqN ?_)
    refine cRet (kSeqR ?_)
    have hr : reachesE G gs l = withE G gs := by rw [reachesE, if_neg c0]
    exact ⟨.inr rfl, _, rfl, by rw [reachesB, hr, decide_eq_false (fun h => c0 h.1 : ¬ (withE G gs = 0 ∧ (playedL l).getLastD 0 = posM (nats gs)))]; rfl, e11.trans (.push _ _)⟩
  ·
    have h0 := Decidable.not_not.1 c0
    obtain ⟨N, g, rfl, hN, rfl, hg⟩ := withE_nat h0
    have hE := e11.trans (.push m11 (.cells true vs))
    have hB := (hv3 h0 N rfl).at ((hG.ext e11))
    have hr : reachesE (ofs2 N) (ofs g) l = playedE (needsM N) l := by rw [reachesE, if_pos h0, natsG_ofs2]
    rw [reachesB, hr, nats_ofs]
    refine cSkip (kSeqN ?_)
    refine cSeq ?_
    refine cRegion ?_
    refine sLdAll A79 S79 rfl (by simp (disch := first | omega | (simp only [Array.size_push, Array.size_setIfInBounds]; done) | (simp only [Array.size_push, Array.size_setIfInBounds]; omega)) only [gP, gPn, gS, gSn]; try rfl) hv1 ?_
    refine sMv (v := .slice _ _ _) rfl ?_
    obtain ⟨v23, m23, h23, w23, rfl, o23, k23⟩ := spec_played (hB.ext (.push m11 (.cells true vs))) hN (hb.ext hE)
    refine sCall2 rfl call78 rfl rfl h23 ?_
    have i23 := o23.ints
    obtain ⟨q23, c23, rfl⟩ := i23.lenN
    refine sMv (v := .tuple _) rfl ?_
    refine sP (v := .slice _ _ _) rfl ?_   -- extract ['t20', '0']
    refine sP (v := nv _) rfl ?_   -- extract ['t20', '1']
    refine sAs (v := .slice _ _ _) rfl ?_
    refine sAs (v := nv _) rfl ?_
    refine sNil (kSeqN ?_)
    refine cSeq ?_
    refine cDrawH (hs := [(5,11),(8,11)]) rfl (by decide) ?_
    refine lStepO (sMv (v := nv _) rfl (sNil fun e0 hm0 => ?_))
    refine lStepO (sBin (a := playedE (needsM N) l) rfl rfl (aInt_eql (b := 0)) (sNil fun e1 hm1 => ?_))
    refine lStepO (sMv (v := .bool _) rfl (sNil fun e2 hm2 => ?_))
    by_cases h1 : playedE (needsM N) l = 0
    ·
      rw [decide_eq_true h1]
      rw [ifOk_0 h1] at i23 ⊢
      have hplen : l.length ≤ 120 := by
        unfold playedE at h1
        split at h1
        · cases h1
        · omega
      refine lG rfl rfl ?_
      refine lStepO (sMv (v := .slice _ _ _) rfl (sNil fun e3 hm3 => ?_))
      refine lG rfl rfl ?_
      refine lStepO (sMv (v := .slice _ _ _) rfl (sNil fun e4 hm4 => ?_))
      refine lG rfl rfl ?_
      refine lStepLen T25 rfl fun e5 hm5 hv5 hr5 => ?_
      refine lG rfl rfl ?_
      obtain ⟨b1, o1, p1, r1, cc, e1', gg, x1⟩ := i23.atN (by simp [playedL])
      cases e1'
      refine lStepO (sBin (v := nv ((playedL l).length - 1)) rfl rfl (aInt_sub (b := 1) (by rw [playedL, List.length_cons, playL_len]; have := hplen; omega)) (sNil fun e6 hm6 => ?_))
      refine lG rfl rfl ?_
      refine lStepO (sIx T25 S3 rfl rfl (by rw [playedL, List.length_cons]; omega) (sNil fun e7 hm7 => ?_))
      refine lG rfl rfl ?_
      refine lStepLd (v := nv ((playedL l).getLastD 0)) A3 rfl gg (x1 _ _ (playedL_last l)) fun e8 hm8 hv8 hr8 => ?_
      refine lG rfl rfl ?_
      refine lStepO (sMv (v := .slice _ _ _) rfl (sNil fun e9 hm9 => ?_))
      refine lG rfl rfl ?_
      refine lStepO (sCall1 rfl call70 rfl (spec_position ((ha.ext hE).ext k23) (by rw [ofs_length] at hl; exact hl) fun x hx => by have := hg.lt x hx; have := hN.ten; omega) (sNil fun e10 hm10 => ?_))
      refine lG rfl rfl ?_
      refine lStepO (sBin (a := (playedL l).getLastD 0) (b := posM g) rfl rfl aInt_eql (sNil fun e11 hm11 => ?_))
      refine lStepO (sP (v := .bool _) rfl (sNil fun e12 hm12 => ?_))
      refine lStepO (sMv (v := nv _) rfl (sNil fun e13 hm13 => ?_))
      refine lStepO (sAs (v := .bool _) rfl (sNil fun e14 hm14 => ?_))
      refine lStepO (sAs (v := nv _) rfl (sNil fun e15 hm15 => ?_))
      refine ⟨?_, (kSeqN ?_)⟩
      ·
        refine obl_pure (e := e5) (by simp) (by rfl) (hr5.trans (congrArg some hv5.symm)) ?_
        refine obl_atE (e := e8) (e' := e11) (by simp) (by rfl) (by simp) ((hr8 e11.m _ _ (by rw [hm11]; exact gg) (x1 _ _ (playedL_last l))).trans (congrArg some hv8.symm)) ?_
        trivial
      refine cRet ?_
      exact ⟨.inr rfl, _, rfl, by rw [decide_eq_decide.2 (show _ ∧ _ ↔ (playedL l).getLastD 0 = posM g from ⟨fun h => h.2, fun h => ⟨h1, h⟩⟩), h1]; rfl, hE.trans k23⟩
    ·
      rw [decide_eq_false h1]
      refine lGno (q' := false) rfl rfl (by simp) fun e3 hm3 hq3 => ?_
      refine lGno (q' := false) rfl rfl (by simp) fun e4 hm4 hq4 => ?_
      refine lGno (q' := false) rfl rfl (by simp) fun e5 hm5 hq5 => ?_
      refine lGno (q' := false) rfl rfl (by simp) fun e6 hm6 hq6 => ?_
      refine lGno (q' := false) rfl rfl (by simp) fun e7 hm7 hq7 => ?_
      refine lGno (q' := false) rfl rfl (by simp) fun e8 hm8 hq8 => ?_
      refine lGno (q' := false) rfl rfl (by simp) fun e9 hm9 hq9 => ?_
      refine lGno (q' := false) rfl rfl (by simp) fun e10 hm10 hq10 => ?_
      refine lGno (q' := false) rfl rfl (by simp) fun e11 hm11 hq11 => ?_
      refine lStepO (sP (v := .bool _) rfl (sNil fun e12 hm12 => ?_))
      refine lStepO (sMv (v := nv _) rfl (sNil fun e13 hm13 => ?_))
      refine lStepO (sAs (v := .bool _) rfl (sNil fun e14 hm14 => ?_))
      refine lStepO (sAs (v := nv _) rfl (sNil fun e15 hm15 => ?_))
      refine ⟨?_, (kSeqN ?_)⟩
      ·
        refine obl_no (e := e5) (by simp) (by rfl) rfl rfl hq5 (by simp) ?_
        refine obl_no (e := e8) (by simp) (by rfl) rfl rfl hq8 (by simp) ?_
        trivial
      refine cRet ?_
      exact ⟨.inr rfl, _, rfl, by rw [decide_eq_false (fun h => h1 h.1 : ¬ (playedE (needsM N) l = 0 ∧ (playedL l).getLastD 0 = posM g))]; rfl, hE.trans k23⟩

theorem okf38 : okF Tryd.prog H0 38 30 = true := by kernel_rfl
theorem spec_Plain {m : Mem} {s a : Value} {G : List (List Int)} {gs : List Int} (hG : RowsAt m s G) (ha : IntsAt m a gs) (hl : gs.length < 1000000) : ∃ v m', ACalls Tryd.prog 38 #[.agg #[s], a] m v m' ∧ (∃ w, v = .tuple #[w, nv (withE G gs)] ∧ OwnF m.size m' w (ofs (ifOk (withE G gs) (plainM G gs) [])) ∧ Ext m m') := by
  obtain ⟨q, cap, rfl⟩ := hG.len
  obtain ⟨qg, cg, rfl⟩ := ha.len
  refine wpF (args := [_, _]) mixed okf38 (fn := Tryd.f38) rfl rfl rfl (by simp) ?_
  refine cSeq ?_
  refine cRegion ?_
  refine sBox (v := .agg _) rfl ?_
  refine sAs (v := .slice _ _ _) rfl ?_
  refine sAs (v := nv 0) rfl ?_
  refine sNil (kSeqN ?_)
  refine cSeq ?_
  refine cRegion ?_
  refine sLdAll A24 S24 rfl (by simp (disch := first | omega | (simp only [Array.size_push, Array.size_setIfInBounds]; done) | (simp only [Array.size_push, Array.size_setIfInBounds]; omega)) only [gP, gPn, gS, gSn]; try rfl) rfl ?_
  refine sMv (v := .slice _ _ _) rfl ?_
  obtain ⟨v11, m11, h11, vs, rfl, hv1, hv2, hv3, k11⟩ := spec_with (hG.ext (.push _ (.cells true #[.slice q G.length cap]))) (ha.ext (.push _ _)) (by omega)
  have e11 := (Ext.push m (.cells true #[.slice q G.length cap])).trans k11
  refine sCall2 rfl call62 rfl rfl h11 ?_
  refine sMv (v := .tuple _) rfl ?_
  refine sP (v := .agg _) rfl ?_   -- extract ['t9', '0']
  refine sP (v := nv _) rfl ?_   -- extract ['t9', '1']
  refine sAlloc Z79 (by kernel_rfl) ?_
  refine sStNA S79 rfl rfl rfl hv1 hv2 ?_
  refine sAs (v := nv _) rfl ?_
  refine sNil (kSeqN ?_)
  refine cSeq ?_   -- seq 2
  refine cSeq ?_
  refine cRegion ?_
  refine sMv (v := nv _) rfl ?_
  refine sBin (a := withE G gs) rfl rfl (aInt_neq (b := 0)) ?_
  refine sNil (kSeqN ?_)
  refine cCond rfl (fun c0 => ?_) (fun c0 => ?_)
  ·
    refine cSeq ?_
    refine cRegion ?_
    refine sMv (v := nv _) rfl ?_
    refine sAs (v := .slice _ _ _) rfl ?_
    refine sAs (v := nv _) rfl ?_
    refine sNil (kSeqN ?_)
    refine cRet (kSeqR ?_)
    exact ⟨.inr rfl, _, rfl, _, rfl, by rw [ifOk_n c0]; exact .nil _ _, e11.trans (.push _ _)⟩
  ·
    have h0 := Decidable.not_not.1 c0
    obtain ⟨N, g, rfl, hN, rfl, hg⟩ := withE_nat h0
    have hE := e11.trans (.push m11 (.cells true vs))
    have hB := (hv3 h0 N rfl).at ((hG.ext e11))
    rw [ofs_length] at hl
    refine cSkip (kSeqN ?_)
    refine cSeq ?_
    refine cRegion ?_
    refine sLdAll A79 S79 rfl (by simp (disch := first | omega | (simp only [Array.size_push, Array.size_setIfInBounds]; done) | (simp only [Array.size_push, Array.size_setIfInBounds]; omega)) only [gP, gPn, gS, gSn]; try rfl) hv1 ?_
    refine sMv (v := .slice _ _ _) rfl ?_
    obtain ⟨v19, m19, h19, rfl, k19⟩ := spec_needed (hB.ext (.push m11 (.cells true vs))) hN (ha.ext hE) hg hl
    refine sCall2 rfl call77 rfl rfl h19 ?_
    have hlt : neededM N g < 2 ^ 10 := neededF_lt (fun x hx => hN.needs_lt' hx) _ _ (posM_lt fun k hk => Nat.lt_of_lt_of_le (hg.lt k hk) hN.ten)
    have hpl : posM g < 2 ^ 10 := posM_lt fun k hk => Nat.lt_of_lt_of_le (hg.lt k hk) hN.ten
    have hol := offM_le (neededM N g) (posM g)
    refine sAs (v := nv _) rfl ?_
    refine sNil (kSeqN ?_)
    refine cSeq ?_
    refine cRegion ?_
    refine sMv (v := nv _) rfl ?_
    obtain ⟨v22, m22, h22, o22, k22⟩ := spec_nodes (m := m19) (x := neededM N g) (by omega)
    refine sCall1 rfl call76 rfl h22 ?_
    obtain ⟨q22, c22, rfl⟩ := o22.ints.lenN
    refine sMv (v := nv _) rfl ?_
    refine sMv (v := .slice _ _ _) rfl ?_
    refine sCall1 rfl call70 rfl (spec_position (((ha.ext hE).ext k19).ext k22) hl fun x hx => by have := hg.lt x hx; have := hN.ten; omega) ?_
    refine sBin (a := neededM N g) (b := posM g) rfl rfl (aInt_andNot ⟨by omega, by omega⟩) ?_
    obtain ⟨v27, m27, h27, o27, k27⟩ := spec_nodes (m := m22) (x := offM (neededM N g) (posM g)) (by omega)
    have i27 := o27.ints
    obtain ⟨q27, c27, rfl⟩ := i27.lenN
    refine sCall1 rfl call76 rfl h27 ?_
    have hn1 := nodesM_len (neededM N g)
    have hn2 := nodesM_len (offM (neededM N g) (posM g))
    obtain ⟨v28, m28, h28, o28, k28⟩ := spec_turned i27 (by omega)
    have i28 := o28.ints
    obtain ⟨q28, c28, rfl⟩ := i28.lenN
    refine sCall1 rfl call74 rfl h28 ?_
    refine sApp App25 rfl rfl (N := m19.size) (o22.ext (k27.trans k28)) i28 (by have := k22.1; have := (k27.trans k28).1; omega) (by simp; omega) fun v3 m3 hO3 hL3 => ?_
    have hI3 := hO3.ints
    obtain ⟨q3, cp3, rfl⟩ := hI3.len
    refine sAs (v := .slice _ _ _) rfl ?_
    refine sAs (v := nv 0) rfl ?_
    refine sNil (kSeqN ?_)
    refine cRet ?_
    have hE2 := hE.trans k19
    have hpm : plainM (ofs2 N) (ofs g) = nodesM (neededM N g) ++ (nodesM (offM (neededM N g) (posM g))).reverse := by
      rw [plainM, neededG, natsG_ofs2, nats_ofs, nodesM_off]
    refine ⟨.inr rfl, _, rfl, _, by rw [h0]; rfl, ?_, Low.to_ext (hE2.trans (k22.trans (k27.trans k28))) hL3 hE2.1⟩
    rw [ifOk_0 h0, hpm, ofs_append]
    exact hO3.mono hE2.1

end Go.AM

/-! ### P9 -/
namespace Go.AM
open Go.Proofs
set_option maxRecDepth 100000
set_option linter.unusedVariables false
set_option linter.unusedSimpArgs false
theorem B24_0 : aBuild Tryd.prog 24 [] = some (.agg #[.slice none 0 0]) := by kernel_rfl
theorem B24_1 {q : Option Addr} {n c : Nat} : aBuild Tryd.prog 24 [(0, .slice q n c)] = some (.agg #[.slice q n c]) := by kernel_rfl
theorem bytes25 : bytesOf' Tryd.prog 25 = some 24 := by kernel_rfl
theorem fill2n {a b : Int} : Instr.fill (fun i => some (i * 1, 1)) (if 2 * 1 = 0 then #[] else (Array.range (2 * 1)).map ((nv 0).cells[· % (nv 0).cells.size]!)) [(0, .int .i64 a), (1, .int .i64 b)] = some #[.int .i64 a, .int .i64 b] := by kernel_rfl

theorem okf73 : okF Tryd.prog H0 73 32 = true := by kernel_rfl
theorem spec_game {c : Nat} : ∀ (f : Nat) {n a : Nat} {m : Mem}, 1 ≤ n → n ≤ f → f ≤ 10 → a ≤ 1000 * (11 - f) → Mem.get m c = .cells true #[.func (.func 73) #[] #[.pointer (some ⟨c, 0, none⟩)]] → ∃ v m', ACalls Tryd.prog 73 #[nv a, nv n, .pointer (some ⟨c, 0, none⟩)] m v m' ∧ (OwnF m.size m' v (ofs (benF f a n)) ∧ Ext m m')
 | 0, _, _, _, h1, h2, _, _, _ => absurd (Nat.le_trans h1 h2) (by omega)
 | f + 1, n, a, m, h1, h2, h3, h4, hc => by
  have hbl : ∀ a' n', (benF f a' n').length ≤ 19683 := fun a' n' => Nat.le_trans (benF_len f a' n') (Nat.le_trans (Nat.pow_le_pow_right (n := 3) (by omega) (show f ≤ 9 by omega)) (by decide))
  refine wpF (args := [_, _, _]) mixed okf73 (fn := Tryd.f73) rfl rfl rfl (by simp) ?_
  refine cSeq ?_
  refine cRegion ?_
  refine sAs (v := .slice _ _ _) rfl ?_
  refine sNil (kSeqN ?_)
  refine cSeq ?_   -- seq 1
  refine cSeq ?_
  refine cRegion ?_
  refine sMv (v := nv _) rfl ?_
  refine sBin (b := 1) rfl rfl aInt_eql ?_
  refine sNil (kSeqN ?_)
  refine cCond rfl (fun c0 => ?_) (fun c0 => ?_)
  ·
    refine cSeq ?_
    refine cRegion ?_
    refine sMv (v := nv _) rfl ?_
    refine sBuildS T25 S3 Z3 (by decide) (by decide) (by decide) (by kernel_rfl) fill1 rfl ?_
    refine sAs (v := .slice _ _ _) rfl ?_
    refine sNil (kSeqN ?_)
    refine cRet (kSeqR ?_)
    refine ⟨.inr rfl, _, rfl, ?_, .push _ _⟩
    rw [benF, if_pos c0]
    exact .ofCells (l := [a]) (r := []) (Nat.le_refl _) (gP rfl)
  ·
    have hh1 : (n + 1) / 2 ≤ f := by omega
    have hh2 : 1 ≤ (n + 1) / 2 := by omega
    have hh3 : 1 ≤ n - (n + 1) / 2 := by omega
    generalize hhd : (n + 1) / 2 = h at *
    refine cSkip (kSeqN ?_)
    refine cSeq ?_
    refine cRegion ?_
    refine sMv (v := nv _) rfl ?_
    refine sBin (b := 1) rfl rfl (aInt_add (by omega)) ?_
    refine sBin (v := nv h) (a := n + 1) (b := 2) rfl rfl (by rw [← hhd]; exact aInt_quo (by omega)) ?_
    refine sAs (v := nv _) rfl ?_
    refine sNil (kSeqN ?_)
    refine cSeq ?_
    refine cRegion ?_
    refine sLd (v := .func _ _ _) A99 rfl hc rfl ?_
    refine sMv (v := nv _) rfl ?_
    refine sMv (v := nv _) rfl ?_
    obtain ⟨v18, m18, h18, o18, k18⟩ := spec_game (c := c) f (n := h) (a := a) (m := m) hh2 hh1 (by omega) (by omega) hc
    have i18 := o18.ints
    obtain ⟨q18, c18, rfl⟩ := i18.lenN
    refine sCall (v := .slice _ _ _) rfl call73 (by simpa [evR, updO] using h18) ?_
    have hc18 := k18.cells hc
    refine sAs (v := .slice _ _ _) rfl ?_
    refine sNil (kSeqN ?_)
    refine cSeq ?_
    refine cRegion ?_
    refine sMv (v := .slice _ _ _) rfl ?_
    refine sLd (v := .func _ _ _) A99 rfl hc18 rfl ?_
    refine sMv (v := nv _) rfl ?_
    refine sMv (v := nv _) rfl ?_
    refine sBin rfl rfl (aInt_add (by omega)) ?_
    refine sMv (v := nv _) rfl ?_
    refine sMv (v := nv _) rfl ?_
    refine sBin rfl rfl (aInt_sub (by omega)) ?_
    obtain ⟨v27, m27, h27, o27, k27⟩ := spec_game (c := c) f (n := n - h) (a := a + h) (m := m18) hh3 (by omega) (by omega) (by omega) hc18
    have i27 := o27.ints
    obtain ⟨q27, c27, rfl⟩ := i27.lenN
    refine sCall (v := .slice _ _ _) rfl call73 (by simpa [evR, updO] using h27) ?_
    have hb1 := hbl a h
    have hb2 := hbl (a + h) (n - h)
    refine sMv (v := .slice _ _ _) rfl ?_
    obtain ⟨v29, m29, h29, o29, k29⟩ := spec_turned (i18.ext k27) (by omega)
    have i29 := o29.ints
    obtain ⟨q29, c29, rfl⟩ := i29.lenN
    refine sCall1 rfl call74 rfl h29 ?_
    refine sBuildS T22 S25 Z25 (by decide) (by decide) (by decide) (by kernel_rfl) fillS3 rfl ?_
    obtain ⟨v31, m31, h31, o31, k31⟩ := spec_Concat (m := m29.push (.cells true #[.slice q18 (benF f a h).length c18, .slice q27 (benF f (a + h) (n - h)).length c27, .slice q29 (benF f a h).reverse.length c29])) (b := m29.size) (n := 3) (cap := 3)
      (S := fun i => if i = 0 then .slice q18 (benF f a h).length c18 else if i = 1 then .slice q27 (benF f (a + h) (n - h)).length c27 else .slice q29 (benF f a h).reverse.length c29)
      (F := fun i => if i = 0 then ofs (benF f a h) else if i = 1 then ofs (benF f (a + h) (n - h)) else ofs (benF f a h).reverse) (gP rfl)
      (fun i hi => by match i with
        | 0 => rfl
        | 1 => rfl
        | 2 => rfl
        | i + 3 => omega)
      (fun i hi => by match i with
        | 0 => exact (i18.ext (k27.trans k29)).ext (.push _ _)
        | 1 => exact (i27.ext k29).ext (.push _ _)
        | 2 => exact i29.ext (.push _ _)
        | i + 3 => omega) (by omega) (by simp [preM]; omega)
    have hpre : preM (fun i => if i = 0 then ofs (benF f a h) else if i = 1 then ofs (benF f (a + h) (n - h)) else ofs (benF f a h).reverse) 3 = ofs (benF f a h ++ (benF f (a + h) (n - h) ++ (benF f a h).reverse)) := by simp [preM, ofs_append]
    rw [hpre] at o31
    obtain ⟨q31, c31, rfl⟩ := o31.ints.lenN
    refine sCall1 rfl call55 rfl h31 ?_
    refine sAs (v := .slice _ _ _) rfl ?_
    refine sNil (kSeqN ?_)
    refine cRet ?_
    have kk := k18.trans (k27.trans k29)
    refine ⟨.inr rfl, _, rfl, ?_, kk.trans ((Ext.push _ _).trans k31)⟩
    rw [benF, if_neg c0, hhd]
    exact o31.mono (by have := kk.1; simp; omega)

theorem okf33 : okF Tryd.prog H0 33 15 = true := by kernel_rfl
theorem spec_Bennett {m : Mem} {n : Int} : ∃ v m', ACalls Tryd.prog 33 #[.int .i64 n] m v m' ∧ (∃ w, v = .tuple #[w, nv (benE n)] ∧ OwnF m.size m' w (ofs (ifOk (benE n) (benM n.toNat) [])) ∧ Ext m m') := by
  unfold benE
  refine wpF (args := [_]) mixed okf33 (fn := Tryd.f33) rfl rfl rfl (by simp) ?_
  refine cSeq ?_
  refine cRegion ?_
  refine sAs (v := .slice _ _ _) rfl ?_
  refine sAs (v := nv 0) rfl ?_
  refine sNil (kSeqN ?_)
  refine cSeq ?_   -- seq 1
  refine cSeq ?_
  refine cRegion ?_
  refine sMv (v := .int _ _) rfl ?_
  refine sBinI (v := .bool (decide (n < 1))) rfl rfl rfl ?_
  refine sMv (v := .bool _) rfl ?_
  by_cases h1 : n < 1
  ·
    rw [decide_eq_true h1]
    refine sGno (q' := true) rfl rfl (by simp) ?_
    refine sGno (q' := true) rfl rfl (by simp) ?_
    refine sP (v := .bool _) rfl ?_
    refine sNil (kSeqN ?_)
    refine cCondT rfl ?_
    refine cSeq ?_
    refine cRegion ?_
    refine sAs (v := .slice _ _ _) rfl ?_
    refine sAs (v := nv 2) rfl ?_
    refine sNil (kSeqN ?_)
    refine cRet (kSeqR ?_)
    exact ⟨.inr rfl, _, rfl, _, by rw [if_pos (.inl h1)]; rfl, by rw [if_pos (.inl h1), ifOk_n (by decide)]; exact .nil _ _, .refl _⟩
  ·
    rw [decide_eq_false h1]
    refine sG rfl rfl ?_
    refine sMv (v := .int _ _) rfl ?_
    refine sG rfl rfl ?_
    refine sBinI (v := .bool (decide (n > 10))) rfl rfl rfl ?_
    refine sP (v := .bool _) rfl ?_
    refine sNil (kSeqN ?_)
    refine cCond (p := n > 10) rfl (fun c1 => ?_) (fun c1 => ?_)
    ·
      refine cSeq ?_
      refine cRegion ?_
      refine sAs (v := .slice _ _ _) rfl ?_
      refine sAs (v := nv 2) rfl ?_
      refine sNil (kSeqN ?_)
      refine cRet (kSeqR ?_)
      exact ⟨.inr rfl, _, rfl, _, by rw [if_pos (.inr c1)]; rfl, by rw [if_pos (.inr c1), ifOk_n (by decide)]; exact .nil _ _, .refl _⟩
    ·
      rw [if_neg (by omega), ifOk_0 rfl]
      obtain ⟨N, rfl⟩ : ∃ N : Nat, n = Int.ofNat N := ⟨n.toNat, by simp; omega⟩
      have hN1 : 1 ≤ N := by simp at h1; omega
      have hN : N ≤ 10 := by simp at c1; omega
      refine cSkip (kSeqN ?_)
      refine cSeq ?_
      refine cRegion ?_
      refine sAlloc Z99 (by kernel_rfl) ?_
      refine sNil (kSeqN ?_)
      refine cSeq ?_
      refine cRegion ?_
      refine sMFc1 rfl ?_
      refine sStN (v := .func _ _ _) S99 rfl rfl rfl rfl rfl ?_
      refine sNil (kSeqN ?_)
      refine cSeq ?_
      refine cRegion ?_
      refine sLd A99 rfl (by simp (disch := first | omega | (simp only [Array.size_push, Array.size_setIfInBounds]; done) | (simp only [Array.size_push, Array.size_setIfInBounds]; omega)) only [gP, gPn, gS, gSn]; try rfl) rfl ?_
      refine sMv (v := nv N) rfl ?_
      obtain ⟨v14, m14, h14, o14, k14⟩ := spec_game (c := m.size) 10 (n := N) (a := 0) (m := m.push (.cells true #[.func (.func 73) #[] #[.pointer (some ⟨m.size, 0, none⟩)]])) hN1 hN (by omega) (by omega) (gP rfl)
      obtain ⟨q14, c14, rfl⟩ := o14.ints.lenN
      refine sCall (v := .slice _ _ _) rfl call73 (by simpa [evR, updO, nv] using h14) ?_
      refine sAs (v := .slice _ _ _) rfl ?_
      refine sAs (v := nv 0) rfl ?_
      refine sNil (kSeqN ?_)
      refine cRet ?_
      exact ⟨.inr rfl, _, rfl, _, rfl, o14.mono (by simp), (Ext.push _ _).trans k14⟩

theorem okf29 : okF Tryd.prog H0 29 29 = true := by kernel_rfl
theorem spec_Line {m : Mem} {n : Int} : ∃ v m', ACalls Tryd.prog 29 #[.int .i64 n] m v m' ∧ (∃ w cs, v = .tuple #[.agg #[w], nv (benE n)] ∧ OwnR m.size m' w cs (ofs2 (ifOk (benE n) (lineM n.toNat) [])) ∧ Ext m m') := by
  unfold benE
  refine wpF (args := [_]) mixed okf29 (fn := Tryd.f29) rfl rfl rfl (by simp) ?_
  refine cSeq ?_
  refine cRegion ?_
  refine sAlloc Z24 (by kernel_rfl) ?_
  refine sAs (v := nv 0) rfl ?_
  refine sNil (kSeqN ?_)
  refine cSeq ?_   -- seq 1
  refine cSeq ?_
  refine cRegion ?_
  refine sMv (v := .int _ _) rfl ?_
  refine sBinI (v := .bool (decide (n < 1))) rfl rfl rfl ?_
  refine sMv (v := .bool _) rfl ?_
  by_cases h1 : n < 1
  ·
    rw [decide_eq_true h1]
    refine sGno (q' := true) rfl rfl (by simp) ?_
    refine sGno (q' := true) rfl rfl (by simp) ?_
    refine sP (v := .bool _) rfl ?_
    refine sNil (kSeqN ?_)
    refine cCondT rfl ?_
    refine cSeq ?_
    refine cRegion ?_
    refine sBuild B24_0 ?_
    refine sStAll S24 rfl rfl (by simp (disch := first | omega | (simp only [Array.size_push, Array.size_setIfInBounds]; done) | (simp only [Array.size_push, Array.size_setIfInBounds]; omega)) only [gP, gPn, gS, gSn]; try rfl) rfl rfl (by kernel_rfl) ?_
    refine sAs (v := nv 2) rfl ?_
    refine sNil (kSeqN ?_)
    refine cRet (kSeqR ?_)
    exact ⟨.inr rfl, _, resRs_agg2 A24 S24 rfl (gS rfl (by simp)) rfl, _, _, by rw [if_pos (.inl h1)]; rfl, by rw [if_pos (.inl h1), ifOk_n (by decide)]; exact .nil _ _, (Ext.push _ _).set (Nat.le_refl _) _⟩
  ·
    rw [decide_eq_false h1]
    refine sG rfl rfl ?_
    refine sMv (v := .int _ _) rfl ?_
    refine sG rfl rfl ?_
    refine sBinI (v := .bool (decide (n > 10))) rfl rfl rfl ?_
    refine sP (v := .bool _) rfl ?_
    refine sNil (kSeqN ?_)
    refine cCond (p := n > 10) rfl (fun c1 => ?_) (fun c1 => ?_)
    ·
      refine cSeq ?_
      refine cRegion ?_
      refine sBuild B24_0 ?_
      refine sStAll S24 rfl rfl (by simp (disch := first | omega | (simp only [Array.size_push, Array.size_setIfInBounds]; done) | (simp only [Array.size_push, Array.size_setIfInBounds]; omega)) only [gP, gPn, gS, gSn]; try rfl) rfl rfl (by kernel_rfl) ?_
      refine sAs (v := nv 2) rfl ?_
      refine sNil (kSeqN ?_)
      refine cRet (kSeqR ?_)
      exact ⟨.inr rfl, _, resRs_agg2 A24 S24 rfl (gS rfl (by simp)) rfl, _, _, by rw [if_pos (.inr c1)]; rfl, by rw [if_pos (.inr c1), ifOk_n (by decide)]; exact .nil _ _, (Ext.push _ _).set (Nat.le_refl _) _⟩
    ·
      rw [if_neg (by omega), ifOk_0 rfl]
      obtain ⟨N, rfl⟩ : ∃ N : Nat, n = Int.ofNat N := ⟨n.toNat, by simp; omega⟩
      have hN1 : 1 ≤ N := by simp at h1; omega
      have hN : N ≤ 10 := by simp at c1; omega
      refine cSkip (kSeqN ?_)
      refine cSeq ?_
      refine cRegion ?_
      refine sMv (v := nv N) rfl ?_
      refine sMkS T22 S25 Z25 bytes25 (by decide) rfl rfl (by omega) ?_
      refine sBuild B24_1 ?_
      refine sAllocB (bl := m.size + 2) (by simp) Z24 (by kernel_rfl) ?_
      refine sStNAB (by simp) S24 rfl rfl rfl rfl (by kernel_rfl) ?_
      refine sNil (kSeqN ?_)
      refine cSeq ?_
      refine cSeq ?_
      refine cRegion ?_
      refine sAs (v := nv 1) rfl ?_
      refine sNil (kSeqN ?_)
      refine cBlock ?_
      refine wpC_loop (fun k ρ m' => ∃ i cs, k = N - i ∧ 1 ≤ i ∧ i ≤ N ∧ Low (m.size + 1) (m.push (.cells true #[.slice none 0 0])) m' ∧ m.size + 3 ≤ m'.size ∧ Mem.get m' (m.size + 1) = .cells true cs ∧ Mem.get m' (m.size + 2) = .cells true #[.slice (some ⟨m.size + 1, 0, some 1⟩) N N] ∧ cs.size = N ∧ (∀ (j : Nat) (g : List Nat), (lineAt N i)[j]? = some g → ∃ s, cs[j]? = some s ∧ OwnF (m.size + 2) m' s (ofs g)) ∧ Has ρ [(0, nv N), (2, .pointer (some ⟨m.size, 0, none⟩)), (4, .pointer (some ⟨m.size + 2, 0, none⟩)), (5, nv i)]) ⟨1, _, rfl, Nat.le_refl _, hN1, ?_, by simp, (by simp (disch := first | omega | (simp only [Array.size_push, Array.size_setIfInBounds]; done) | (simp only [Array.size_push, Array.size_setIfInBounds]; omega)) only [gP, gPn, gS, gSn]; try rfl), (by rw [gP (by simp)]; simp), by simp, ?_, rfl, ?_, ?_, rfl, trivial⟩ ?_
      · exact (Low.push _ (by simp) _).trans (.push _ (by simp) _)
      · intro j g hj
        have hl := (List.getElem?_eq_some_iff.1 hj).1
        rw [lineAt_length] at hl
        rw [lineAt_one _ hj]
        exact ⟨.slice none 0 0, by simp [hl], .nil _ _⟩
      · rfl
      · rfl
      rintro k ρ m' ⟨i, cs, rfl, hi1, hi, hLo, hz, g1, g2, hcs, hrow, hh⟩
      rw [hh.env]; clear hh
      refine cSeq ?_   -- seq 8
      refine cSeq ?_
      refine cRegion ?_
      refine sMv (v := nv _) rfl ?_
      refine sMv (v := nv N) rfl ?_
      refine sBin rfl rfl (aInt_lss) ?_
      refine sNil (kSeqN ?_)
      refine cCond rfl (fun c2 => ?_) (fun c2 => ?_)
      ·
        have hg1 := live g1
        refine cSkip (kSeqN ?_)
        refine cSeq ?_
        refine cBlock ?_
        refine cRegion ?_
        refine sFA F24_0 rfl ?_
        refine sLd (v := .slice _ _ _) A22 rfl (by simp (disch := first | omega | (simp only [Array.size_push, Array.size_setIfInBounds]; done) | (simp only [Array.size_push, Array.size_setIfInBounds]; omega)) only [gP, gPn, gS, gSn, g1, g2]; try rfl) rfl ?_
        refine sMv (v := nv _) rfl ?_
        refine sMv (v := nv _) rfl ?_
        refine sBin (v := nv (i - 1)) rfl rfl (aInt_sub (b := 1) (by omega)) ?_
        refine sBuildS T25 S3 Z3 (by decide) (by decide) (by decide) (by kernel_rfl) fill1 rfl ?_
        refine sIx T22 S25 rfl rfl (by omega) ?_
        refine sSt (v := .slice _ _ _) S25 rfl rfl (by simp (disch := first | omega | (simp only [Array.size_push, Array.size_setIfInBounds]; done) | (simp only [Array.size_push, Array.size_setIfInBounds]; omega)) only [gP, gPn, gS, gSn, g1, g2]; try rfl) (by rw [hcs]; omega) rfl rfl ?_
        refine sNil (kBlkN (kSeqN ?_))
        refine cRegion ?_
        refine sMv (v := nv _) rfl ?_
        refine sBin rfl rfl (aInt_add (b := 1) (by omega)) ?_
        refine sAs (v := nv _) rfl ?_
        refine sNil (kSeqN ?_)
        refine ⟨_, ?_, i + 1, _, rfl, by omega, by omega, hLo.trans ((Low.push _ (by omega) _).trans (.set (Nat.le_refl _) _)), by simp; omega, gS rfl (by simp; omega), by rw [gSn (by omega), gPn (live g2), g2], by rw [Array.size_setIfInBounds]; exact hcs, fun j g hj => ?_, rfl, rfl, rfl, rfl, trivial⟩
        · omega
        · rw [lineAt_set (by omega) hi1] at hj
          rw [Nat.zero_add, Nat.mul_one, Array.getElem?_setIfInBounds]
          by_cases hji : i = j
          · subst hji
            rw [List.getElem?_set_self (by simp; omega)] at hj
            obtain rfl := Option.some.inj hj
            rw [if_pos rfl, if_pos (by omega)]
            refine ⟨_, rfl, ?_⟩
            refine OwnF.ofCells (l := [i - 1]) (r := []) (by omega) ?_
            rw [gSn (by omega), gP rfl]; rfl
          · rw [List.getElem?_set_ne hji] at hj
            rw [if_neg hji]
            obtain ⟨s, hs, ho⟩ := hrow j g hj
            exact ⟨s, hs, (ho.ext (.push _ _)).only (.set (m.size + 1) _ _) (by omega)⟩
      ·
        obtain rfl : i = N := by omega
        have g0 := hLo.cells (show m.size < m.size + 1 by omega) (gP rfl)
        refine cExit (kSeqE (kSeqE (kBlkS (kSeqN ?_))))
        refine cSeq ?_
        refine cRegion ?_
        refine sLdAll A24 S24 rfl (by simp (disch := first | omega | (simp only [Array.size_push, Array.size_setIfInBounds]; done) | (simp only [Array.size_push, Array.size_setIfInBounds]; omega)) only [gP, gPn, gS, gSn, g1, g2, g0]; try rfl) rfl ?_
        refine sStAll S24 rfl rfl (by simp (disch := first | omega | (simp only [Array.size_push, Array.size_setIfInBounds]; done) | (simp only [Array.size_push, Array.size_setIfInBounds]; omega)) only [gP, gPn, gS, gSn, g1, g2, g0]; try rfl) rfl rfl (by kernel_rfl) ?_
        refine sAs (v := nv 0) rfl ?_
        refine sNil (kSeqN ?_)
        refine cRet ?_
        refine ⟨.inr rfl, _, resRs_agg2 A24 S24 rfl (gS rfl (live g0)) rfl, _, cs, rfl, ?_, Low.to_ext ((Ext.push _ _)) (hLo.le (Nat.le_succ _) |>.trans (.set (Nat.le_refl _) _)) (Nat.le_refl _)⟩
        refine ⟨.inr ⟨m.size + 1, i, cs, ?_, by omega, by rw [gSn (by omega), g1], ?_, by rw [hcs, Nat.mul_one], ?_, fun k _ => rfl⟩, fun j g hj => ?_⟩
        · rw [ofs2_length]; simp [lineM]
        · rw [ofs2_length]; simp [lineM]
        · rw [ofs2_length]; simp [lineM, hcs]
        · simp only [ofs2, List.getElem?_map, Option.map_eq_some_iff] at hj
          obtain ⟨g', hj, rfl⟩ := hj
          obtain ⟨s, hs, ho⟩ := hrow j g' hj
          have ho' := ho.only (.set m.size m' (.cells true #[.slice (some ⟨m.size + 1, 0, some 1⟩) i i])) (show m.size < m.size + 2 by omega)
          exact ⟨s, hs, ho'.mono (by omega), fun b hb e => by have := (ho'.lt hb).1; have := Option.some.inj e; simp at this; omega⟩

theorem okf31 : okF Tryd.prog H0 31 41 = true := by kernel_rfl
theorem spec_Tree {m : Mem} {n : Int} : ∃ v m', ACalls Tryd.prog 31 #[.int .i64 n] m v m' ∧ (∃ w cs, v = .tuple #[.agg #[w], nv (treeE n)] ∧ OwnR m.size m' w cs (ofs2 (ifOk (treeE n) (treeM n.toNat) [])) ∧ Ext m m') := by
  unfold treeE
  refine wpF (args := [_]) mixed okf31 (fn := Tryd.f31) rfl rfl rfl (by simp) ?_
  refine cSeq ?_
  refine cRegion ?_
  refine sAlloc Z24 (by kernel_rfl) ?_
  refine sAs (v := nv 0) rfl ?_
  refine sNil (kSeqN ?_)
  refine cSeq ?_   -- seq 1
  refine cSeq ?_
  refine cRegion ?_
  refine sMv (v := .int _ _) rfl ?_
  refine sBinI (v := .bool (decide (n < 1))) rfl rfl rfl ?_
  refine sMv (v := .bool _) rfl ?_
  by_cases h1 : n < 1
  ·
    rw [decide_eq_true h1]
    refine sGno (q' := true) rfl rfl (by simp) ?_
    refine sGno (q' := true) rfl rfl (by simp) ?_
    refine sP (v := .bool _) rfl ?_
    refine sNil (kSeqN ?_)
    refine cCondT rfl ?_
    refine cSeq ?_
    refine cRegion ?_
    refine sBuild B24_0 ?_
    refine sStAll S24 rfl rfl (by simp (disch := first | omega | (simp only [Array.size_push, Array.size_setIfInBounds]; done) | (simp only [Array.size_push, Array.size_setIfInBounds]; omega)) only [gP, gPn, gS, gSn]; try rfl) rfl rfl (by kernel_rfl) ?_
    refine sAs (v := nv 2) rfl ?_
    refine sNil (kSeqN ?_)
    refine cRet (kSeqR ?_)
    exact ⟨.inr rfl, _, resRs_agg2 A24 S24 rfl (gS rfl (by simp)) rfl, _, _, by rw [if_pos (.inl h1)]; rfl, by rw [if_pos (.inl h1), ifOk_n (by decide)]; exact .nil _ _, (Ext.push _ _).set (Nat.le_refl _) _⟩
  ·
    rw [decide_eq_false h1]
    refine sG rfl rfl ?_
    refine sMv (v := .int _ _) rfl ?_
    refine sG rfl rfl ?_
    refine sBinI (v := .bool (decide (n > 3))) rfl rfl rfl ?_
    refine sP (v := .bool _) rfl ?_
    refine sNil (kSeqN ?_)
    refine cCond (p := n > 3) rfl (fun c1 => ?_) (fun c1 => ?_)
    ·
      refine cSeq ?_
      refine cRegion ?_
      refine sBuild B24_0 ?_
      refine sStAll S24 rfl rfl (by simp (disch := first | omega | (simp only [Array.size_push, Array.size_setIfInBounds]; done) | (simp only [Array.size_push, Array.size_setIfInBounds]; omega)) only [gP, gPn, gS, gSn]; try rfl) rfl rfl (by kernel_rfl) ?_
      refine sAs (v := nv 2) rfl ?_
      refine sNil (kSeqN ?_)
      refine cRet (kSeqR ?_)
      exact ⟨.inr rfl, _, resRs_agg2 A24 S24 rfl (gS rfl (by simp)) rfl, _, _, by rw [if_pos (.inr c1)]; rfl, by rw [if_pos (.inr c1), ifOk_n (by decide)]; exact .nil _ _, (Ext.push _ _).set (Nat.le_refl _) _⟩
    ·
      rw [if_neg (by omega), ifOk_0 rfl]
      obtain ⟨N, rfl⟩ : ∃ N : Nat, n = Int.ofNat N := ⟨n.toNat, by simp; omega⟩
      have hN1 : 1 ≤ N := by simp at h1; omega
      have hN : N ≤ 3 := by simp at c1; omega
      have hp := Nat.pow_le_pow_right (n := 2) (by omega) (show N - 1 ≤ 2 by omega)
      have hp1 := Nat.two_pow_pos (N - 1)
      refine cSkip (kSeqN ?_)
      refine cSeq ?_
      refine cRegion ?_
      refine sMv (v := nv N) rfl ?_
      refine sBin (v := nv (N - 1)) rfl rfl (aInt_sub (b := 1) (by omega)) ?_
      refine sBin rfl rfl (aInt_shl (a := 1) (b := N - 1) (by omega)) ?_
      rw [Nat.shiftLeft_eq, Nat.one_mul]
      generalize hMM : 2 ^ (N - 1) = M at *
      refine sAs (v := nv M) rfl ?_
      refine sNil (kSeqN ?_)
      refine cSeq ?_
      refine cRegion ?_
      refine sMv (v := nv _) rfl ?_
      refine sBin (a := 2) (b := M) rfl rfl (aInt_mul (by omega)) ?_
      refine sBin (v := nv (2 * M - 1)) rfl rfl (aInt_sub (b := 1) (by omega)) ?_
      refine sMkS T22 S25 Z25 bytes25 (by decide) rfl rfl (by omega) ?_
      refine sBuild B24_1 ?_
      refine sAllocB (bl := m.size + 2) (by simp) Z24 (by kernel_rfl) ?_
      refine sStNAB (by simp) S24 rfl rfl rfl rfl (by kernel_rfl) ?_
      refine sNil (kSeqN ?_)
      refine cSeq ?_
      refine cSeq ?_
      refine cRegion ?_
      refine sMv (v := nv _) rfl ?_
      refine sBin (v := nv (M - 1)) rfl rfl (aInt_sub (b := 1) (by omega)) ?_
      refine sMv (v := nv 0) rfl ?_
      refine sNil (kSeqN ?_)
      refine cBlock ?_
      refine wpC_loop (fun k ρ m' => ∃ i cs, k = M - 1 - i ∧ i ≤ M - 1 ∧ Low (m.size + 1) (m.push (.cells true #[.slice none 0 0])) m' ∧ m.size + 3 ≤ m'.size ∧ Mem.get m' (m.size + 1) = .cells true cs ∧ Mem.get m' (m.size + 2) = .cells true #[.slice (some ⟨m.size + 1, 0, some 1⟩) (2 * M - 1) (2 * M - 1)] ∧ cs.size = 2 * M - 1 ∧ (∀ (j : Nat) (g : List Nat), (treeAt M i)[j]? = some g → ∃ s, cs[j]? = some s ∧ OwnF (m.size + 2) m' s (ofs g)) ∧ Has ρ [(4, nv M), (2, .pointer (some ⟨m.size, 0, none⟩)), (5, .pointer (some ⟨m.size + 2, 0, none⟩)), (23, nv (M - 1)), (24, nv i)]) ⟨0, _, rfl, Nat.zero_le _, ?_, by simp, (by simp (disch := first | omega | (simp only [Array.size_push, Array.size_setIfInBounds]; done) | (simp only [Array.size_push, Array.size_setIfInBounds]; omega)) only [gP, gPn, gS, gSn]; try rfl), (by rw [gP (by simp)]; simp), by simp, ?_, rfl, ?_, ?_, rfl, rfl, trivial⟩ ?_
      · exact (Low.push _ (by simp) _).trans (.push _ (by simp) _)
      · intro j g hj
        have hl := (List.getElem?_eq_some_iff.1 hj).1
        rw [treeAt_length] at hl
        rw [treeAt_zero _ hj]
        exact ⟨.slice none 0 0, by simp [hl], .nil _ _⟩
      · rfl
      · rfl
      rintro k ρ m' ⟨i, cs, rfl, hi, hLo, hz, g1, g2, hcs, hrow, hh⟩
      rw [hh.env]; clear hh
      refine cSeq ?_
      refine cRegion ?_
      refine sBin rfl rfl (aInt_lss) ?_
      refine sNil (kSeqN ?_)
      refine cSeq ?_   -- seq 10
      refine cCond rfl (fun c2 => ?_) (fun c2 => ?_)
      ·
        have hg1 := live g1
        refine cSkip (kSeqN ?_)
        refine cSeq ?_
        refine cBlock ?_
        refine cSeq ?_
        refine cRegion ?_
        refine sMv (v := nv _) rfl ?_
        refine sAs (v := nv _) rfl ?_
        refine sNil (kSeqN ?_)
        refine cRegion ?_
        refine sFA F24_0 rfl ?_
        refine sLd (v := .slice _ _ _) A22 rfl (by simp (disch := first | omega | (simp only [Array.size_push, Array.size_setIfInBounds]; done) | (simp only [Array.size_push, Array.size_setIfInBounds]; omega)) only [gP, gPn, gS, gSn, g1, g2]; try rfl) rfl ?_
        refine sMv (v := nv _) rfl ?_
        refine sMv (v := nv _) rfl ?_
        refine sBin rfl rfl (aInt_add (by omega)) ?_
        refine sMv (v := nv _) rfl ?_
        refine sBin (a := 2) (b := i) rfl rfl (aInt_mul (by omega)) ?_
        refine sMv (v := nv _) rfl ?_
        refine sBin (a := 2) (b := i) rfl rfl (aInt_mul (by omega)) ?_
        refine sBin rfl rfl (aInt_add (b := 1) (by omega)) ?_
        refine sBuildS T25 S3 Z3 (by decide) (by decide) (by decide) (by kernel_rfl) fill2n rfl ?_
        refine sIx T22 S25 rfl rfl (by omega) ?_
        refine sSt (v := .slice _ _ _) S25 rfl rfl (by simp (disch := first | omega | (simp only [Array.size_push, Array.size_setIfInBounds]; done) | (simp only [Array.size_push, Array.size_setIfInBounds]; omega)) only [gP, gPn, gS, gSn, g1, g2]; try rfl) (by rw [hcs]; omega) rfl rfl ?_
        refine sNil (kBlkN (kSeqN ?_))
        refine cRegion ?_
        refine sBin rfl rfl (aInt_add (b := 1) (by omega)) ?_
        refine sMv (v := nv _) rfl ?_
        refine sNil (kSeqN ?_)
        refine ⟨_, ?_, i + 1, _, rfl, by omega, hLo.trans ((Low.push _ (by omega) _).trans (.set (Nat.le_refl _) _)), by simp; omega, gS rfl (by simp; omega), by rw [gSn (by omega), gPn (live g2), g2], by rw [Array.size_setIfInBounds]; exact hcs, fun j g hj => ?_, rfl, rfl, rfl, rfl, rfl, trivial⟩
        · omega
        · rw [treeAt_set (by omega)] at hj
          rw [Nat.zero_add, Nat.mul_one, Array.getElem?_setIfInBounds]
          by_cases hji : M + i = j
          · subst hji
            rw [List.getElem?_set_self (by simp; omega)] at hj
            obtain rfl := Option.some.inj hj
            rw [if_pos rfl, if_pos (by omega)]
            refine ⟨_, rfl, ?_⟩
            refine OwnF.ofCells (l := [2 * i, 2 * i + 1]) (r := []) (by omega) ?_
            rw [gSn (by omega), gP rfl]; rfl
          · rw [List.getElem?_set_ne hji] at hj
            rw [if_neg hji]
            obtain ⟨s, hs, ho⟩ := hrow j g hj
            exact ⟨s, hs, (ho.ext (.push _ _)).only (.set (m.size + 1) _ _) (by omega)⟩
      ·
        obtain rfl : i = M - 1 := by omega
        have g0 := hLo.cells (show m.size < m.size + 1 by omega) (gP rfl)
        refine cExit (kSeqE (kSeqE (kBlkS (kSeqN ?_))))
        refine cSeq ?_
        refine cRegion ?_
        refine sLdAll A24 S24 rfl (by simp (disch := first | omega | (simp only [Array.size_push, Array.size_setIfInBounds]; done) | (simp only [Array.size_push, Array.size_setIfInBounds]; omega)) only [gP, gPn, gS, gSn, g1, g2, g0]; try rfl) rfl ?_
        refine sStAll S24 rfl rfl (by simp (disch := first | omega | (simp only [Array.size_push, Array.size_setIfInBounds]; done) | (simp only [Array.size_push, Array.size_setIfInBounds]; omega)) only [gP, gPn, gS, gSn, g1, g2, g0]; try rfl) rfl rfl (by kernel_rfl) ?_
        refine sAs (v := nv 0) rfl ?_
        refine sNil (kSeqN ?_)
        refine cRet ?_
        have htr : treeM (Int.ofNat N).toNat = treeAt M (M - 1) := by
          show treeAt (2 ^ (N - 1)) (2 ^ (N - 1) - 1) = _
          rw [hMM]
        refine ⟨.inr rfl, _, resRs_agg2 A24 S24 rfl (gS rfl (live g0)) rfl, _, cs, rfl, ?_, Low.to_ext ((Ext.push _ _)) (hLo.le (Nat.le_succ _) |>.trans (.set (Nat.le_refl _) _)) (Nat.le_refl _)⟩
        rw [htr]
        refine ⟨.inr ⟨m.size + 1, 2 * M - 1, cs, ?_, by omega, by rw [gSn (by omega), g1], ?_, by rw [hcs, Nat.mul_one], ?_, fun k _ => rfl⟩, fun j g hj => ?_⟩
        · rw [ofs2_length]; simp
        · rw [ofs2_length]; simp
        · rw [ofs2_length]; simp [hcs]
        · simp only [ofs2, List.getElem?_map, Option.map_eq_some_iff] at hj
          obtain ⟨g', hj, rfl⟩ := hj
          obtain ⟨s, hs, ho⟩ := hrow j g' hj
          have ho' := ho.only (.set m.size m' (.cells true #[.slice (some ⟨m.size + 1, 0, some 1⟩) (2 * M - 1) (2 * M - 1)])) (show m.size < m.size + 2 by omega)
          exact ⟨s, hs, ho'.mono (by omega), fun b hb e => by have := (ho'.lt hb).1; have := Option.some.inj e; simp at this; omega⟩

end Go.AM

/-! ### M24 -/
namespace Go.AM
set_option linter.unusedVariables false
set_option linter.unusedSimpArgs false
def wayB (P : List Nat) (k x n : Nat) : Bool := mayM P x n && decide (popc (x ^^^ 2 ^ n) ≤ k)
def stepE (d y : Nat) (es : List (Nat × Nat)) : List (Nat × Nat) := if lookE es y = none then es ++ [(y, d)] else es
def roundE (P : List Nat) (k x d : Nat) : Nat → List (Nat × Nat) → List (Nat × Nat)
  | 0, es => es
  | n + 1, es => if wayB P k x n then stepE (d + 1) (x ^^^ 2 ^ n) (roundE P k x d n es) else roundE P k x d n es
def farF (P : List Nat) (k : Nat) : Nat → Nat → List (Nat × Nat) → List (Nat × Nat)
  | 0, _, es => es
  | f + 1, i, es => match es[i]? with
    | none => es
    | some p => farF P k f (i + 1) (roundE P k p.1 p.2 P.length es)
def farM (P : List Nat) (k x : Nat) : List (Nat × Nat) := if k < popc x then [] else farF P k 1025 0 [(x, 0)]

theorem findE_shift (k : Nat) : ∀ (es : List (Nat × Nat)) (i j : Nat), (findE es k i).map (·.2) = (findE es k j).map (·.2)
  | [], _, _ => rfl
  | p :: es, i, j => by
    rw [findE, findE]
    split
    · rfl
    · exact findE_shift k es (i + 1) (j + 1)
theorem lookE_cons (p : Nat × Nat) (es : List (Nat × Nat)) (k : Nat) : lookE (p :: es) k = if k = p.1 then some p.2 else lookE es k := by
  unfold lookE
  rw [findE]
  split
  · rfl
  · exact findE_shift k es 1 0
theorem lookE_nil (k : Nat) : lookE [] k = none := rfl
theorem lookE_append (es fs : List (Nat × Nat)) (k : Nat) : lookE (es ++ fs) k = (lookE es k).or (lookE fs k) := by
  induction es with
  | nil => rfl
  | cons p es ih =>
    rw [List.cons_append, lookE_cons, lookE_cons, ih]
    split <;> rfl
theorem lookE_mem {es : List (Nat × Nat)} {k d : Nat} (h : lookE es k = some d) : (k, d) ∈ es := by
  induction es with
  | nil => cases h
  | cons p es ih =>
    rw [lookE_cons] at h
    split at h
    · rename_i e
      obtain rfl := Option.some.inj h
      rw [e]; simp
    · exact List.mem_cons_of_mem _ (ih h)
theorem lookE_none {es : List (Nat × Nat)} {k : Nat} : lookE es k = none ↔ k ∉ es.map (·.1) := by
  induction es with
  | nil => simp [lookE_nil]
  | cons p es ih =>
    rw [lookE_cons, List.map_cons, List.mem_cons]
    split
    · rename_i e; simp [e]
    · rename_i e; rw [ih]; simp [e]
theorem lookE_of_mem {es : List (Nat × Nat)} {k d : Nat} (hn : (es.map (·.1)).Nodup) (h : (k, d) ∈ es) : lookE es k = some d := by
  induction es with
  | nil => cases h
  | cons p es ih =>
    rw [List.map_cons, List.nodup_cons] at hn
    rw [lookE_cons]
    rcases List.mem_cons.1 h with rfl | h
    · simp
    · rw [if_neg, ih hn.2 h]
      intro e
      exact hn.1 (List.mem_map.2 ⟨_, h, e⟩)
/-- What holds of entries: keys once, below 2^n; distances below the places. -/
structure GoodE (n : Nat) (es : List (Nat × Nat)) : Prop where
  once : (es.map (·.1)).Nodup
  lt : ∀ p ∈ es, p.1 < 2 ^ n
  low : ∀ (i : Nat) (p : Nat × Nat), es[i]? = some p → p.2 ≤ i
theorem GoodE.length {n : Nat} {es : List (Nat × Nat)} (h : GoodE n es) : es.length ≤ 2 ^ n := by
  have h1 : (es.map (·.1)).length ≤ (List.range (2 ^ n)).length := by
    refine h.once.length_le_of_subset fun x hx => ?_
    obtain ⟨p, hp, rfl⟩ := List.mem_map.1 hx
    exact List.mem_range.2 (h.lt p hp)
  rwa [List.length_map, List.length_range] at h1
theorem GoodE.step {n d y : Nat} {es : List (Nat × Nat)} (h : GoodE n es) (hd : d ≤ es.length) (hy : y < 2 ^ n) : GoodE n (stepE d y es) := by
  unfold stepE
  split
  · rename_i hl
    rw [lookE_none] at hl
    refine ⟨?_, fun p hp => ?_, fun i p hi => ?_⟩
    · rw [List.map_append, List.nodup_append]
      refine ⟨h.once, by simp, fun a ha b hb e => ?_⟩
      simp at hb
      subst hb; subst e
      exact hl ha
    · rcases List.mem_append.1 hp with hp | hp
      · exact h.lt p hp
      · rw [List.mem_singleton.1 hp]; exact hy
    · by_cases hil : i < es.length
      · rw [List.getElem?_append_left hil] at hi
        exact h.low i p hi
      · rw [List.getElem?_append_right (by omega)] at hi
        have := (List.getElem?_eq_some_iff.1 hi).1
        have h0 : i - es.length = 0 := by simp at this; omega
        rw [h0] at hi
        obtain rfl : (y, d) = p := by simpa using hi
        show d ≤ i
        omega
  · exact h
theorem stepE_len (d y : Nat) (es : List (Nat × Nat)) : es.length ≤ (stepE d y es).length := by
  unfold stepE; split <;> simp
theorem roundE_len (P : List Nat) (k x d : Nat) (es : List (Nat × Nat)) : ∀ n, es.length ≤ (roundE P k x d n es).length
  | 0 => Nat.le_refl _
  | n + 1 => by
    rw [roundE]
    split
    · exact Nat.le_trans (roundE_len P k x d es n) (stepE_len _ _ _)
    · exact roundE_len P k x d es n
theorem stepE_get {d y i : Nat} {es : List (Nat × Nat)} {p : Nat × Nat} (h : es[i]? = some p) : (stepE d y es)[i]? = some p := by
  unfold stepE; split
  · rw [List.getElem?_append_left (List.getElem?_eq_some_iff.1 h).1]; exact h
  · exact h
theorem roundE_get {P : List Nat} {k x d i : Nat} {es : List (Nat × Nat)} {p : Nat × Nat} (h : es[i]? = some p) : ∀ n, (roundE P k x d n es)[i]? = some p
  | 0 => h
  | n + 1 => by
    rw [roundE]
    split
    · exact stepE_get (roundE_get h n)
    · exact roundE_get h n
theorem GoodE.round {N : Nat} {P : List Nat} {k x d : Nat} {es : List (Nat × Nat)} (h : GoodE N es) (hx : x < 2 ^ N) (hd : d < es.length) : ∀ n, n ≤ N → GoodE N (roundE P k x d n es)
  | 0, _ => h
  | n + 1, hn => by
    rw [roundE]
    have ih := GoodE.round (P := P) (k := k) h hx hd n (by omega)
    split
    · have := roundE_len P k x d es n
      exact ih.step (by omega) (Nat.xor_lt_two_pow hx (Nat.pow_lt_pow_right (by omega) (by omega)))
    · exact ih
theorem GoodE.one {n x : Nat} (hx : x < 2 ^ n) : GoodE n [(x, 0)] := by
  refine ⟨by simp, by simpa using hx, fun i p hi => ?_⟩
  cases i with
  | zero => simp at hi; subst hi; exact Nat.le_refl _
  | succ i => simp at hi
theorem GoodE.look {n i : Nat} {es : List (Nat × Nat)} (h : GoodE n es) {p : Nat × Nat} (hi : es[i]? = some p) : lookE es p.1 = some p.2 :=
  lookE_of_mem h.once (List.mem_of_getElem? hi)
theorem farF_good {N : Nat} {P : List Nat} {k : Nat} (hP : P.length = N) : ∀ (f i : Nat) {es : List (Nat × Nat)}, GoodE N es → GoodE N (farF P k f i es)
  | 0, _, _, h => h
  | f + 1, i, es, h => by
    rw [farF]
    split
    · exact h
    · rename_i p hp
      refine farF_good hP f (i + 1) (h.round (h.lt p (List.mem_of_getElem? hp)) ?_ _ (by omega))
      have := h.low i p hp
      have := (List.getElem?_eq_some_iff.1 hp).1
      omega
theorem GoodE.nil (n : Nat) : GoodE n [] := ⟨by simp, by simp, by simp⟩
theorem farM_good {P : List Nat} {k x : Nat} (hx : x < 2 ^ P.length) : GoodE P.length (farM P k x) := by
  unfold farM; split
  · exact .nil _
  · exact farF_good rfl _ _ (.one hx)
end Go.AM

/-! ### P10 -/
namespace Go.AM
open Go.Proofs
set_option maxRecDepth 100000
set_option linter.unusedVariables false
set_option linter.unusedSimpArgs false
theorem B116 {a b : Nat} : aBuild Tryd.prog 116 [(0, nv a), (1, nv b)] = some (.agg #[nv a, nv b]) := by kernel_rfl
/-- What 'ways' is asked about: a graph, a position, how many pebbles. -/
def WaysAt (m : Mem) (p1 p2 p3 : Nat) (N : List (List Nat)) (x k : Nat) : Prop := ∃ r1 r2 r3 vs, Mem.get m p1 = .cells r1 vs ∧ BoardAt m (.agg vs) N ∧ Mem.get m p2 = .cells r2 #[nv x] ∧ Mem.get m p3 = .cells r3 #[nv k]
theorem WaysAt.ext {m m' : Mem} {p1 p2 p3 : Nat} {N : List (List Nat)} {x k : Nat} (h : WaysAt m p1 p2 p3 N x k) (he : Ext m m') : WaysAt m' p1 p2 p3 N x k := by
  obtain ⟨r1, r2, r3, vs, h1, h2, h3, h4⟩ := h
  exact ⟨r1, r2, r3, vs, he.cells h1, h2.ext he, he.cells h3, he.cells h4⟩

theorem okf91 : okF Tryd.prog H0 91 8 = true := by kernel_rfl
theorem spec_ways {m : Mem} {vs : Array Value} {x k : Nat} : ∃ v m', ACalls Tryd.prog 91 #[.agg vs, nv x, nv k] m v m' ∧ (v = .func (.func 102) #[] #[.pointer (some ⟨m.size, 0, none⟩), .pointer (some ⟨m.size + 1, 0, none⟩), .pointer (some ⟨m.size + 2, 0, none⟩)] ∧ ((m.push (.cells true vs)).push (.cells true #[nv x])).push (.cells true #[nv k]) = m') := by
  refine wpF (args := [_, _, _]) mixed okf91 (fn := Tryd.f91) rfl rfl rfl (by simp) ?_
  refine cSeq ?_
  refine cRegion ?_
  refine sBox (v := .agg _) rfl ?_
  refine sBoxB (bl := m.size + 1) (v := nv x) (by simp) rfl ?_
  refine sBoxB (bl := m.size + 2) (v := nv k) (by simp) rfl ?_
  refine sAs rfl ?_
  refine sNil (kSeqN ?_)
  refine cSeq ?_
  refine cRegion ?_
  refine sMFc3 rfl rfl rfl ?_
  refine sAs rfl ?_
  refine sNil (kSeqN ?_)
  refine cRet ?_
  exact ⟨.inr rfl, _, rfl, rfl, rfl⟩

def H102 : Nat → List (Nat × Nat) := fun id => if id = 4 then [(6,9),(6,16),(9,4),(9,16),(14,4),(14,16)] else if id = 3 then [(1,7)] else []
theorem okf102 : okF Tryd.prog H102 102 38 = true := by kernel_rfl
theorem spec_ways1 {m : Mem} {lp p1 p2 p3 : Nat} {N : List (List Nat)} {x k : Nat} {J : Nat → Mem → Prop} {D : Mem → Prop} (hN : Dag N) (hx : x < 1024)
      (hview : ∀ i m', J i m' → WaysAt m' p1 p2 p3 N x k)
      (hext : ∀ i m' m'', J i m' → Ext m' m'' → J i m'')
      (hskip : ∀ i m', i < N.length → wayB (needsM N) k x i = false → J i m' → J (i + 1) m')
      (hJ : ∀ i m1 m', i < N.length → wayB (needsM N) k x i = true → J i m1 → Ext m1 m' → ∃ b m'', ARound Tryd.prog lp #[.agg #[nv i, nv (x ^^^ 2 ^ i)]] m' (.bool b) m'' ∧ (∀ c, m1.size ≤ c → c < m'.size → Mem.get m'' c = Mem.get m' c) ∧ Mem.get m'' p3 = Mem.get m' p3 ∧ (b = true → J (i + 1) m'') ∧ (b = false → D m''))
      (h0 : J 0 m) : ∃ v m', ACalls Tryd.prog 102 #[.func (.yield lp) #[] #[], .pointer (some ⟨p1, 0, none⟩), .pointer (some ⟨p2, 0, none⟩), .pointer (some ⟨p3, 0, none⟩)] m v m' ∧ (J N.length m' ∨ D m') := by
  have hN1 := hN.one
  have hN10 := hN.ten
  obtain ⟨r1, r2, r3, vs, g1, hB, g2, g3⟩ := hview 0 m h0
  obtain ⟨q, n1, c, q2, n2, c2, hvs, hr, hi2⟩ := hB
  obtain ⟨_, _, hn2⟩ := hi2.lenN
  cases hn2
  cases hvs
  refine wpF (args := [_, _, _, _]) mixed okf102 (fn := Tryd.f102) rfl rfl rfl (by simp) ?_
  refine cSeq ?_
  refine cRegion ?_
  refine sFA F79_1 rfl ?_
  refine sLd (v := .slice _ _ _) A25 rfl (by simp (disch := first | omega | (simp only [Array.size_push, Array.size_setIfInBounds]; done) | (simp only [Array.size_push, Array.size_setIfInBounds]; omega)) only [gP, gPn, gS, gSn, g1]; try rfl) rfl ?_
  refine sLen T25 rfl ?_
  refine sMv (v := nv 0) rfl ?_
  refine sNil (kSeqN ?_)
  refine cBlock ?_
  refine wpC_loop (fun k' ρ m' => ∃ i, k' = N.length - i ∧ i ≤ N.length ∧ J i m' ∧ Has ρ [(0, .func (.yield lp) #[] #[]), (1, .pointer (some ⟨p1, 0, none⟩)), (2, .pointer (some ⟨p2, 0, none⟩)), (3, .pointer (some ⟨p3, 0, none⟩)), (9, nv N.length), (10, nv i)]) ⟨0, rfl, Nat.zero_le _, h0, rfl, rfl, rfl, rfl, by rw [← needsM_length N]; rfl, rfl, trivial⟩ ?_
  clear g1 g2 g3 hr hi2
  rintro k' ρ m' ⟨i, rfl, hi, hJi, hh⟩
  rw [hh.env]; clear hh
  obtain ⟨r1', r2', r3', vs', g1, hB, g2, g3⟩ := hview i m' hJi
  have hl1 := live g1
  have hl2 := live g2
  have hl3 := live g3
  refine cSeq ?_
  refine cRegion ?_
  refine sBin rfl rfl (aInt_lss) ?_
  refine sNil (kSeqN ?_)
  refine cSeq ?_   -- seq 2
  refine cCond rfl (fun c0 => ?_) (fun c0 => ?_)
  ·
    have hxi : x ^^^ 2 ^ i < 2 ^ 10 := Nat.xor_lt_two_pow hx (Nat.pow_lt_pow_right (by omega) (by omega))
    have h2i : 2 ^ i < 2 ^ 10 := Nat.pow_lt_pow_right (by omega) (by omega)
    refine cSkip (kSeqN ?_)
    refine cSeq ?_
    refine cBlock ?_
    refine cSeq ?_
    refine cRegion ?_
    refine sMv (v := nv _) rfl ?_
    refine sAs (v := nv _) rfl ?_
    refine sNil (kSeqN ?_)
    refine cSeq ?_
    refine cDrawH (hs := [(1,7)]) rfl (by decide) ?_
    refine lStepO (sMv (v := nv _) rfl (sNil fun e0 hm0 => ?_))
    refine lStepLd (v := nv x) A3 rfl (by simp (disch := first | omega | (simp only [Array.size_push, Array.size_setIfInBounds]; done) | (simp only [Array.size_push, Array.size_setIfInBounds]; omega)) only [gP, gPn, gS, gSn, g1, g2, g3]; try rfl) rfl fun e1 hm1 hv1 hr1 => ?_
    refine lStepO (sMv (v := nv _) rfl (sNil fun e2 hm2 => ?_))
    refine lStepO (sBin (a := 1) (b := i) rfl rfl (aInt_shl (a := 1) (by omega)) (sNil fun e3 hm3 => ?_))
    rw [Nat.shiftLeft_eq, Nat.one_mul]
    refine lStepO (sBin rfl rfl (aInt_xor (by omega)) (sNil fun e4 hm4 => ?_))
    refine lStepO (sBuild B116 (sNil fun e5 hm5 => ?_))
    refine lStepO (sAlloc Z116 (by kernel_rfl) (sNil fun e6 hm6 => ?_))
    refine lStepO (sStNA S116 rfl rfl rfl rfl (by kernel_rfl) (sNil fun e7 hm7 => ?_))
    refine ⟨?_, (kSeqN ?_)⟩
    ·
      refine obl_atE (e := e1) (e' := e7) (by simp) (by rfl) (by simp) ((hr1 e7.m _ _ (by rw [hm7]; simp (disch := first | omega | (simp only [Array.size_push, Array.size_setIfInBounds]; done) | (simp only [Array.size_push, Array.size_setIfInBounds]; omega)) only [gP, gPn, gS, gSn, g1, g2, g3]; try rfl) (by rfl)).trans (congrArg some hv1.symm)) ?_
      trivial
    refine cSeq ?_
    refine cDrawH (hs := [(6,9),(6,16),(9,4),(9,16),(14,4),(14,16)]) rfl (by decide) ?_
    obtain ⟨qa, na, ca, qb, nb, cb, hvs', hr', hi'⟩ := id hB
    refine lStepLdA A79 S79 rfl (by simp (disch := first | omega | (simp only [Array.size_push, Array.size_setIfInBounds]; done) | (simp only [Array.size_push, Array.size_setIfInBounds]; omega)) only [gP, gPn, gS, gSn, g1, g2, g3]; try rfl) (by cases hvs'; rfl) fun e0 hm0 hv0 hr0 => ?_
    refine lStepLd A3 rfl (by simp (disch := first | omega | (simp only [Array.size_push, Array.size_setIfInBounds]; done) | (simp only [Array.size_push, Array.size_setIfInBounds]; omega)) only [gP, gPn, gS, gSn, g1, g2, g3]; try rfl) rfl fun e1 hm1 hv1 hr1 => ?_
    refine lStepO (sMv (v := nv _) rfl (sNil fun e2 hm2 => ?_))
    obtain ⟨v22, m22, h22, rfl, k22⟩ := spec_may (m := m'.push (.cells true #[nv i, nv (x ^^^ 2 ^ i)])) (hB.ext (.push _ _)) hN (x := x) (by omega) c0
    refine lStepO (sCall3 rfl call95 rfl rfl rfl h22 (sNil fun e3 hm3 => ?_))
    have gw : Mem.get m22 m'.size = .cells true #[nv i, nv (x ^^^ 2 ^ i)] := k22.cells (gP rfl)
    have g3w := k22.cells ((gPn hl3).trans g3)
    have hJ22 : J i m22 := hext i _ _ hJi ((Ext.push _ _).trans k22)
    refine lStepO (sMv (v := .bool _) rfl (sNil fun e4 hm4 => ?_))
    by_cases hmay : mayM (needsM N) x i = true
    ·
      rw [hmay]
      refine lG rfl rfl ?_
      refine lStepO (sFA F116_1 rfl (sNil fun e5 hm5 => ?_))
      refine lG rfl rfl ?_
      refine lStepLd (v := nv (x ^^^ 2 ^ i)) A3 rfl gw rfl fun e6 hm6 hv6 hr6 => ?_
      refine lG rfl rfl ?_
      refine lStepO (sP (v := .int .u64 (Int.ofNat (x ^^^ 2 ^ i))) (conv3_104 (by omega)) (sNil fun e7 hm7 => ?_))
      refine lG rfl rfl ?_
      obtain ⟨v27, m27, h27, rfl, k27⟩ := spec_OnesCount (m := m22) (x := x ^^^ 2 ^ i) (by omega)
      rw [k27] at h27
      refine lStepO (sCall1 rfl call79 rfl h27 (sNil fun e8 hm8 => ?_))
      refine lG rfl rfl ?_
      refine lStepLd (v := nv k) A3 rfl g3w rfl fun e9 hm9 hv9 hr9 => ?_
      refine lG rfl rfl ?_
      refine lStepO (sBin rfl rfl (aInt_leq) (sNil fun e10 hm10 => ?_))
      refine lStepO (sP (v := .bool _) rfl (sNil fun e11 hm11 => ?_))
      refine lStepO (sMv (v := .bool _) rfl (sNil fun e12 hm12 => ?_))
      by_cases hpo : popc (x ^^^ 2 ^ i) ≤ k
      ·
        rw [decide_eq_true hpo]
        refine lG rfl rfl ?_
        refine lStepO (sMv (v := .func _ _ _) rfl (sNil fun e13 hm13 => ?_))
        refine lG rfl rfl ?_
        refine lStepLdA A116 S116 rfl gw rfl fun e14 hm14 hv14 hr14 => ?_
        refine lG rfl rfl ?_
        obtain ⟨bb, m34, hR34, hc34, hp34, hT34, hD34⟩ := hJ i m' m22 c0 (by rw [wayB, hmay, decide_eq_true hpo]; rfl) hJi ((Ext.push _ _).trans k22)
        have hw34 := (hc34 m'.size (Nat.le_refl _) (live gw)).trans gw
        have h334 := hp34.trans g3w
        refine lStepO (sYield1 rfl rfl hR34 (sNil fun e15 hm15 => ?_))
        refine lG rfl rfl ?_
        refine lStepO (sP (v := .bool (!bb)) rfl (sNil fun e16 hm16 => ?_))
        refine lStepO (sP (v := .bool _) rfl (sNil fun e17 hm17 => ?_))
        refine ⟨?_, (kSeqN ?_)⟩
        ·
          refine obl_atE (e := e6) (e' := e9) (by simp) (by rfl) (by simp) ((hr6 e9.m _ _ (by rw [hm9]; exact gw) (by rfl)).trans (congrArg some hv6.symm)) ?_
          refine obl_atE (e := e6) (e' := e16) (by simp) (by rfl) (by simp) ((hr6 e16.m _ _ (by rw [hm16]; exact hw34) (by rfl)).trans (congrArg some hv6.symm)) ?_
          refine obl_atE (e := e9) (e' := e4) (by simp) (by rfl) (by simp) ((hr9 e4.m _ _ (by rw [hm4]; exact g3w) (by rfl)).trans (congrArg some hv9.symm)) ?_
          refine obl_atE (e := e9) (e' := e16) (by simp) (by rfl) (by simp) ((hr9 e16.m _ _ (by rw [hm16]; exact h334) (by rfl)).trans (congrArg some hv9.symm)) ?_
          refine obl_atE (e := e14) (e' := e4) (by simp) (by rfl) (by simp) ((hr14 e4.m _ (by rw [hm4]; exact gw)).trans (congrArg some hv14.symm)) ?_
          refine obl_atE (e := e14) (e' := e16) (by simp) (by rfl) (by simp) ((hr14 e16.m _ (by rw [hm16]; exact hw34)).trans (congrArg some hv14.symm)) ?_
          trivial
        refine cCond (p := bb = false) (by cases bb <;> rfl) (fun c1 => ?_) (fun c1 => ?_)
        ·
          refine cRet (kBlkR (kSeqR (kSeqR (kBlkR ?_))))
          exact ⟨.inr rfl, _, rfl, .inr (hD34 c1)⟩
        ·
          refine cSkip (kBlkN (kSeqN ?_))
          refine cRegion ?_
          refine sBin rfl rfl (aInt_add (b := 1) (by omega)) ?_
          refine sMv (v := nv _) rfl ?_
          refine sNil (kSeqN ?_)
          refine ⟨_, ?_, i + 1, rfl, by omega, hT34 (by simpa using c1), rfl, rfl, rfl, rfl, rfl, rfl, trivial⟩
          omega
      ·
        rw [decide_eq_false hpo]
        refine lGno (q' := false) rfl rfl (by simp) fun e13 hm13 hq13 => ?_
        refine lGno (q' := false) rfl rfl (by simp) fun e14 hm14 hq14 => ?_
        refine lGno (q' := false) rfl rfl (by simp) fun e15 hm15 hq15 => ?_
        refine lGno (q' := false) rfl rfl (by simp) fun e16 hm16 hq16 => ?_
        refine lStepO (sP (v := .bool _) rfl (sNil fun e17 hm17 => ?_))
        refine ⟨?_, (kSeqN ?_)⟩
        ·
          refine obl_atE (e := e6) (e' := e9) (by simp) (by rfl) (by simp) ((hr6 e9.m _ _ (by rw [hm9]; exact gw) (by rfl)).trans (congrArg some hv6.symm)) ?_
          refine obl_atE (e := e6) (e' := e16) (by simp) (by rfl) (by simp) ((hr6 e16.m _ _ (by rw [hm16]; exact gw) (by rfl)).trans (congrArg some hv6.symm)) ?_
          refine obl_atE (e := e9) (e' := e4) (by simp) (by rfl) (by simp) ((hr9 e4.m _ _ (by rw [hm4]; exact g3w) (by rfl)).trans (congrArg some hv9.symm)) ?_
          refine obl_atE (e := e9) (e' := e16) (by simp) (by rfl) (by simp) ((hr9 e16.m _ _ (by rw [hm16]; exact g3w) (by rfl)).trans (congrArg some hv9.symm)) ?_
          refine obl_no (e := e14) (by simp) (by rfl) rfl rfl hq14 (by simp) ?_
          refine obl_no (e := e14) (by simp) (by rfl) rfl rfl hq14 (by simp) ?_
          trivial
        refine cCondF rfl ?_
        refine cSkip (kBlkN (kSeqN ?_))
        refine cRegion ?_
        refine sBin rfl rfl (aInt_add (b := 1) (by omega)) ?_
        refine sMv (v := nv _) rfl ?_
        refine sNil (kSeqN ?_)
        refine ⟨_, ?_, i + 1, rfl, by omega, hskip i _ c0 (by rw [wayB, hmay, decide_eq_false hpo]; rfl) hJ22, rfl, rfl, rfl, rfl, rfl, rfl, trivial⟩
        omega
    ·
      rw [Bool.not_eq_true] at hmay
      rw [hmay]
      refine lGno (q' := false) rfl rfl (by simp) fun e5 hm5 hq5 => ?_
      refine lGno (q' := false) rfl rfl (by simp) fun e6 hm6 hq6 => ?_
      refine lGno (q' := false) rfl rfl (by simp) fun e7 hm7 hq7 => ?_
      refine lGno (q' := false) rfl rfl (by simp) fun e8 hm8 hq8 => ?_
      refine lGno (q' := false) rfl rfl (by simp) fun e9 hm9 hq9 => ?_
      refine lGno (q' := false) rfl rfl (by simp) fun e10 hm10 hq10 => ?_
      refine lStepO (sP (v := .bool _) rfl (sNil fun e11 hm11 => ?_))
      refine lStepO (sMv (v := .bool _) rfl (sNil fun e12 hm12 => ?_))
      refine lGno (q' := false) rfl rfl (by simp) fun e13 hm13 hq13 => ?_
      refine lGno (q' := false) rfl rfl (by simp) fun e14 hm14 hq14 => ?_
      refine lGno (q' := false) rfl rfl (by simp) fun e15 hm15 hq15 => ?_
      refine lGno (q' := false) rfl rfl (by simp) fun e16 hm16 hq16 => ?_
      refine lStepO (sP (v := .bool _) rfl (sNil fun e17 hm17 => ?_))
      refine ⟨?_, (kSeqN ?_)⟩
      ·
        refine obl_no (e := e6) (by simp) (by rfl) rfl rfl hq6 (by simp) ?_
        refine obl_no (e := e6) (by simp) (by rfl) rfl rfl hq6 (by simp) ?_
        refine obl_no (e := e9) (by simp) (by rfl) rfl rfl hq9 (by simp) ?_
        refine obl_no (e := e9) (by simp) (by rfl) rfl rfl hq9 (by simp) ?_
        refine obl_no (e := e14) (by simp) (by rfl) rfl rfl hq14 (by simp) ?_
        refine obl_no (e := e14) (by simp) (by rfl) rfl rfl hq14 (by simp) ?_
        trivial
      refine cCondF rfl ?_
      refine cSkip (kBlkN (kSeqN ?_))
      refine cRegion ?_
      refine sBin rfl rfl (aInt_add (b := 1) (by omega)) ?_
      refine sMv (v := nv _) rfl ?_
      refine sNil (kSeqN ?_)
      refine ⟨_, ?_, i + 1, rfl, by omega, hskip i _ c0 (by rw [wayB, hmay]; rfl) hJ22, rfl, rfl, rfl, rfl, rfl, rfl, trivial⟩
      omega
  ·
    refine cExit (kSeqE (kSeqE (kBlkS ?_)))
    obtain rfl : i = N.length := by omega
    exact ⟨.inl rfl, _, rfl, .inl hJi⟩

end Go.AM

/-! ### P11 -/
namespace Go.AM
open Go.Proofs
set_option maxRecDepth 100000
set_option linter.unusedVariables false
set_option linter.unusedSimpArgs false
theorem MT87 : MapT Tryd.prog 87 := ⟨3, 3, T87, U3, Z3⟩
theorem El25 : ElemT Tryd.prog 25 25 1 := ⟨_, _, _, 8, T25, T25, rfl, S3, Z3, rfl, bytes3, by decide, by decide⟩
abbrev keysE (es : List (Nat × Nat)) : List Nat := es.map (·.1)
/-- Far at work: entries, the list of positions v, how far the list is done. -/
structure FarV (m0 : Mem) (vs : Array Value) (c9 i : Nat) (es : List (Nat × Nat)) (v : Value) (m' : Mem) : Prop where
  low : Low (m0.size + 1) (m0.push (.cells true vs)) m'
  gm : Mem.get m' (m0.size + 2) = .cells true #[.map (some (m0.size + 1))]
  map : MapAt m' (m0.size + 1) es
  g9 : Mem.get m' c9 = .cells true #[nv i]
  gl : Mem.get m' (m0.size + 4) = .cells true #[v]
  own : OwnC (m0.size + 1) m' v 1 es.length (cellsN (keysE es))
  o2 : blkOf v ≠ some (m0.size + 2)
  o4 : blkOf v ≠ some (m0.size + 4)
  o9 : blkOf v ≠ some c9
theorem FarV.ext {m0 : Mem} {vs : Array Value} {c9 i : Nat} {es : List (Nat × Nat)} {v : Value} {m' m'' : Mem} (h : FarV m0 vs c9 i es v m') (he : Ext m' m'') : FarV m0 vs c9 i es v m'' :=
  ⟨h.low.trans_ext he (by have := h.map.lt; omega), he.cells h.gm, h.map.ext he, he.cells h.g9, he.cells h.gl, h.own.ext he, h.o2, h.o4, h.o9⟩
theorem OwnC.keep {N : Nat} {m m' : Mem} {v : Value} {w n : Nat} {cs : Array Value} (h : OwnC N m v w n cs) (hu : ∀ b, blkOf v = some b → Mem.get m' b = Mem.get m b) : OwnC N m' v w n cs := by
  rcases h with h | ⟨b, cap, c, rfl, h2, h3, h4⟩
  · exact .inl h
  · exact .inr ⟨b, cap, c, rfl, h2, by rw [hu b rfl, h3], h4⟩
theorem OwnC.live {N : Nat} {m : Mem} {v : Value} {w n b : Nat} {cs : Array Value} (h : OwnC N m v w n cs) (hb : blkOf v = some b) : ∃ c, Mem.get m b = .cells true c := by
  rcases h with ⟨rfl, _⟩ | ⟨b', cap, c, rfl, h2, h3, h4⟩
  · cases hb
  · obtain rfl : b' = b := Option.some.inj hb
    exact ⟨c, h3⟩
/-- The record of rounds may change. -/
theorem FarV.setL {m0 : Mem} {vs : Array Value} {c9 i lp : Nat} {es : List (Nat × Nat)} {v : Value} {m' : Mem} {X : ALoop} (h : FarV m0 vs c9 i es v m') (hl : Mem.get m' lp = .loop X) (hlp : m0.size < lp) (o : AObj) : FarV m0 vs c9 i es v (m'.setIfInBounds lp o) := by
  have hne : ∀ {b : Nat} {r : Bool} {c : Array Value}, Mem.get m' b = .cells r c → lp ≠ b := fun hb e => by subst e; rw [hb] at hl; cases hl
  have hmp : lp ≠ m0.size + 1 := fun e => by subst e; have := h.map; unfold MapAt at this; rw [this] at hl; cases hl
  refine ⟨h.low.trans (.set (by omega) _), by rw [gSn (hne h.gm)]; exact h.gm, ?_, by rw [gSn (hne h.g9)]; exact h.g9, by rw [gSn (hne h.gl)]; exact h.gl, h.own.keep fun b hb => ?_, h.o2, h.o4, h.o9⟩
  · unfold MapAt; rw [gSn hmp]; exact h.map
  · obtain ⟨c, hc⟩ := h.own.live hb
    exact gSn (hne hc)
structure FarJ (m0 : Mem) (vs : Array Value) (c9 i p1 lp x k : Nat) (X : ALoop) (es : List (Nat × Nat)) (v : Value) (m' : Mem) : Prop where
  far : FarV m0 vs c9 i es v m'
  w1 : Mem.get m' p1 = .cells true vs
  w2 : Mem.get m' (p1 + 1) = .cells true #[nv x]
  w3 : Mem.get m' (p1 + 2) = .cells true #[nv k]
  lp : Mem.get m' lp = .loop X
  q1 : blkOf v ≠ some p1
  q2 : blkOf v ≠ some (p1 + 1)
  q3 : blkOf v ≠ some (p1 + 2)
theorem FarJ.ext {m0 : Mem} {vs : Array Value} {c9 i p1 lp x k : Nat} {X : ALoop} {es : List (Nat × Nat)} {v : Value} {m' m'' : Mem} (h : FarJ m0 vs c9 i p1 lp x k X es v m') (he : Ext m' m'') : FarJ m0 vs c9 i p1 lp x k X es v m'' :=
  ⟨h.far.ext he, he.cells h.w1, he.cells h.w2, he.cells h.w3, by rw [he.2 lp (Mem.lt_of_live (by rw [h.lp]; rfl)), h.lp], h.q1, h.q2, h.q3⟩
theorem FarJ.setL {m0 : Mem} {vs : Array Value} {c9 i p1 lp x k : Nat} {X : ALoop} {es : List (Nat × Nat)} {v : Value} {m' : Mem} (h : FarJ m0 vs c9 i p1 lp x k X es v m') (hlp : m0.size < lp) (Y : ALoop) : FarJ m0 vs c9 i p1 lp x k Y es v (m'.setIfInBounds lp (.loop Y)) := by
  have hne : ∀ {b : Nat} {r : Bool} {c : Array Value}, Mem.get m' b = .cells r c → lp ≠ b := fun hb e => by subst e; have := h.lp; rw [hb] at this; cases this
  exact ⟨h.far.setL h.lp hlp _, by rw [gSn (hne h.w1)]; exact h.w1, by rw [gSn (hne h.w2)]; exact h.w2, by rw [gSn (hne h.w3)]; exact h.w3, gS rfl (Mem.lt_of_live (by rw [h.lp]; rfl)), h.q1, h.q2, h.q3⟩
theorem cellsN_snoc (es : List (Nat × Nat)) (y d : Nat) : cellsN (keysE (es ++ [(y, d)])) = cellsN (keysE es) ++ #[nv y] := by
  simp [cellsN, keysE]
theorem Grew.off {m m' : Mem} {v v' : Value} {b : Nat} (h : Grew m v m' v') (hv : blkOf v ≠ some b) (hb : b < m.size) : blkOf v' ≠ some b := by
  rcases h.2.2 with e | ⟨c, e, hc⟩
  · rw [e]; exact hv
  · rw [e]; intro e2; have := Option.some.inj e2; omega
/-- One entry more: it is set in the map, appended to the list, and the list is put back. -/
theorem FarJ.add {m0 : Mem} {vs : Array Value} {c9 i p1 lp x k y d : Nat} {X : ALoop} {es : List (Nat × Nat)} {v v' : Value} {M M4 : Mem} (h : FarJ m0 vs c9 i p1 lp x k X es v M) (h9 : m0.size + 5 ≤ c9) (hp : c9 < p1) (hlp : p1 + 2 < lp)
    (hO : OwnC (m0.size + 1) M4 v' 1 (es.length + 1) (cellsN (keysE es) ++ #[nv y])) (hL : Low (m0.size + 1) ((M.setIfInBounds (m0.size + 1) (.map true ((es ++ [(y, d)]).map fun p => (nv p.1, nv p.2)))).push (.cells true #[nv y])) M4)
    (hG : Grew ((M.setIfInBounds (m0.size + 1) (.map true ((es ++ [(y, d)]).map fun p => (nv p.1, nv p.2)))).push (.cells true #[nv y])) v M4 v') :
    FarJ m0 vs c9 i p1 lp x k X (es ++ [(y, d)]) v' (M4.setIfInBounds (m0.size + 4) (.cells true #[v'])) ∧ ∀ c, c < M.size → c ≠ m0.size + 1 → c ≠ m0.size + 4 → blkOf v ≠ some c → Mem.get (M4.setIfInBounds (m0.size + 4) (.cells true #[v'])) c = Mem.get M c := by
  have hlm : lp < M.size := Mem.lt_of_live (by rw [h.lp]; rfl)
  have hvl : blkOf v ≠ some lp := fun e => by
    obtain ⟨c, hc⟩ := h.far.own.live e
    have := h.lp; rw [hc] at this; cases this
  have hvm : blkOf v ≠ some (m0.size + 1) := fun e => by
    obtain ⟨c, hc⟩ := h.far.own.live e
    have := h.far.map; unfold MapAt at this; rw [hc] at this; cases this
  have hM4 : ∀ c, c < M.size → c ≠ m0.size + 1 → blkOf v ≠ some c → Mem.get M4 c = Mem.get M c := fun c hc h1 hv => by
    rw [hG.2.1 c (by simp; omega) hv, gPn (by simpa using hc), gSn (fun e => h1 e.symm)]
  have hM : ∀ c, c < M.size → c ≠ m0.size + 1 → c ≠ m0.size + 4 → blkOf v ≠ some c → Mem.get (M4.setIfInBounds (m0.size + 4) (.cells true #[v'])) c = Mem.get M c := fun c hc h1 h2 hv => by
    rw [gSn (fun e => h2 e.symm), hM4 c hc h1 hv]
  have hsz : M.size + 1 ≤ M4.size := by have := hG.1; simpa using this
  have hoff : ∀ {b : Nat}, b < M.size → blkOf v ≠ some b → blkOf v' ≠ some b := fun hb hv => hG.off hv (by simp; omega)
  refine ⟨⟨⟨?_, ?_, ?_, ?_, ?_, ?_, hoff (by omega) h.far.o2, hoff (by omega) h.far.o4, hoff (by omega) h.far.o9⟩, ?_, ?_, ?_, ?_, hoff (by omega) h.q1, hoff (by omega) h.q2, hoff (by omega) h.q3⟩, hM⟩
  · exact ((h.far.low.trans (.set (Nat.le_refl _) _)).trans (.push _ (by simp; omega) _)).trans (hL.trans (.set (by omega) _))
  · rw [hM _ (by omega) (by omega) (by omega) h.far.o2]; exact h.far.gm
  · unfold MapAt
    rw [gSn (by omega), hG.2.1 _ (by simp; omega) hvm, gPn (by simp; omega), gS rfl (by omega)]
  · rw [hM _ (by omega) (by omega) (by omega) h.far.o9]; exact h.far.g9
  · exact gS rfl (by omega)
  · rw [List.length_append, cellsN_snoc]
    refine hO.keep fun b hb => gSn fun e => ?_
    subst e
    exact hoff (by omega) h.far.o4 hb
  · rw [hM _ (by omega) (by omega) (by omega) h.q1]; exact h.w1
  · rw [hM _ (by omega) (by omega) (by omega) h.q2]; exact h.w2
  · rw [hM _ (by omega) (by omega) (by omega) h.q3]; exact h.w3
  · rw [hM _ (by omega) (by omega) (by omega) hvl]; exact h.lp
theorem keys_get {es : List (Nat × Nat)} {i x d : Nat} (h : es[i]? = some (x, d)) : (keysE es)[i]? = some x := by simp [h]

theorem okf67 : okF Tryd.prog H0 67 64 = true := by kernel_rfl
theorem spec_far {m : Mem} {vs : Array Value} {N : List (List Nat)} {x0 k : Nat} (hB : BoardAt m (.agg vs) N) (hN : Dag N) (hx0 : x0 < 2 ^ N.length) (hk : k < 9223372036854775808) : ∃ v m', ACalls Tryd.prog 67 #[.agg vs, nv x0, nv k] m v m' ∧ (v = .map (some (m.size + 1)) ∧ MapAt m' (m.size + 1) (farM (needsM N) k x0) ∧ Ext m m') := by
  have h10 := hN.ten
  have hp10 : 2 ^ N.length ≤ 2 ^ 10 := Nat.pow_le_pow_right (by omega) h10
  have hpl : (needsM N).length = N.length := needsM_length N
  have hpo : popc x0 ≤ 10 := popc_le_of_lt (by omega)
  have hvs : vs.size = 3 := by obtain ⟨_, _, _, _, _, _, h, _⟩ := hB; cases h; rfl
  have hv1 : vs.all Value.oneCell' = true := by obtain ⟨_, _, _, _, _, _, h, _⟩ := hB; cases h; kernel_rfl
  refine wpF (args := [_, _, _]) mixed okf67 (fn := Tryd.f67) rfl rfl rfl (by simp) ?_
  refine cSeq ?_
  refine cRegion ?_
  refine sBox (v := .agg _) rfl ?_
  refine sAs rfl ?_
  refine sNil (kSeqN ?_)
  refine cSeq ?_
  refine cRegion ?_
  refine sMkMap ?_
  refine sAllocB (bl := m.size + 2) (by simp) Z87 (by kernel_rfl) ?_
  refine sStNB (v := .map (some (m.size + 1))) (by simp) S87 rfl (by simp [evR, updO]) rfl rfl rfl ?_
  refine sNil (kSeqN ?_)
  refine cSeq ?_   -- seq 2
  refine cSeq ?_
  refine cRegion ?_
  refine sMv (v := nv _) rfl ?_
  refine sP (v := .int .u64 (Int.ofNat x0)) (conv3_104 (by omega)) ?_
  obtain ⟨v16, m16, h16, rfl, k16⟩ := spec_OnesCount (m := ((m.push (.cells true vs)).push (.map true [])).push (.cells true #[.map (some (m.size + 1))])) (x := x0) (by omega)
  rw [k16] at h16
  refine sCall1 rfl call79 rfl h16 ?_
  refine sMv (v := nv _) rfl ?_
  refine sBin rfl rfl (aInt_gtr) ?_
  refine sNil (kSeqN ?_)
  refine cCond rfl (fun c0 => ?_) (fun c0 => ?_)
  ·
    refine cSeq ?_
    refine cRegion ?_
    refine sLd (v := .map (some (m.size + 1))) A87 rfl (by simp (disch := first | omega | (simp only [Array.size_push, Array.size_setIfInBounds]; done) | (simp only [Array.size_push, Array.size_setIfInBounds]; omega)) only [gP, gPn, gS, gSn]; try rfl) rfl ?_
    refine sAs rfl ?_
    refine sNil (kSeqN ?_)
    refine cRet (kSeqR ?_)
    refine ⟨.inr rfl, _, rfl, rfl, ?_, ((Ext.push _ _).trans (.push _ _)).trans (.push _ _)⟩
    rw [farM, if_pos c0]
    unfold MapAt; rw [gPn (by simp), gP (by simp)]; rfl
  ·
    have hg0 : GoodE N.length [(x0, 0)] := .one hx0
    have hf0 : farM (needsM N) k x0 = farF (needsM N) k (1025 - 0) 0 [(x0, 0)] := by rw [farM, if_neg c0]
    refine cSkip (kSeqN ?_)
    refine cSeq ?_
    refine cRegion ?_
    refine sLd (v := .map (some (m.size + 1))) A87 rfl (by simp (disch := first | omega | (simp only [Array.size_push, Array.size_setIfInBounds]; done) | (simp only [Array.size_push, Array.size_setIfInBounds]; omega)) only [gP, gPn, gS, gSn]; try rfl) rfl ?_
    refine sMv (v := nv _) rfl ?_
    refine sMapNew (b := m.size + 1) (k := x0) (u := 0) (es := []) MT87 (by unfold MapAt; rw [gPn (by simp), gP (by simp)]; rfl) rfl rfl rfl rfl ?_
    refine sNil (kSeqN ?_)
    refine cSeq ?_
    refine cRegion ?_
    refine sMv (v := nv _) rfl ?_
    refine sBuildS T25 S3 Z3 (by decide) (by decide) (by decide) (by kernel_rfl) fill1 rfl ?_
    refine sAllocB (bl := m.size + 4) (by simp) Z25 (by kernel_rfl) ?_
    refine sStNB (v := .slice _ _ _) (by simp) S25 rfl rfl rfl rfl rfl ?_
    refine sNil (kSeqN ?_)
    refine cSeq ?_
    refine cSeq ?_
    refine cRegion ?_
    refine sAllocB (bl := m.size + 5) (by simp) Z3 (by kernel_rfl) ?_
    refine sStNB (v := nv 0) (by simp) S3 rfl rfl rfl rfl rfl ?_
    refine sNil (kSeqN ?_)
    refine cBlock ?_
    refine wpC_loop (fun k' ρ m' => ∃ i c9 es v, k' = 1025 - i ∧ i ≤ es.length ∧ GoodE N.length es ∧ farM (needsM N) k x0 = farF (needsM N) k (1025 - i) i es ∧ m.size + 5 ≤ c9 ∧ FarV m vs c9 i es v m' ∧ Has ρ [(2, nv k), (3, .pointer (some ⟨m.size, 0, none⟩)), (7, .pointer (some ⟨m.size + 2, 0, none⟩)), (8, .pointer (some ⟨m.size + 4, 0, none⟩)), (9, .pointer (some ⟨c9, 0, none⟩))]) ⟨0, m.size + 5, [(x0, 0)], .slice (some ⟨m.size + 3, 0, some 1⟩) 1 1, rfl, by simp, hg0, hf0, Nat.le_refl _, ⟨?_, (by simp (disch := first | omega | (simp only [Array.size_push, Array.size_setIfInBounds]; done) | (simp only [Array.size_push, Array.size_setIfInBounds]; omega)) only [gP, gPn, gS, gSn]; try rfl), ?_, (by simp (disch := first | omega | (simp only [Array.size_push, Array.size_setIfInBounds]; done) | (simp only [Array.size_push, Array.size_setIfInBounds]; omega)) only [gP, gPn, gS, gSn]; try rfl), ?_, ?_, ?_, ?_, ?_⟩, rfl, rfl, rfl, rfl, rfl, trivial⟩ ?_
    · exact (((((Low.push _ (by simp) _).trans (.push _ (by simp) _)).trans (.set (Nat.le_refl _) _)).trans (.push _ (by simp) _)).trans (.push _ (by simp) _)).trans (.push _ (by simp) _)
    · unfold MapAt; simp (disch := first | omega | (simp only [Array.size_push, Array.size_setIfInBounds]; done) | (simp only [Array.size_push, Array.size_setIfInBounds]; omega)) only [gP, gPn, gS, gSn]; try rfl
    · rw [gPn (by simp), gP (by simp)]; simp
    · refine .inr ⟨m.size + 3, 1, #[nv x0], rfl, by omega, ?_, by simp, by simp, by simp, fun j hj => by simp [cellsN]⟩
      rw [gPn (by simp), gPn (by simp), gP (by simp)]
    · intro e; have := Option.some.inj e; simp at this
    · intro e; have := Option.some.inj e; simp at this
    · intro e; have := Option.some.inj e; simp at this
    rintro k' ρ m' ⟨i, c9, es, v, rfl, hi, hg, hf, h9, hv, hh⟩
    obtain ⟨qv, cv, rfl⟩ := hv.own.len
    rw [hh.env]; clear hh
    have hel := hg.length
    have ha := hv.gm
    have hb := hv.g9
    have hc := hv.gl
    have hvs0 := hv.low.cells (show m.size < m.size + 1 by omega) (gP rfl)
    have hl4 := live hc
    have hl9 := live hb
    refine cSeq ?_   -- seq 9
    refine cSeq ?_
    refine cRegion ?_
    refine sLd A3 rfl (by simp (disch := first | omega | (simp only [Array.size_push, Array.size_setIfInBounds]; done) | (simp only [Array.size_push, Array.size_setIfInBounds]; omega)) only [gP, gPn, gS, gSn, ha, hb, hc, hvs0]; try rfl) rfl ?_
    refine sLd (v := .slice qv es.length cv) A25 rfl (by simp (disch := first | omega | (simp only [Array.size_push, Array.size_setIfInBounds]; done) | (simp only [Array.size_push, Array.size_setIfInBounds]; omega)) only [gP, gPn, gS, gSn, ha, hb, hc, hvs0]; try rfl) rfl ?_
    refine sLen T25 rfl ?_
    refine sBin rfl rfl (aInt_lss) ?_
    refine sNil (kSeqN ?_)
    refine cCond rfl (fun c1 => ?_) (fun c1 => ?_)
    ·
      obtain ⟨x, d, hp⟩ : ∃ x d, es[i]? = some (x, d) := ⟨es[i].1, es[i].2, List.getElem?_eq_getElem c1⟩
      have hxl : x < 2 ^ N.length := hg.lt _ (List.mem_of_getElem? hp)
      have hdi : d ≤ i := hg.low i _ hp
      have hkx := keys_get hp
      obtain ⟨bl, cl, cc, hq, hbl, hcl, hcc, hcg⟩ := hv.own.at (by omega)
      cases hq
      have hxc : cc[i]? = some (nv x) := by rw [hcg i (by omega)]; exact cellsN_get hkx
      have hE : Ext m m' := Low.to_ext (.push _ _) hv.low (Nat.le_succ _)
      refine cSkip (kSeqN ?_)
      refine cSeq ?_
      refine cBlock ?_
      refine cSeq ?_
      refine cDraw rfl ?_
      refine sLdAll A79 S79 rfl (by simp (disch := first | omega | (simp only [Array.size_push, Array.size_setIfInBounds]; done) | (simp only [Array.size_push, Array.size_setIfInBounds]; omega)) only [gP, gPn, gS, gSn, ha, hb, hc, hvs0]; try rfl) hvs ?_
      refine sLd (v := .slice _ _ _) A25 rfl (by simp (disch := first | omega | (simp only [Array.size_push, Array.size_setIfInBounds]; done) | (simp only [Array.size_push, Array.size_setIfInBounds]; omega)) only [gP, gPn, gS, gSn, ha, hb, hc, hvs0]; try rfl) rfl ?_
      refine sLd A3 rfl (by simp (disch := first | omega | (simp only [Array.size_push, Array.size_setIfInBounds]; done) | (simp only [Array.size_push, Array.size_setIfInBounds]; omega)) only [gP, gPn, gS, gSn, ha, hb, hc, hvs0]; try rfl) rfl ?_
      refine sIx T25 S3 rfl rfl (by omega) ?_
      refine sLd (v := nv x) A3 rfl hcl (by rw [Nat.zero_add, Nat.mul_one]; exact hxc) ?_
      refine sMv (v := nv _) rfl ?_
      obtain ⟨v36, m36, h36, rfl, k36⟩ := spec_ways (m := m') (vs := vs) (x := x) (k := k)
      refine sCall3 rfl call91 rfl rfl rfl h36 ?_
      have hz36 : m36.size = m'.size + 3 := by rw [← k36]; simp
      have e36 : Ext m' m36 := by rw [← k36]; exact ((Ext.push _ _).trans (.push _ _)).trans (.push _ _)
      have w1 : Mem.get m36 m'.size = .cells true vs := by rw [← k36, gPn (by simp; omega), gPn (by simp), gP rfl]
      have w2 : Mem.get m36 (m'.size + 1) = .cells true #[nv x] := by rw [← k36, gPn (by simp), gP (by simp)]
      have w3 : Mem.get m36 (m'.size + 2) = .cells true #[nv k] := by rw [← k36, gP (by simp)]
      clear k36
      refine sNil (kSeqN ?_)
      refine cBlock ?_
      refine cRangeJ (by kernel_rfl) mixed (by kernel_rfl) rfl call102 ?_
      intro R B hround
      rw [hz36]
      rw [hz36] at hround
      have hgn : ∀ n, n ≤ N.length → GoodE N.length (roundE (needsM N) k x d n es) := fun n hn => hg.round hxl (by omega) n hn
      have hJ : ∀ n m1 m2, n < N.length → wayB (needsM N) k x n = true → (∃ v, FarJ m vs c9 i m'.size (m'.size + 3) x k R (roundE (needsM N) k x d n es) v m1) → Ext m1 m2 → ∃ m3, ARound Tryd.prog (m'.size + 3) #[.agg #[nv n, nv (x ^^^ 2 ^ n)]] m2 (.bool true) m3 ∧ ((∀ c, m1.size ≤ c → c < m2.size → Mem.get m3 c = Mem.get m2 c) ∧ Mem.get m3 (m'.size + 2) = Mem.get m2 (m'.size + 2) ∧ ∃ v, FarJ m vs c9 i m'.size (m'.size + 3) x k R (roundE (needsM N) k x d (n + 1) es) v m3) := by
        rintro n m1 m2 hn hw ⟨v, hj1⟩ he12
        have hj2 := hj1.ext he12
        refine hround m2 _ _ hj2.lp ?_
        have hgen := hgn n (by omega)
        have hget := roundE_get (P := needsM N) (k := k) (x := x) (d := d) hp n
        have hnext : roundE (needsM N) k x d (n + 1) es = stepE (d + 1) (x ^^^ 2 ^ n) (roundE (needsM N) k x d n es) := by rw [roundE, if_pos hw]
        rw [hnext]
        generalize roundE (needsM N) k x d n es = en at *
        have hlx := hgen.look hget
        have hlen := hgen.length
        have hen : i < en.length := (List.getElem?_eq_some_iff.1 hget).1
        have hlp1 : m'.size + 3 < m1.size := Mem.lt_of_live (by rw [hj1.lp]; rfl)
        have hlp2 : m'.size + 3 < m2.size := Mem.lt_of_live (by rw [hj2.lp]; rfl)
        have hjm := (hj2.ext (.push _ (.cells true #[nv n, nv (x ^^^ 2 ^ n)]))).setL (by omega) B
        obtain ⟨qw, cw, rfl⟩ := hj1.far.own.len
        have b1 := hjm.far.gm
        have b2 := hjm.far.g9
        have b3 := hjm.far.gl
        have b4 : Mem.get ((m2.push (.cells true #[nv n, nv (x ^^^ 2 ^ n)])).setIfInBounds (m'.size + 3) (.loop B)) m2.size = .cells true #[nv n, nv (x ^^^ 2 ^ n)] := by rw [gSn (by omega), gP rfl]
        have hms : m2.size + 1 = ((m2.push (.cells true #[nv n, nv (x ^^^ 2 ^ n)])).setIfInBounds (m'.size + 3) (.loop B)).size := by simp
        have hfr : ∀ c, c < m2.size → c ≠ m'.size + 3 → Mem.get ((m2.push (.cells true #[nv n, nv (x ^^^ 2 ^ n)])).setIfInBounds (m'.size + 3) (.loop B)) c = Mem.get m2 c := fun c h1 h2 => by rw [gSn (fun e => h2 e.symm), gPn h1]
        refine cRegion ?_
        refine sAlloc Z116 (by kernel_rfl) ?_
        refine sStNA S116 rfl rfl rfl rfl (by kernel_rfl) ?_
        refine sNil ?_
        refine ⟨rfl, by rw [gPn (by omega)]; exact hj2.lp, ?_⟩
        generalize hmm : (m2.push (.cells true #[nv n, nv (x ^^^ 2 ^ n)])).setIfInBounds (m'.size + 3) (.loop B) = mm at *
        have hl42 := live b3
        have hl1m := hjm.far.map.lt
        refine cBlock ?_
        refine cSeq ?_
        refine cRegion ?_
        refine sLd (v := .map _) A87 rfl (by simp (disch := first | omega | (simp only [Array.size_push, Array.size_setIfInBounds]; done) | (simp only [Array.size_push, Array.size_setIfInBounds]; omega)) only [gP, gPn, gS, gSn, b1, b2, b3, b4]; try rfl) rfl ?_
        refine sFA F116_1 rfl ?_
        refine sLd (v := nv (x ^^^ 2 ^ n)) A3 rfl (by simp (disch := first | omega | (simp only [Array.size_push, Array.size_setIfInBounds]; done) | (simp only [Array.size_push, Array.size_setIfInBounds]; omega)) only [gP, gPn, gS, gSn, b1, b2, b3, b4]; try rfl) rfl ?_
        refine sLookOk MT87 hjm.far.map rfl rfl ?_
        refine sMv (v := .tuple _) rfl ?_
        refine sP (v := nv _) rfl ?_   -- extract ['t38', '0']
        refine sP (v := .bool _) rfl ?_   -- extract ['t38', '1']
        refine sAs (v := nv _) rfl ?_
        refine sAs (v := .bool _) rfl ?_
        refine sNil (kSeqN ?_)
        refine cSeq ?_
        refine cRegion ?_
        refine sMv (v := .bool _) rfl ?_
        refine sP (v := .bool (!(lookE en (x ^^^ 2 ^ n)).isSome)) rfl ?_
        refine sNil (kSeqN ?_)
        refine cCond (p := lookE en (x ^^^ 2 ^ n) = none) (by show Value.bool _ = Value.bool _; cases lookE en (x ^^^ 2 ^ n) <;> rfl) (fun c2 => ?_) (fun c2 => ?_)
        ·
          refine cSeq ?_
          refine cDraw rfl ?_
          refine sLd (v := .map _) A87 rfl (by simp (disch := first | omega | (simp only [Array.size_push, Array.size_setIfInBounds]; done) | (simp only [Array.size_push, Array.size_setIfInBounds]; omega)) only [gP, gPn, gS, gSn, b1, b2, b3, b4]; try rfl) rfl ?_
          refine sFA F116_1 rfl ?_
          refine sLd (v := nv (x ^^^ 2 ^ n)) A3 rfl (by simp (disch := first | omega | (simp only [Array.size_push, Array.size_setIfInBounds]; done) | (simp only [Array.size_push, Array.size_setIfInBounds]; omega)) only [gP, gPn, gS, gSn, b1, b2, b3, b4]; try rfl) rfl ?_
          refine sLd (v := .map _) A87 rfl (by simp (disch := first | omega | (simp only [Array.size_push, Array.size_setIfInBounds]; done) | (simp only [Array.size_push, Array.size_setIfInBounds]; omega)) only [gP, gPn, gS, gSn, b1, b2, b3, b4]; try rfl) rfl ?_
          obtain ⟨bw, capw, ccw, hqw, hbw, hcw, hcsw, hcgw⟩ := hjm.far.own.at (by omega)
          cases hqw
          refine sLd (v := .slice _ _ _) A25 rfl (by simp (disch := first | omega | (simp only [Array.size_push, Array.size_setIfInBounds]; done) | (simp only [Array.size_push, Array.size_setIfInBounds]; omega)) only [gP, gPn, gS, gSn, b1, b2, b3, b4]; try rfl) rfl ?_
          refine sLd A3 rfl (by simp (disch := first | omega | (simp only [Array.size_push, Array.size_setIfInBounds]; done) | (simp only [Array.size_push, Array.size_setIfInBounds]; omega)) only [gP, gPn, gS, gSn, b1, b2, b3, b4]; try rfl) rfl ?_
          refine sIx T25 S3 rfl rfl hen ?_
          refine sLd (v := nv x) A3 rfl hcw (by rw [Nat.zero_add, Nat.mul_one, hcgw i (by omega)]; exact cellsN_get (keys_get hget)) ?_
          refine sLook (k := x) MT87 hjm.far.map rfl rfl ?_
          rw [hlx]
          refine sBin (a := d) (b := 1) rfl rfl (aInt_add (by omega)) ?_
          refine sMapNew (k := x ^^^ 2 ^ n) (u := d + 1) MT87 hjm.far.map rfl rfl rfl c2 ?_
          refine sNil (kSeqN ?_)
          refine cRegion ?_
          refine sLd (v := .slice _ _ _) A25 rfl (by simp (disch := first | omega | (simp only [Array.size_push, Array.size_setIfInBounds]; done) | (simp only [Array.size_push, Array.size_setIfInBounds]; omega)) only [gP, gPn, gS, gSn, b1, b2, b3, b4]; try rfl) rfl ?_
          refine sFA F116_1 rfl ?_
          refine sLd (v := nv (x ^^^ 2 ^ n)) A3 rfl (by simp (disch := first | omega | (simp only [Array.size_push, Array.size_setIfInBounds]; done) | (simp only [Array.size_push, Array.size_setIfInBounds]; omega)) only [gP, gPn, gS, gSn, b1, b2, b3, b4]; try rfl) rfl ?_
          refine sBuildS T25 S3 Z3 (by decide) (by decide) (by decide) (by kernel_rfl) fill1 rfl ?_
          refine sAppC El25 rfl rfl (N := m.size + 1) (n := en.length) (cs := cellsN (keysE en)) (d := #[nv (x ^^^ 2 ^ n)]) ?_ (gP rfl) rfl (by kernel_rfl) (by simp; omega) (by omega) fun v' m4 hO hL hGr => ?_
          · exact (hjm.far.own.keep fun b hb => gSn (i := m.size + 1) fun e => by
              obtain ⟨c, hc⟩ := hjm.far.own.live hb
              have := hjm.far.map; unfold MapAt at this; rw [e, hc] at this; cases this).ext (.push _ _)
          have hadd := hjm.add h9 (by omega) (by omega) hO hL hGr
          obtain ⟨q', cap', rfl⟩ := hO.len
          have g4 : Mem.get m4 (m.size + 4) = .cells true #[.slice (some ⟨bw, 0, some 1⟩) en.length cw] := by
            rw [hGr.2.1 _ (by simp; omega) hjm.far.o4, gPn (by simp; omega), gSn (by omega), b3]
          refine sSt (v := .slice _ _ _) S25 rfl rfl g4 (by simp) rfl rfl ?_
          refine sNil (kBlkN ?_)
          obtain ⟨ha1, ha2⟩ := hadd
          refine ⟨rfl, ha1.lp, fun c hc1 hc2 => ?_, ?_, .slice q' (en.length + 1) cap', ?_⟩
          · rw [gSn (by omega)]; exact (ha2 c (by omega) (by omega) (by omega) (fun e => by have := hj1.far.own.lt e; omega)).trans (hfr c hc2 (by omega))
          · rw [gSn (by omega)]; exact (ha2 _ (by omega) (by omega) (by omega) hjm.q3).trans (hfr _ (by omega) (by omega))
          · rw [stepE, if_pos c2]
            exact ha1.setL (by omega) R
        ·
          refine cSkip (kBlkN ?_)
          refine ⟨rfl, hjm.lp, fun c hc1 hc2 => ?_, ?_, .slice qw en.length cw, ?_⟩
          · rw [gSn (by omega), hfr c hc2 (by omega)]
          · rw [gSn (by omega), hfr _ (by omega) (by omega)]
          · rw [stepE, if_neg c2]
            exact hjm.setL (by omega) R
      obtain ⟨v2, m2, h2, hor⟩ := spec_ways1 (m := m36.push (.loop R)) (lp := m'.size + 3) (p1 := m'.size) (p2 := m'.size + 1) (p3 := m'.size + 2) (N := N) (x := x) (k := k)
        (J := fun n m2 => ∃ v, FarJ m vs c9 i m'.size (m'.size + 3) x k R (roundE (needsM N) k x d n es) v m2) (D := fun _ => False) hN (by omega)
        (fun n m2 ⟨v, h⟩ => ⟨true, true, true, vs, h.w1, hB.ext (Low.to_ext (.push _ _) h.far.low (Nat.le_succ _)), h.w2, h.w3⟩)
        (fun n m2 m3 ⟨v, h⟩ he => ⟨v, h.ext he⟩)
        (fun n m2 hn hw ⟨v, h⟩ => ⟨v, by rw [roundE, if_neg (by rw [hw]; decide)]; exact h⟩)
        (fun n m1 m2 hn hw h1 he => by
          obtain ⟨m3, r1, r2, r3, r4⟩ := hJ n m1 m2 hn hw h1 he
          exact ⟨true, m3, r1, r2, r3, fun _ => r4, fun e => by cases e⟩)
        ⟨_, (hv.ext e36).ext (.push _ _), by rw [gPn (by omega)]; exact w1, by rw [gPn (by omega)]; exact w2, by rw [gPn (by omega)]; exact w3, gP (by omega), fun e => by have := hv.own.lt e; omega, fun e => by have := hv.own.lt e; omega, fun e => by have := hv.own.lt e; omega⟩
      obtain ⟨v', hj'⟩ := hor.resolve_right id
      have hfin := hj'.far.setL hj'.lp (by omega) .dead
      have f9 := hfin.g9
      refine ⟨v2, m2, h2, hj'.lp, (kBlkN (kBlkN (kSeqN ?_)))⟩
      refine cSeq ?_
      refine cSeq ?_
      refine cRegion ?_
      refine sLd (v := nv i) A3 rfl f9 rfl ?_
      refine sNil (kSeqN ?_)
      refine cRegion ?_
      refine sAlloc Z3 (by kernel_rfl) ?_
      refine sStN (v := nv i) S3 rfl rfl rfl rfl rfl ?_
      refine sNil (kSeqN ?_)
      refine cRegion ?_
      refine sLd (v := nv i) A3 rfl (gP rfl) rfl ?_
      refine sBin rfl rfl (aInt_add (b := 1) (by omega)) ?_
      refine sSt (v := nv (i + 1)) S3 rfl rfl (gP rfl) (by simp) rfl rfl ?_
      refine sNil (kSeqN ?_)
      have hsz2 : m.size + 4 < (m2.setIfInBounds (m'.size + 3) .dead).size := live hfin.gl
      have hlr := roundE_len (needsM N) k x d es N.length
      have hfin2 := hfin.ext (.push _ (.cells true #[nv i]))
      refine ⟨_, ?_, i + 1, (m2.setIfInBounds (m'.size + 3) .dead).size, roundE (needsM N) k x d N.length es, v', rfl, by omega, hgn _ (Nat.le_refl _), ?_, by omega, ?_, rfl, rfl, rfl, rfl, rfl, trivial⟩
      · omega
      · rw [hf, show 1025 - i = (1025 - (i + 1)) + 1 by omega, farF, hp]
        simp only [hpl]
      · rw [push_set]
        have hfe := hfin.ext (.push _ (.cells true (#[nv i].setIfInBounds 0 (nv (i + 1)))))
        exact ⟨hfe.low, hfe.gm, hfe.map, gP rfl, hfe.gl, hfe.own, hfe.o2, hfe.o4, fun e => by have := hfin.own.lt e; omega⟩
    ·
      refine cExit (kSeqE (kSeqE (kBlkS (kSeqN ?_))))
      refine cSeq ?_
      refine cRegion ?_
      refine sLd (v := .map _) A87 rfl (by simp (disch := first | omega | (simp only [Array.size_push, Array.size_setIfInBounds]; done) | (simp only [Array.size_push, Array.size_setIfInBounds]; omega)) only [gP, gPn, gS, gSn, ha, hb, hc, hvs0]; try rfl) rfl ?_
      refine sAs rfl ?_
      refine sNil (kSeqN ?_)
      refine cRet ?_
      obtain rfl : i = es.length := by omega
      refine ⟨.inr rfl, _, rfl, rfl, ?_, Low.to_ext (.push _ _) hv.low (Nat.le_succ _)⟩
      have : farF (needsM N) k (1025 - es.length) es.length es = es := by
        rw [show 1025 - es.length = (1024 - es.length) + 1 by omega, farF, List.getElem?_eq_none (Nat.le_refl _)]
      rw [hf, this]; exact hv.map

end Go.AM

/-! ### M25 -/
namespace Go.AM
set_option linter.unusedVariables false
set_option linter.unusedSimpArgs false
structure Bfs (P : List Nat) (k g : Nat) (es : List (Nat × Nat)) : Prop where
  good : GoodE P.length es
  zero : ∀ p ∈ es, p.2 = 0 → p.1 = g
  root : (g, 0) ∈ es
  par : ∀ p ∈ es, 0 < p.2 → ∃ n x, n < P.length ∧ (x, p.2 - 1) ∈ es ∧ p.1 = x ^^^ 2 ^ n ∧ wayB P k x n = true
  pop : ∀ p ∈ es, popc p.1 ≤ k
theorem Bfs.step {P : List Nat} {k g x d n : Nat} {es : List (Nat × Nat)} (h : Bfs P k g es) (hx : (x, d) ∈ es) (hn : n < P.length) (hw : wayB P k x n = true) (hd : d ≤ es.length) (hd' : d + 1 ≤ es.length) : Bfs P k g (stepE (d + 1) (x ^^^ 2 ^ n) es) := by
  have hg := h.good.step (d := d + 1) hd' (y := x ^^^ 2 ^ n) (Nat.xor_lt_two_pow (h.good.lt _ hx) (Nat.pow_lt_pow_right (by omega) hn))
  have hpo : popc (x ^^^ 2 ^ n) ≤ k := by
    unfold wayB at hw
    rw [Bool.and_eq_true] at hw
    exact of_decide_eq_true hw.2
  unfold stepE at *
  split
  · rename_i hl
    rw [if_pos hl] at hg
    refine ⟨hg, ?_, List.mem_append_left _ h.root, ?_, ?_⟩
    · intro p hp h0
      rcases List.mem_append.1 hp with hp | hp
      · exact h.zero p hp h0
      · rw [List.mem_singleton.1 hp] at h0; cases h0
    · intro p hp h0
      rcases List.mem_append.1 hp with hp | hp
      · obtain ⟨n', x', a1, a2, a3⟩ := h.par p hp h0
        exact ⟨n', x', a1, List.mem_append_left _ a2, a3⟩
      · rw [List.mem_singleton.1 hp]
        exact ⟨n, x, hn, List.mem_append_left _ hx, rfl, hw⟩
    · intro p hp
      rcases List.mem_append.1 hp with hp | hp
      · exact h.pop p hp
      · rw [List.mem_singleton.1 hp]; exact hpo
  · exact h
theorem stepE_mem {d y : Nat} {es : List (Nat × Nat)} {p : Nat × Nat} (h : p ∈ es) : p ∈ stepE d y es := by
  unfold stepE; split
  · exact List.mem_append_left _ h
  · exact h
theorem roundE_mem {P : List Nat} {k x d : Nat} {es : List (Nat × Nat)} {p : Nat × Nat} (h : p ∈ es) : ∀ n, p ∈ roundE P k x d n es
  | 0 => h
  | n + 1 => by
    rw [roundE]; split
    · exact stepE_mem (roundE_mem h n)
    · exact roundE_mem h n
theorem Bfs.round {P : List Nat} {k g x d : Nat} {es : List (Nat × Nat)} (h : Bfs P k g es) (hx : (x, d) ∈ es) (hd : d < es.length) : ∀ n, n ≤ P.length → Bfs P k g (roundE P k x d n es)
  | 0, _ => h
  | n + 1, hn => by
    rw [roundE]
    have ih := Bfs.round h hx hd n (by omega)
    split
    · rename_i hw
      have := roundE_len P k x d es n
      exact ih.step (roundE_mem hx n) (by omega) hw (by omega) (by omega)
    · exact ih
theorem Bfs.far {P : List Nat} {k g : Nat} : ∀ (f i : Nat) {es : List (Nat × Nat)}, Bfs P k g es → Bfs P k g (farF P k f i es)
  | 0, _, _, h => h
  | f + 1, i, es, h => by
    rw [farF]
    split
    · exact h
    · rename_i p hp
      have h1 := h.good.low i p hp
      have h2 := (List.getElem?_eq_some_iff.1 hp).1
      exact Bfs.far f (i + 1) (h.round (x := p.1) (d := p.2) (List.mem_of_getElem? hp) (by omega) _ (Nat.le_refl _))
theorem farM_bfs {P : List Nat} {k g : Nat} (hg : g < 2 ^ P.length) (hk : popc g ≤ k) : Bfs P k g (farM P k g) := by
  rw [farM, if_neg (by omega)]
  refine Bfs.far _ _ ⟨.one hg, ?_, by simp, ?_, ?_⟩
  · intro p hp _; rw [List.mem_singleton.1 hp]
  · intro p hp h0; rw [List.mem_singleton.1 hp] at h0; cases h0
  · intro p hp; rw [List.mem_singleton.1 hp]; exact hk
/-- What is needed by a node has less numbers. -/
def LowP (P : List Nat) : Prop := ∀ (i x : Nat), P[i]? = some x → x < 2 ^ i
theorem Dag.lowP {N : List (List Nat)} (h : Dag N) : LowP (needsM N) := fun i x hx => h.needs_lt hx
theorem getD_lowP {P : List Nat} (h : LowP P) (n : Nat) : P.getD n 0 < 2 ^ n := by
  rw [List.getD_eq_getElem?_getD]
  cases hn : P[n]? with
  | none => exact Nat.two_pow_pos n
  | some x => exact h n x hn
theorem xor_and_low {x n q : Nat} (hq : q < 2 ^ n) : (x ^^^ 2 ^ n) &&& q = x &&& q := by
  apply Nat.eq_of_testBit_eq
  intro i
  rw [Nat.testBit_and, Nat.testBit_and, Nat.testBit_xor, Nat.testBit_two_pow]
  by_cases h : n = i
  · subst h
    rw [Nat.testBit_lt_two_pow hq]; simp
  · rw [decide_eq_false h]; simp
theorem mayM_back {P : List Nat} (h : LowP P) (x n : Nat) : mayM P (x ^^^ 2 ^ n) n = mayM P x n := by
  unfold mayM
  rw [xor_and_low (getD_lowP h n)]
theorem xor_xor (x n : Nat) : x ^^^ 2 ^ n ^^^ 2 ^ n = x := by rw [Nat.xor_assoc, Nat.xor_self, Nat.xor_zero]
theorem Bfs.back {P : List Nat} {k g y d : Nat} {es : List (Nat × Nat)} (h : Bfs P k g es) (hP : LowP P) (hy : lookE es y = some (d + 1)) : ∃ n, n < P.length ∧ wayB P k y n = true ∧ lookE es (y ^^^ 2 ^ n) = some d := by
  obtain ⟨n, x, hn, hx, hyx, hw⟩ := h.par _ (lookE_mem hy) (Nat.succ_pos d)
  simp only at hyx hx
  subst hyx
  refine ⟨n, hn, ?_, ?_⟩
  · unfold wayB at *
    rw [Bool.and_eq_true] at *
    rw [mayM_back hP, xor_xor]
    exact ⟨hw.1, decide_eq_true (h.pop _ hx)⟩
  · rw [xor_xor]; exact lookE_of_mem h.good.once hx
def hitB (P : List Nat) (k : Nat) (es : List (Nat × Nat)) (d y n : Nat) : Bool := wayB P k y n && decide (lookE es (y ^^^ 2 ^ n) = some d)
/-- The first move that leads nearer. -/
def nextN (P : List Nat) (k : Nat) (es : List (Nat × Nat)) (d y : Nat) : Nat := (List.range P.length).findIdx (hitB P k es d y)
def pathF (P : List Nat) (k : Nat) (es : List (Nat × Nat)) : Nat → Nat → List Nat
  | 0, _ => []
  | d + 1, y => nextN P k es d y :: pathF P k es d (y ^^^ 2 ^ nextN P k es d y)
theorem pathF_len (P : List Nat) (k : Nat) (es : List (Nat × Nat)) : ∀ (d y : Nat), (pathF P k es d y).length = d
  | 0, _ => rfl
  | d + 1, y => by rw [pathF, List.length_cons, pathF_len]
theorem nextN_spec {P : List Nat} {k g y d : Nat} {es : List (Nat × Nat)} (h : Bfs P k g es) (hP : LowP P) (hy : lookE es y = some (d + 1)) :
    nextN P k es d y < P.length ∧ hitB P k es d y (nextN P k es d y) = true ∧ ∀ j, j < nextN P k es d y → hitB P k es d y j = false := by
  obtain ⟨n, hn, hw, hl⟩ := h.back hP hy
  have hex : ∃ x ∈ List.range P.length, hitB P k es d y x = true := ⟨n, List.mem_range.2 hn, by rw [hitB, hw, decide_eq_true hl]; rfl⟩
  have hlt : nextN P k es d y < P.length := by
    have := List.findIdx_lt_length.2 hex
    rwa [List.length_range] at this
  refine ⟨hlt, ?_, fun j hj => ?_⟩
  · have := List.findIdx_getElem (xs := List.range P.length) (p := hitB P k es d y) (w := by rw [List.length_range]; exact hlt)
    rw [List.getElem_range] at this
    exact this
  · have := List.not_of_lt_findIdx (xs := List.range P.length) (p := hitB P k es d y) (i := j) hj
    rw [List.getElem_range] at this
    simpa using this
def shortM (P : List Nat) (k g : Nat) : List Nat := pathF P k (farM P k g) ((lookE (farM P k g) 0).getD 0) 0
def isShort (P : List Nat) (k g : Nat) : Bool := (lookE (farM P k g) 0).isSome
theorem Bfs.zero_iff {P : List Nat} {k g y d : Nat} {es : List (Nat × Nat)} (h : Bfs P k g es) (hy : lookE es y = some d) : y = g ↔ d = 0 := by
  constructor
  · intro e
    subst e
    have := lookE_of_mem h.good.once h.root
    rw [hy] at this; exact Option.some.inj this
  · intro e
    exact h.zero _ (lookE_mem hy) e
end Go.AM

/-! ### P12 -/
namespace Go.AM
open Go.Proofs
set_option maxRecDepth 100000
set_option linter.unusedVariables false
set_option linter.unusedSimpArgs false
theorem B116i {a : Int} {b : Nat} : aBuild Tryd.prog 116 [(0, .int .i64 a), (1, nv b)] = some (.agg #[.int .i64 a, nv b]) := by kernel_rfl
theorem und116b : (match undOf Tryd.prog 116 with
    | some (.struct fs) => fs.toList.map (fun f => (f.name == "_", f.type, f.offset))
    | _ => []) = [(false, 3, 0), (false, 3, 1)] := by kernel_rfl
theorem und116 : ∃ f1 f2 : Field, undOf Tryd.prog 116 = some (.struct #[f1, f2]) ∧ f1.name ≠ "_" ∧ f2.name ≠ "_" ∧ f1.type = 3 ∧ f2.type = 3 ∧ f1.offset = 0 ∧ f2.offset = 1 := by
  have h := und116b
  split at h
  · rename_i fs hu
    obtain ⟨l⟩ := fs
    match l, h with
    | [f1, f2], h =>
      simp only [List.map_cons, List.map_nil, List.cons.injEq, Prod.mk.injEq, beq_eq_false_iff_ne] at h
      exact ⟨f1, f2, hu, h.1.1, h.2.1.1, h.1.2.1, h.2.1.2.1, h.1.2.2, h.2.1.2.2⟩
  · cases h
theorem neq116 {a : Int} {x y : Nat} : aBin Tryd.prog .neq 116 (.agg #[.int .i64 a, nv x]) (.agg #[.int .i64 a, nv y]) = some (.bool (decide (x ≠ y))) := by
  have hG : Tryd.prog.eqGuardType Tryd.prog.depth 116 = false := by kernel_rfl
  have hS : Tryd.prog.stoodInHeld 116 = false := by kernel_rfl
  obtain ⟨f1, f2, hu, n1, n2, t1, t2, o1, o2⟩ := und116
  have h3 : ∀ b c : Int, aEq Tryd.prog 5 3 (.int .i64 b) (.int .i64 c) = some (b == c) := fun b c => by
    simp only [aEq, U3, aEq0, if_true]
  have e : aEq Tryd.prog (5 + 1) 116 (.agg #[.int .i64 a, nv x]) (.agg #[.int .i64 a, nv y]) = some (decide (x = y)) := by
    rw [aEq.eq_def]
    simp only [hu, hS, aEqFields, t1, t2, o1, o2, aPart, A3, nv]
    rw [if_neg (by decide), if_pos n1]
    simp only [List.getElem?_toArray, List.getElem?_cons_zero, List.getElem?_cons_succ, h3, beq_self_eq_true]
    rw [if_pos n2]
    have : (Int.ofNat x == Int.ofNat y) = decide (x = y) := by
      rw [Bool.eq_iff_iff]; simp; exact Int.ofNat_inj
    rw [this]
    by_cases h : x = y
    · rw [decide_eq_true h]
    · rw [decide_eq_false h]
  simp only [aBin, eqAble, hG]
  rw [show eqDepth = 5 + 1 from rfl, e]
  by_cases h : x = y <;> simp [h]
theorem OwnC.toF {N : Nat} {m : Mem} {v : Value} {L : List Nat} (h : OwnC N m v 1 L.length (cellsN L)) : OwnF N m v (ofs L) := by
  rcases h with ⟨rfl, h, _⟩ | ⟨b, cap, c, rfl, h2, h3, h4, h5, h6, h7⟩
  · obtain rfl := List.length_eq_zero_iff.1 h
    exact .nil _ _
  · refine .inr ⟨b, cap, c, by rw [ofs_length], h2, h3, by rw [ofs_length]; exact h4, by omega, fun i x hi => ?_⟩
    simp only [ofs, List.getElem?_map, Option.map_eq_some_iff] at hi
    obtain ⟨y, hy, rfl⟩ := hi
    have := (List.getElem?_eq_some_iff.1 hy).1
    rw [h7 i (by omega)]; exact cellsN_get hy
/-- The shortest game at work: its moves L in the list v, where it is (a, y). -/
structure ShV (M : Mem) (c13 : Nat) (a : Int) (y mb : Nat) (L : List Nat) (v : Value) (m' : Mem) : Prop where
  low : Low M.size M m'
  g9 : Mem.get m' M.size = .cells true #[.map (some mb)]
  gl : Mem.get m' (M.size + 1) = .cells true #[v]
  gw : Mem.get m' c13 = .cells true #[.int .i64 a, nv y]
  own : OwnC M.size m' v 1 L.length (cellsN L)
  o0 : blkOf v ≠ some M.size
  o1 : blkOf v ≠ some (M.size + 1)
  o3 : blkOf v ≠ some c13
theorem ShV.ext {M : Mem} {c13 : Nat} {a : Int} {y mb : Nat} {L : List Nat} {v : Value} {m' m'' : Mem} (h : ShV M c13 a y mb L v m') (he : Ext m' m'') : ShV M c13 a y mb L v m'' :=
  ⟨h.low.trans_ext he (by have := live h.g9; omega), he.cells h.g9, he.cells h.gl, he.cells h.gw, h.own.ext he, h.o0, h.o1, h.o3⟩
theorem ShV.setL {M : Mem} {c13 lp : Nat} {a : Int} {y mb : Nat} {L : List Nat} {v : Value} {m' : Mem} {X : ALoop} (h : ShV M c13 a y mb L v m') (hl : Mem.get m' lp = .loop X) (hlp : M.size ≤ lp) (o : AObj) : ShV M c13 a y mb L v (m'.setIfInBounds lp o) := by
  have hne : ∀ {b : Nat} {r : Bool} {c : Array Value}, Mem.get m' b = .cells r c → lp ≠ b := fun hb e => by subst e; rw [hb] at hl; cases hl
  exact ⟨h.low.trans (.set hlp _), by rw [gSn (hne h.g9)]; exact h.g9, by rw [gSn (hne h.gl)]; exact h.gl, by rw [gSn (hne h.gw)]; exact h.gw, h.own.keep fun b hb => by
    obtain ⟨c, hc⟩ := h.own.live hb
    exact gSn (hne hc), h.o0, h.o1, h.o3⟩
structure ShJ (M : Mem) (vs : Array Value) (c13 p1 lp k : Nat) (X : ALoop) (a : Int) (y mb : Nat) (L : List Nat) (v : Value) (m' : Mem) : Prop where
  sh : ShV M c13 a y mb L v m'
  w1 : Mem.get m' p1 = .cells true vs
  w2 : Mem.get m' (p1 + 1) = .cells true #[nv y]
  w3 : Mem.get m' (p1 + 2) = .cells true #[nv k]
  lp : Mem.get m' lp = .loop X
theorem ShJ.ext {M : Mem} {vs : Array Value} {c13 p1 lp k : Nat} {X : ALoop} {a : Int} {y mb : Nat} {L : List Nat} {v : Value} {m' m'' : Mem} (h : ShJ M vs c13 p1 lp k X a y mb L v m') (he : Ext m' m'') : ShJ M vs c13 p1 lp k X a y mb L v m'' :=
  ⟨h.sh.ext he, he.cells h.w1, he.cells h.w2, he.cells h.w3, by rw [he.2 lp (Mem.lt_of_live (by rw [h.lp]; rfl)), h.lp]⟩
theorem ShJ.setL {M : Mem} {vs : Array Value} {c13 p1 lp k : Nat} {X : ALoop} {a : Int} {y mb : Nat} {L : List Nat} {v : Value} {m' : Mem} (h : ShJ M vs c13 p1 lp k X a y mb L v m') (hlp : M.size ≤ lp) (Y : ALoop) : ShJ M vs c13 p1 lp k Y a y mb L v (m'.setIfInBounds lp (.loop Y)) := by
  have hne : ∀ {b : Nat} {r : Bool} {c : Array Value}, Mem.get m' b = .cells r c → lp ≠ b := fun hb e => by subst e; have := h.lp; rw [hb] at this; cases this
  exact ⟨h.sh.setL h.lp hlp _, by rw [gSn (hne h.w1)]; exact h.w1, by rw [gSn (hne h.w2)]; exact h.w2, by rw [gSn (hne h.w3)]; exact h.w3, gS rfl (Mem.lt_of_live (by rw [h.lp]; rfl))⟩
/-- One move more: it is appended to the list, the list and the place are put back. -/
theorem ShV.hit {M : Mem} {c13 : Nat} {a : Int} {y mb n z : Nat} {L : List Nat} {v v' : Value} {m' M4 : Mem} (h : ShV M c13 a y mb L v m') (h13 : M.size + 2 ≤ c13) (hO : OwnC M.size M4 v' 1 (L.length + 1) (cellsN L ++ #[nv n])) (hL : Low M.size (m'.push (.cells true #[nv n])) M4) (hG : Grew (m'.push (.cells true #[nv n])) v M4 v') :
    ShV M c13 (Int.ofNat n) z mb (L ++ [n]) v' ((M4.setIfInBounds (M.size + 1) (.cells true #[v'])).setIfInBounds c13 (.cells true #[nv n, nv z])) ∧
    ∀ c, c < m'.size → c ≠ M.size + 1 → c ≠ c13 → blkOf v ≠ some c → Mem.get ((M4.setIfInBounds (M.size + 1) (.cells true #[v'])).setIfInBounds c13 (.cells true #[nv n, nv z])) c = Mem.get m' c := by
  have hl0 := live h.g9
  have hl1 := live h.gl
  have hl3 := live h.gw
  have hsz : m'.size + 1 ≤ M4.size := by have := hG.1; simpa using this
  have hM4 : ∀ c, c < m'.size → blkOf v ≠ some c → Mem.get M4 c = Mem.get m' c := fun c hc hv => by
    rw [hG.2.1 c (by simp; omega) hv, gPn hc]
  have hM : ∀ c, c < m'.size → c ≠ M.size + 1 → c ≠ c13 → blkOf v ≠ some c → Mem.get ((M4.setIfInBounds (M.size + 1) (.cells true #[v'])).setIfInBounds c13 (.cells true #[nv n, nv z])) c = Mem.get m' c := fun c hc h1 h2 hv => by
    rw [gSn (fun e => h2 e.symm), gSn (fun e => h1 e.symm), hM4 c hc hv]
  have hoff : ∀ {b : Nat}, b < m'.size → blkOf v ≠ some b → blkOf v' ≠ some b := fun hb hv => hG.off hv (by simp; omega)
  refine ⟨⟨?_, ?_, ?_, ?_, ?_, hoff hl0 h.o0, hoff hl1 h.o1, hoff hl3 h.o3⟩, hM⟩
  · exact (h.low.trans (.push _ (by omega) _)).trans (hL.trans ((Low.set (by omega) _).trans (.set (by omega) _)))
  · rw [hM _ hl0 (by omega) (by omega) h.o0]; exact h.g9
  · rw [gSn (by omega)]; exact gS rfl (by omega)
  · exact gS rfl (by simp; omega)
  · have e : cellsN (L ++ [n]) = cellsN L ++ #[nv n] := by simp [cellsN]
    rw [List.length_append, e]
    refine hO.keep fun b hb => ?_
    rw [gSn (fun e => by subst e; exact hoff hl3 h.o3 hb), gSn (fun e => by subst e; exact hoff hl1 h.o1 hb)]

def H63 : Nat → List (Nat × Nat) := fun id => if id = 13 then [(0,4),(5,0),(5,4),(5,7)] else []
theorem okf63 : okF Tryd.prog H63 63 69 = true := by kernel_rfl
theorem spec_shortest {m : Mem} {vs : Array Value} {N : List (List Nat)} {a : Value} {gs : List Nat} {k : Nat} (hB : BoardAt m (.agg vs) N) (hN : Dag N) (ha : IntsAt m a (ofs gs)) (hgs : Goals N.length gs) (hl : gs.length < 1000000) (hk : k < 9223372036854775808) : ∃ v m', ACalls Tryd.prog 63 #[.agg vs, a, nv k] m v m' ∧ (∃ w, v = .tuple #[w, .bool (isShort (needsM N) k (posM gs))] ∧ OwnF m.size m' w (ofs (if isShort (needsM N) k (posM gs) then shortM (needsM N) k (posM gs) else [])) ∧ Ext m m') := by
  obtain ⟨qg, cg, rfl⟩ := ha.lenN
  have h10 := hN.ten
  have hp10 : 2 ^ N.length ≤ 2 ^ 10 := Nat.pow_le_pow_right (by omega) h10
  have hpl : (needsM N).length = N.length := needsM_length N
  have hpo : posM gs < 2 ^ N.length := posM_lt hgs.lt
  have hvs : vs.size = 3 := by obtain ⟨_, _, _, _, _, _, h, _⟩ := hB; cases h; rfl
  have hv1 : vs.all Value.oneCell' = true := by obtain ⟨_, _, _, _, _, _, h, _⟩ := hB; cases h; kernel_rfl
  have he : Ext m (m.push (.cells true vs)) := .push _ _
  refine wpF (args := [_, _, _]) mixed okf63 (fn := Tryd.f63) rfl rfl rfl (by simp) ?_
  refine cSeq ?_
  refine cRegion ?_
  refine sBox (v := .agg _) rfl ?_
  refine sAs (v := .slice _ _ _) rfl ?_
  refine sAs (v := .bool _) rfl ?_
  refine sNil (kSeqN ?_)
  refine cSeq ?_
  refine cRegion ?_
  refine sMv (v := .slice _ _ _) rfl ?_
  refine sCall1 rfl call70 rfl (spec_position (ha.ext he) hl fun x hx => by have := hgs.lt x hx; omega) ?_
  refine sAs (v := nv _) rfl ?_
  refine sNil (kSeqN ?_)
  refine cSeq ?_
  refine cRegion ?_
  refine sLdAll A79 S79 rfl (by simp (disch := first | omega | (simp only [Array.size_push, Array.size_setIfInBounds]; done) | (simp only [Array.size_push, Array.size_setIfInBounds]; omega)) only [gP, gPn, gS, gSn]; try rfl) hvs ?_
  refine sMv (v := nv _) rfl ?_
  refine sMv (v := nv _) rfl ?_
  obtain ⟨v22, m22, h22, rfl, hmap, k22⟩ := spec_far (hB.ext he) hN hpo hk
  have hz22 := k22.1
  have hz22' : m.size ≤ m22.size := (he.trans k22).1
  rw [Array.size_push] at hmap hz22
  have hgood := farM_good (P := needsM N) (k := k) (x := posM gs) (by rw [hpl]; exact hpo)
  have e22 := he.trans k22
  have g3 : Mem.get m22 m.size = .cells true vs := k22.cells (gP rfl)
  rw [Array.size_push] at h22
  refine sCall3 rfl call67 rfl rfl rfl h22 ?_
  have hmb := hmap.lt
  generalize hes : farM (needsM N) k (posM gs) = es at *
  refine sAlloc Z87 (by kernel_rfl) ?_
  refine sStN (v := .map _) S87 rfl rfl rfl rfl rfl ?_
  refine sNil (kSeqN ?_)
  refine cSeq ?_
  refine cSeq ?_
  refine cRegion ?_
  refine sLd (v := .map _) A87 rfl (by simp (disch := first | omega | (simp only [Array.size_push, Array.size_setIfInBounds]; done) | (simp only [Array.size_push, Array.size_setIfInBounds]; omega)) only [gP, gPn, gS, gSn]; try rfl) rfl ?_
  refine sLookOk (k := 0) MT87 (hmap.ext (.push _ _)) rfl rfl ?_
  refine sMv (v := .tuple _) rfl ?_
  refine sP (v := nv _) rfl ?_   -- extract ['t23', '0']
  refine sP (v := .bool _) rfl ?_   -- extract ['t23', '1']
  refine sAs (v := nv _) rfl ?_
  refine sAs (v := .bool _) rfl ?_
  refine sNil (kSeqN ?_)
  refine cSeq ?_
  refine cRegion ?_
  refine sMv (v := .bool _) rfl ?_
  refine sP (v := .bool (!(lookE es 0).isSome)) rfl ?_
  refine sNil (kSeqN ?_)
  refine cCond (p := lookE es 0 = none) (by show Value.bool _ = Value.bool _; cases lookE es 0 <;> rfl) (fun c0 => ?_) (fun c0 => ?_)
  ·
    refine cSeq ?_
    refine cRegion ?_
    refine sAs (v := .slice _ _ _) rfl ?_
    refine sAs (v := .bool _) rfl ?_
    refine sNil (kSeqN ?_)
    refine cRet (kSeqR ?_)
    have hsh : isShort (needsM N) k (posM gs) = false := by rw [isShort, hes, c0]; rfl
    exact ⟨.inr rfl, _, rfl, _, by rw [hsh]; rfl, by rw [hsh, if_neg (by decide)]; exact .nil _ _, e22.trans (.push _ _)⟩
  ·
    obtain ⟨d0, hd0⟩ := Option.ne_none_iff_exists'.1 c0
    have hsh : isShort (needsM N) k (posM gs) = true := by rw [isShort, hes, hd0]; rfl
    have hsm : shortM (needsM N) k (posM gs) = pathF (needsM N) k es d0 0 := by rw [shortM, hes, hd0]; rfl
    have hpk : popc (posM gs) ≤ k := by
      refine Decidable.byContradiction fun h => ?_
      rw [farM, if_pos (by omega)] at hes
      subst hes; cases hd0
    have hbfs : Bfs (needsM N) k (posM gs) es := by rw [← hes]; exact farM_bfs (by rw [hpl]; exact hpo) hpk
    have hlow := hN.lowP
    rw [hsh, if_pos rfl, hsm]
    refine cSkip (kSeqN ?_)
    refine cSeq ?_
    refine cRegion ?_
    refine sAllocB (bl := m22.size + 1) (by simp) Z25 (by kernel_rfl) ?_
    refine sNil (kSeqN ?_)
    refine cSeq ?_
    refine cSeq ?_
    refine cRegion ?_
    refine sBuild (B116i (a := -1) (b := 0)) ?_
    refine sAllocB (bl := m22.size + 2) (by simp) Z116 (by kernel_rfl) ?_
    refine sStNAB (by simp) S116 rfl rfl rfl rfl (by kernel_rfl) ?_
    refine sNil (kSeqN ?_)
    refine cBlock ?_
    refine wpC_loop (fun k' ρ m' => ∃ d y a c13 L v, k' = d ∧ lookE es y = some d ∧ pathF (needsM N) k es d0 0 = L ++ pathF (needsM N) k es d y ∧ L.length ≤ 2000 - d ∧ m22.size + 2 ≤ c13 ∧ ShV m22 c13 a y (m.size + 2) L v m' ∧ Has ρ [(2, nv k), (3, .pointer (some ⟨m.size, 0, none⟩)), (8, nv (posM gs)), (9, .pointer (some ⟨m22.size, 0, none⟩)), (12, .pointer (some ⟨m22.size + 1, 0, none⟩)), (13, .pointer (some ⟨c13, 0, none⟩))]) ⟨d0, 0, -1, m22.size + 2, [], .slice none 0 0, rfl, hd0, rfl, by simp, Nat.le_refl _, ⟨?_, (by simp (disch := first | omega | (simp only [Array.size_push, Array.size_setIfInBounds]; done) | (simp only [Array.size_push, Array.size_setIfInBounds]; omega)) only [gP, gPn, gS, gSn]; try rfl), (by simp (disch := first | omega | (simp only [Array.size_push, Array.size_setIfInBounds]; done) | (simp only [Array.size_push, Array.size_setIfInBounds]; omega)) only [gP, gPn, gS, gSn]; try rfl), (by simp (disch := first | omega | (simp only [Array.size_push, Array.size_setIfInBounds]; done) | (simp only [Array.size_push, Array.size_setIfInBounds]; omega)) only [gP, gPn, gS, gSn]; try rfl), .nil _ _ _, by simp [blkOf], by simp [blkOf], by simp [blkOf]⟩, rfl, rfl, rfl, rfl, rfl, rfl, trivial⟩ ?_
    · exact ((Low.push _ (Nat.le_refl _) _).trans (.push _ (by simp) _)).trans (.push _ (by simp; omega) _)
    rintro k' ρ m' ⟨d, y, a, c13, L, v, rfl, hd, hpath, hLl, h13, hv, hh⟩
    obtain ⟨qv, cv, rfl⟩ := hv.own.len
    rw [hh.env]; clear hh
    have hyl : y < 2 ^ N.length := by have := hgood.lt _ (lookE_mem hd); rwa [hpl] at this
    have hdl : k' ≤ 1024 := by
      have h1 := hgood.length
      rw [hpl] at h1
      obtain ⟨j, hj, he⟩ := List.getElem_of_mem (lookE_mem hd)
      have h2 := hgood.low j _ (List.getElem?_eq_getElem hj)
      rw [he] at h2
      have : k' ≤ j := h2
      omega
    have a0 := hv.g9
    have a1 := hv.gl
    have a2 := hv.gw
    have a3 : Mem.get m' m.size = .cells true vs := hv.low.cells (by omega) g3
    have hl2 := live a2
    have hl0 := live a1
    refine cSeq ?_   -- seq 10
    refine cSeq ?_
    refine cRegion ?_
    refine sLdAll A116 S116 rfl (by simp (disch := first | omega | (simp only [Array.size_push, Array.size_setIfInBounds]; done) | (simp only [Array.size_push, Array.size_setIfInBounds]; omega)) only [gP, gPn, gS, gSn, a0, a1, a2, a3]; try rfl) rfl ?_
    refine sFA F116_0 rfl ?_
    refine sLd (v := .int _ _) A3 rfl (by simp (disch := first | omega | (simp only [Array.size_push, Array.size_setIfInBounds]; done) | (simp only [Array.size_push, Array.size_setIfInBounds]; omega)) only [gP, gPn, gS, gSn, a0, a1, a2, a3]; try rfl) rfl ?_
    refine sMv (v := nv _) rfl ?_
    refine sBuild B116i ?_
    refine sP (v := .bool (decide (y ≠ posM gs))) neq116 ?_
    refine sNil (kSeqN ?_)
    refine cCond rfl (fun c1 => ?_) (fun c1 => ?_)
    ·
      obtain ⟨d, rfl⟩ : ∃ d, k' = d + 1 := ⟨k' - 1, by have := mt (hbfs.zero_iff hd).2 c1; omega⟩
      obtain ⟨hn1, hn2, hn3⟩ := nextN_spec hbfs hlow hd
      have hE : Ext m m' := Low.to_ext e22 hv.low hz22'
      have hmap' : MapAt m' (m.size + 2) es := by unfold MapAt; rw [hv.low.2 _ hmb]; exact hmap
      rw [pathF] at hpath
      generalize hnx : nextN (needsM N) k es d y = nx at *
      have hhit : wayB (needsM N) k y nx = true ∧ lookE es (y ^^^ 2 ^ nx) = some d := by
        unfold hitB at hn2
        rw [Bool.and_eq_true] at hn2
        exact ⟨hn2.1, of_decide_eq_true hn2.2⟩
      refine cSkip (kSeqN ?_)
      refine cSeq ?_
      refine cBlock ?_
      refine cScope ?_
      refine cSeq ?_
      refine cLabel (kSeqN ?_)
      refine cSeq ?_
      refine cRegion ?_
      refine sLdAll A79 S79 rfl (by simp (disch := first | omega | (simp only [Array.size_push, Array.size_setIfInBounds]; done) | (simp only [Array.size_push, Array.size_setIfInBounds]; omega)) only [gP, gPn, gS, gSn, a0, a1, a2, a3]; try rfl) hvs ?_
      refine sFA F116_1 rfl ?_
      refine sLd (v := nv y) A3 rfl (by simp (disch := first | omega | (simp only [Array.size_push, Array.size_setIfInBounds]; done) | (simp only [Array.size_push, Array.size_setIfInBounds]; omega)) only [gP, gPn, gS, gSn, a0, a1, a2, a3]; try rfl) rfl ?_
      refine sMv (v := nv _) rfl ?_
      obtain ⟨v36, m36, h36, rfl, k36⟩ := spec_ways (m := m') (vs := vs) (x := y) (k := k)
      refine sCall3 rfl call91 rfl rfl rfl h36 ?_
      have hz36 : m36.size = m'.size + 3 := by rw [← k36]; simp
      have e36 : Ext m' m36 := by rw [← k36]; exact ((Ext.push _ _).trans (.push _ _)).trans (.push _ _)
      have w1 : Mem.get m36 m'.size = .cells true vs := by rw [← k36, gPn (by simp; omega), gPn (by simp), gP rfl]
      have w2 : Mem.get m36 (m'.size + 1) = .cells true #[nv y] := by rw [← k36, gPn (by simp), gP (by simp)]
      have w3 : Mem.get m36 (m'.size + 2) = .cells true #[nv k] := by rw [← k36, gP (by simp)]
      clear k36
      refine sNil (kSeqN ?_)
      refine cBlock ?_
      refine cRangeX (by kernel_rfl) mixed (by kernel_rfl) rfl call102 ?_
      intro R B Dn hDn hround
      rw [hz36]
      rw [hz36] at hround
      have hJ : ∀ n m1 m2, n < N.length → wayB (needsM N) k y n = true → (n ≤ nx ∧ ShJ m22 vs c13 m'.size (m'.size + 3) k R a y (m.size + 2) L (.slice qv L.length cv) m1) → Ext m1 m2 → ∃ (e : AExit) (m3 : Mem), ARound Tryd.prog (m'.size + 3) #[.agg #[nv n, nv (y ^^^ 2 ^ n)]] m2 (.bool e.jump.isNone) m3 ∧ ((∀ c, m1.size ≤ c → c < m2.size → Mem.get m3 c = Mem.get m2 c) ∧ Mem.get m3 (m'.size + 2) = Mem.get m2 (m'.size + 2) ∧ ((e = .normal ∧ n + 1 ≤ nx ∧ ShJ m22 vs c13 m'.size (m'.size + 3) k R a y (m.size + 2) L (.slice qv L.length cv) m3) ∨
            (e = .exit 2 ∧ n = nx ∧ Mem.get m3 (m'.size + 3) = .loop (Dn (.exit 2)) ∧ ∃ v, ShV m22 c13 (Int.ofNat nx) (y ^^^ 2 ^ nx) (m.size + 2) (L ++ [nx]) v m3))) := by
        rintro n m1 m2 hn hw ⟨hnn, hj1⟩ he12
        have hj2 := hj1.ext he12
        refine hround m2 _ _ hj2.lp ?_
        have hlp1 : m'.size + 3 < m1.size := Mem.lt_of_live (by rw [hj1.lp]; rfl)
        have hlp2 : m'.size + 3 < m2.size := Mem.lt_of_live (by rw [hj2.lp]; rfl)
        have hjm := (hj2.ext (.push _ (.cells true #[nv n, nv (y ^^^ 2 ^ n)]))).setL (by omega) B
        have b0 := hjm.sh.g9
        have b1 := hjm.sh.gl
        have b2 := hjm.sh.gw
        have b4 : Mem.get ((m2.push (.cells true #[nv n, nv (y ^^^ 2 ^ n)])).setIfInBounds (m'.size + 3) (.loop B)) m2.size = .cells true #[nv n, nv (y ^^^ 2 ^ n)] := by rw [gSn (by omega), gP rfl]
        have hmmap : MapAt ((m2.push (.cells true #[nv n, nv (y ^^^ 2 ^ n)])).setIfInBounds (m'.size + 3) (.loop B)) (m.size + 2) es := by unfold MapAt; rw [hjm.sh.low.2 _ hmb]; exact hmap
        have hms : m2.size + 1 = ((m2.push (.cells true #[nv n, nv (y ^^^ 2 ^ n)])).setIfInBounds (m'.size + 3) (.loop B)).size := by simp
        have hfr : ∀ c, c < m2.size → c ≠ m'.size + 3 → Mem.get ((m2.push (.cells true #[nv n, nv (y ^^^ 2 ^ n)])).setIfInBounds (m'.size + 3) (.loop B)) c = Mem.get m2 c := fun c h1 h2 => by rw [gSn (fun e => h2 e.symm), gPn h1]
        refine cRegion ?_
        refine sAlloc Z116 (by kernel_rfl) ?_
        refine sStNA S116 rfl rfl rfl rfl (by kernel_rfl) ?_
        refine sNil ?_
        refine ⟨rfl, by rw [gPn (by omega)]; exact hj2.lp, ?_⟩
        generalize hmm : (m2.push (.cells true #[nv n, nv (y ^^^ 2 ^ n)])).setIfInBounds (m'.size + 3) (.loop B) = mm at *
        refine cBlock ?_
        refine cSeq ?_
        refine cSeq ?_
        refine cRegion ?_
        refine sLd (v := .map _) A87 rfl (by simp (disch := first | omega | (simp only [Array.size_push, Array.size_setIfInBounds]; done) | (simp only [Array.size_push, Array.size_setIfInBounds]; omega)) only [gP, gPn, gS, gSn, b0, b1, b2, b4]; try rfl) rfl ?_
        refine sFA F116_1 rfl ?_
        refine sLd (v := nv (y ^^^ 2 ^ n)) A3 rfl (by simp (disch := first | omega | (simp only [Array.size_push, Array.size_setIfInBounds]; done) | (simp only [Array.size_push, Array.size_setIfInBounds]; omega)) only [gP, gPn, gS, gSn, b0, b1, b2, b4]; try rfl) rfl ?_
        refine sLookOk MT87 hmmap rfl rfl ?_
        refine sMv (v := .tuple _) rfl ?_
        refine sP (v := nv _) rfl ?_   -- extract ['t43', '0']
        refine sP (v := .bool _) rfl ?_   -- extract ['t43', '1']
        refine sAs (v := nv _) rfl ?_
        refine sAs (v := .bool _) rfl ?_
        refine sNil (kSeqN ?_)
        refine cSeq ?_
        refine cRegion ?_
        refine sMv (v := .bool _) rfl ?_
        refine sP (v := .bool (!(lookE es (y ^^^ 2 ^ n)).isSome)) rfl ?_
        refine sMv (v := .bool _) rfl ?_
        by_cases h5 : lookE es (y ^^^ 2 ^ n) = none
        ·
          rw [h5]
          refine sGno (q' := true) rfl rfl (by simp) ?_
          refine sGno (q' := true) rfl rfl (by simp) ?_
          refine sGno (q' := true) rfl rfl (by simp) ?_
          refine sGno (q' := true) rfl rfl (by simp) ?_
          refine sGno (q' := true) rfl rfl (by simp) ?_
          refine sGno (q' := true) rfl rfl (by simp) ?_
          refine sGno (q' := true) rfl rfl (by simp) ?_
          refine sP (v := .bool _) rfl ?_
          refine sNil (kSeqN ?_)
          refine cCondT rfl ?_
          refine cExit (kSeqE (kBlkS ?_))
          refine ⟨hjm.lp, fun c hc1 hc2 => ?_, ?_, .inl ⟨rfl, ?_, ?_⟩⟩
          · rw [gSn (by omega), hfr c hc2 (by omega)]
          · rw [gSn (by omega), hfr _ (by omega) (by omega)]
          · have : n ≠ nx := fun e => by subst e; rw [hhit.2] at h5; cases h5
            omega
          · rw [hDn]; exact hjm.setL (by omega) R
        ·
          obtain ⟨dd, hdd⟩ := Option.ne_none_iff_exists'.1 h5
          rw [hdd]
          refine sG rfl rfl ?_
          refine sMv (v := nv dd) rfl ?_
          refine sG rfl rfl ?_
          refine sLd (v := .map _) A87 rfl (by simp (disch := first | omega | (simp only [Array.size_push, Array.size_setIfInBounds]; done) | (simp only [Array.size_push, Array.size_setIfInBounds]; omega)) only [gP, gPn, gS, gSn, b0, b1, b2, b4]; try rfl) rfl ?_
          refine sG rfl rfl ?_
          refine sFA F116_1 rfl ?_
          refine sG rfl rfl ?_
          refine sLd (v := nv y) A3 rfl (by simp (disch := first | omega | (simp only [Array.size_push, Array.size_setIfInBounds]; done) | (simp only [Array.size_push, Array.size_setIfInBounds]; omega)) only [gP, gPn, gS, gSn, b0, b1, b2, b4]; try rfl) rfl ?_
          refine sG rfl rfl ?_
          refine sLook (k := y) MT87 hmmap rfl rfl ?_
          rw [hd]
          refine sG rfl rfl ?_
          refine sBin (v := nv d) (a := d + 1) (b := 1) rfl rfl (aInt_sub (by omega)) ?_
          refine sG rfl rfl ?_
          refine sBin (a := dd) (b := d) rfl rfl aInt_neq ?_
          refine sP (v := .bool _) rfl ?_
          refine sNil (kSeqN ?_)
          refine cCond (p := dd ≠ d) rfl (fun c3 => ?_) (fun c3 => ?_)
          ·
            refine cExit (kSeqE (kBlkS ?_))
            refine ⟨hjm.lp, fun c hc1 hc2 => ?_, ?_, .inl ⟨rfl, ?_, ?_⟩⟩
            · rw [gSn (by omega), hfr c hc2 (by omega)]
            · rw [gSn (by omega), hfr _ (by omega) (by omega)]
            · have : n ≠ nx := fun e => by subst e; rw [hhit.2] at hdd; exact c3 (Option.some.inj hdd).symm
              omega
            · rw [hDn]; exact hjm.setL (by omega) R
          ·
            have hdd' : dd = d := Decidable.not_not.1 c3
            subst hdd'
            have hnx' : n = nx := by
              refine Decidable.byContradiction fun h => ?_
              have := hn3 n (by omega)
              rw [hitB, hw, decide_eq_true hdd] at this
              cases this
            have hvb : ∀ c, m'.size ≤ c → blkOf (Value.slice qv L.length cv) ≠ some c := fun c hc e => by have := hv.own.lt e; omega
            have hl0m := live b0
            have hl1m := live b1
            have hl2m := live b2
            refine cSkip (kSeqN ?_)
            refine cSeq ?_
            refine cDrawH (hs := [(0,4),(5,0),(5,4),(5,7)]) rfl (by decide) ?_
            refine lStepLd A25 rfl (by simp (disch := first | omega | (simp only [Array.size_push, Array.size_setIfInBounds]; done) | (simp only [Array.size_push, Array.size_setIfInBounds]; omega)) only [gP, gPn, gS, gSn, b0, b1, b2, b4]; try rfl) rfl fun e0 hm0 hv0 hr0 => ?_
            refine lStepO (sFA F116_0 rfl (sNil fun e1 hm1 => ?_))
            refine lStepLd (v := nv n) A3 rfl (by simp (disch := first | omega | (simp only [Array.size_push, Array.size_setIfInBounds]; done) | (simp only [Array.size_push, Array.size_setIfInBounds]; omega)) only [gP, gPn, gS, gSn, b0, b1, b2, b4]; try rfl) rfl fun e2 hm2 hv2 hr2 => ?_
            refine lStepO (sBuildS T25 S3 Z3 (by decide) (by decide) (by decide) (by kernel_rfl) fill1 rfl (sNil fun e3 hm3 => ?_))
            refine lStepO (sAppC El25 rfl rfl (N := m22.size) (n := L.length) (cs := cellsN L) (d := #[nv n]) (hjm.sh.own.ext (.push _ _)) (gP rfl) rfl (by kernel_rfl) (by simp; omega) (by omega) fun v' m4 hO hL hGr => sNil fun e4 hm4 => ?_)
            have hadd := hjm.sh.hit (z := y ^^^ 2 ^ n) h13 hO hL hGr
            obtain ⟨q', cap', rfl⟩ := hO.len
            have g41 : Mem.get m4 (m22.size + 1) = .cells true #[.slice qv L.length cv] := by rw [hGr.2.1 _ (by simp; omega) hjm.sh.o1, gPn (by omega), b1]
            have g4w : Mem.get m4 m2.size = .cells true #[nv n, nv (y ^^^ 2 ^ n)] := by rw [hGr.2.1 _ (by simp; omega) (hvb _ (by omega)), gPn (by omega), b4]
            have g4c : Mem.get m4 c13 = .cells true #[.int .i64 a, nv y] := by rw [hGr.2.1 _ (by simp; omega) hjm.sh.o3, gPn (by omega), b2]
            refine lStepLdA A116 S116 rfl g4w rfl fun e5 hm5 hv5 hr5 => ?_
            refine lStepO (sSt (v := .slice _ _ _) S25 rfl rfl g41 (by simp) rfl rfl (sNil fun e6 hm6 => ?_))
            refine lStepO (sStAll S116 rfl rfl (by rw [gSn (by omega)]; exact g4c) rfl rfl (by kernel_rfl) (sNil fun e7 hm7 => ?_))
            refine ⟨?_, (kSeqN ?_)⟩
            ·
              refine obl_atE (e := e0) (e' := e4) (by simp) (by rfl) (by simp) ((hr0 e4.m _ _ (by rw [hm4, gPn (by omega)]; exact b1) (by rfl)).trans (congrArg some hv0.symm)) ?_
              refine obl_atE (e := e5) (e' := e0) (by simp) (by rfl) (by simp) ((hr5 e0.m _ (by rw [hm0]; exact b4)).trans (congrArg some hv5.symm)) ?_
              refine obl_atE (e := e5) (e' := e4) (by simp) (by rfl) (by simp) ((hr5 e4.m _ (by rw [hm4, gPn (by omega)]; exact b4)).trans (congrArg some hv5.symm)) ?_
              refine obl_atE (e := e5) (e' := e7) (by simp) (by rfl) (by simp) ((hr5 e7.m _ (by rw [hm7, gSn (by omega)]; exact g4w)).trans (congrArg some hv5.symm)) ?_
              trivial
            refine cExit (kBlkE (by decide) ?_)
            obtain ⟨ha1, ha2⟩ := hadd
            have hlpf := ha2 (m'.size + 3) (by omega) (by omega) (by have := live a2; omega) (hvb _ (by omega))
            refine ⟨hlpf.trans hjm.lp, fun c hc1 hc2 => ?_, ?_, .inr ⟨rfl, hnx', gS rfl (by have := hGr.1; simp only [Array.size_setIfInBounds, Array.size_push] at this ⊢; omega), .slice q' (L.length + 1) cap', ?_⟩⟩
            · rw [gSn (by omega)]; exact (ha2 c (by omega) (by omega) (by have := live a2; omega) (hvb _ (by omega))).trans (hfr c hc2 (by omega))
            · rw [gSn (by omega)]; exact (ha2 _ (by omega) (by omega) (by have := live a2; omega) (hvb _ (by omega))).trans (hfr _ (by omega) (by omega))
            · rw [← hnx']; exact ha1.setL (hlpf.trans hjm.lp) (by omega) _
      obtain ⟨v2, m2, h2, hor⟩ := spec_ways1 (m := m36.push (.loop R)) (lp := m'.size + 3) (p1 := m'.size) (p2 := m'.size + 1) (p3 := m'.size + 2) (N := N) (x := y) (k := k)
        (J := fun n m2 => n ≤ nx ∧ ShJ m22 vs c13 m'.size (m'.size + 3) k R a y (m.size + 2) L (.slice qv L.length cv) m2) (D := fun m3 => Mem.get m3 (m'.size + 3) = .loop (Dn (.exit 2)) ∧ ∃ v, ShV m22 c13 (Int.ofNat nx) (y ^^^ 2 ^ nx) (m.size + 2) (L ++ [nx]) v m3) hN (by omega)
        (fun n m2 ⟨_, h⟩ => ⟨true, true, true, vs, h.w1, hB.ext (Low.to_ext e22 h.sh.low hz22'), h.w2, h.w3⟩)
        (fun n m2 m3 ⟨h0, h⟩ he => ⟨h0, h.ext he⟩)
        (fun n m2 hn hw ⟨h0, h⟩ => ⟨by
          have : n ≠ nx := fun e => by subst e; rw [hhit.1] at hw; cases hw
          omega, h⟩)
        (fun n m1 m2 hn hw h1 he => by
          obtain ⟨e, m3, r1, r2, r3, r4⟩ := hJ n m1 m2 hn hw h1 he
          refine ⟨e.jump.isNone, m3, r1, r2, r3, fun hb => ?_, fun hb => ?_⟩
          · rcases r4 with ⟨rfl, r5, r6⟩ | ⟨rfl, _⟩
            · exact ⟨r5, r6⟩
            · cases hb
          · rcases r4 with ⟨rfl, _⟩ | ⟨rfl, _, r6⟩
            · cases hb
            · exact r6)
        ⟨Nat.zero_le _, (hv.ext e36).ext (.push _ _), by rw [gPn (by omega)]; exact w1, by rw [gPn (by omega)]; exact w2, by rw [gPn (by omega)]; exact w3, gP (by omega)⟩
      obtain ⟨hrec, v', hsv⟩ := hor.resolve_left fun h => by have := h.1; omega
      have hfin := hsv.setL hrec (by have := hv.low.1; omega) .dead
      have f2 := hfin.gw
      refine ⟨v2, m2, .exit 2, h2, hrec, (kBlkS (kBlkN (kSeqN ?_)))⟩
      refine cSeq ?_
      refine cRegion ?_
      refine sLdAll A116 S116 rfl f2 rfl ?_
      refine sNil (kSeqN ?_)
      refine cRegion ?_
      refine sAlloc Z116 (by kernel_rfl) ?_
      refine sStNA S116 rfl rfl rfl rfl (by kernel_rfl) ?_
      refine sNil (kSeqN ?_)
      have hfe := hfin.ext (.push _ (.cells true #[nv nx, nv (y ^^^ 2 ^ nx)]))
      refine ⟨d, by omega, d, y ^^^ 2 ^ nx, Int.ofNat nx, (m2.setIfInBounds (m'.size + 3) .dead).size, L ++ [nx], v', rfl, hhit.2, by rw [hpath, List.append_assoc]; rfl, by simp; omega, by have := live hfin.gl; omega, ⟨hfe.low, hfe.g9, hfe.gl, gP rfl, hfe.own, hfe.o0, hfe.o1, fun e => by have := hfin.own.lt e; omega⟩, rfl, rfl, rfl, rfl, rfl, rfl, trivial⟩
    ·
      have hd0' : k' = 0 := (hbfs.zero_iff hd).1 (Decidable.not_not.1 c1)
      subst hd0'
      refine cExit (kSeqE (kSeqE (kBlkS (kSeqN ?_))))
      refine cSeq ?_
      refine cRegion ?_
      refine sLd A25 rfl (by simp (disch := first | omega | (simp only [Array.size_push, Array.size_setIfInBounds]; done) | (simp only [Array.size_push, Array.size_setIfInBounds]; omega)) only [gP, gPn, gS, gSn, a0, a1, a2, a3]; try rfl) rfl ?_
      refine sAs (v := .slice _ _ _) rfl ?_
      refine sAs (v := .bool _) rfl ?_
      refine sNil (kSeqN ?_)
      refine cRet ?_
      refine ⟨.inr rfl, _, rfl, _, rfl, ?_, Low.to_ext e22 hv.low hz22'⟩
      rw [hpath, pathF, List.append_nil]
      exact hv.own.toF.mono hz22'

end Go.AM

/-! ### M26 -/
namespace Go.AM
set_option linter.unusedVariables false
set_option linter.unusedSimpArgs false
def cellsP (r : List (Nat × Nat)) : Array Value := (r.flatMap fun p => [nv p.1, nv p.2]).toArray
theorem cellsP_append (r s : List (Nat × Nat)) : cellsP (r ++ s) = cellsP r ++ cellsP s := by simp [cellsP]
theorem flat2_len (r : List (Nat × Nat)) : (r.flatMap fun p => [nv p.1, nv p.2]).length = r.length * 2 := by
  induction r with
  | nil => rfl
  | cons p r ih => rw [List.flatMap_cons, List.length_append, ih]; simp; omega
@[simp] theorem cellsP_size (r : List (Nat × Nat)) : (cellsP r).size = r.length * 2 := by
  rw [cellsP, List.size_toArray]; exact flat2_len r
theorem cellsP_get {r : List (Nat × Nat)} {i : Nat} {p : Nat × Nat} (h : r[i]? = some p) : (cellsP r)[i * 2]? = some (nv p.1) ∧ (cellsP r)[i * 2 + 1]? = some (nv p.2) := by
  induction r generalizing i with
  | nil => simp at h
  | cons q r ih =>
    cases i with
    | zero => simp at h; subst h; exact ⟨rfl, rfl⟩
    | succ i =>
      simp at h
      have := ih h
      have e : ∀ j, (cellsP (q :: r))[j + 2]? = (cellsP r)[j]? := fun j => by simp [cellsP]
      rw [show (i + 1) * 2 = i * 2 + 2 by omega, show i * 2 + 2 + 1 = (i * 2 + 1) + 2 by omega, e, e]
      exact this
def tradeF (P : List Nat) (g : Nat) : Nat → List (Nat × Nat)
  | 0 => []
  | k + 1 => if isShort P (k + 1) g = true ∧ ((tradeF P g k).length = 0 ∨ (shortM P (k + 1) g).length < ((tradeF P g k).getLastD (0, 0)).2) then tradeF P g k ++ [(k + 1, (shortM P (k + 1) g).length)] else tradeF P g k
theorem tradeF_len (P : List Nat) (g : Nat) : ∀ k, (tradeF P g k).length ≤ k
  | 0 => Nat.le_refl _
  | k + 1 => by
    have := tradeF_len P g k
    rw [tradeF]; split
    · simp; omega
    · omega
def tradeG (G : List (List Int)) (gs : List Int) : List (Nat × Nat) := tradeF (needsM (natsG G)) (posM (nats gs)) G.length
def leastG (G : List (List Int)) (gs : List Int) : Nat := ((tradeG G gs).headD (0, 0)).1
def shortestE (G : List (List Int)) (gs : List Int) (k : Int) : Nat :=
  if withE G gs = 0 then (if k < 1 ∨ 10 < k then 3 else if isShort (needsM (natsG G)) k.toNat (posM (nats gs)) then 0 else 6) else withE G gs
def shortestG (G : List (List Int)) (gs : List Int) (k : Int) : List Nat := shortM (needsM (natsG G)) k.toNat (posM (nats gs))
def closedE (G : List (List Int)) (k : Int) : Nat := if checkG G = 0 then (if k < 0 ∨ 10 < k then 3 else 0) else checkG G
def closedUp (es : List (Nat × Nat)) (n : Nat) : List Nat := (List.range n).filter fun x => (lookE es x).isSome
def closedG (G : List (List Int)) (k : Int) : List Nat := closedUp (farM (needsM (natsG G)) k.toNat 0) (2 ^ G.length)
theorem closedUp_succ (es : List (Nat × Nat)) (n : Nat) : closedUp es (n + 1) = closedUp es n ++ (if (lookE es n).isSome then [n] else []) := by
  rw [closedUp, List.range_succ, List.filter_append, closedUp]
  congr 1
  by_cases h : (lookE es n).isSome = true
  · simp [h]
  · simp [h]
theorem closedUp_len (es : List (Nat × Nat)) (n : Nat) : (closedUp es n).length ≤ n := by
  have := List.length_filter_le (fun x => (lookE es x).isSome) (List.range n)
  rwa [List.length_range] at this
theorem shortM_len {P : List Nat} {k g : Nat} (hg : g < 2 ^ P.length) (hP : P.length ≤ 10) : (shortM P k g).length ≤ 1024 := by
  rw [shortM, pathF_len]
  cases h : lookE (farM P k g) 0 with
  | none => simp
  | some d =>
    have hg' := farM_good (k := k) hg
    have h1 := hg'.length
    obtain ⟨j, hj, he⟩ := List.getElem_of_mem (lookE_mem h)
    have h2 := hg'.low j _ (List.getElem?_eq_getElem hj)
    rw [he] at h2
    have h3 : d ≤ j := h2
    have h4 := Nat.pow_le_pow_right (n := 2) (by omega) hP
    simp only [Option.getD_some]
    omega
end Go.AM

/-! ### P13 -/
namespace Go.AM
open Go.Proofs
set_option maxRecDepth 100000
set_option linter.unusedVariables false
set_option linter.unusedSimpArgs false
theorem und35 : undOf Tryd.prog 35 = some (.slice 40) := T35
theorem bytes40 : bytesOf' Tryd.prog 40 = some 16 := by kernel_rfl
theorem El35 : ElemT Tryd.prog 35 35 2 := ⟨_, _, _, 16, T35, T35, rfl, S40, Z40, rfl, bytes40, by decide, by decide⟩
theorem B40 {a b : Nat} : aBuild Tryd.prog 40 [(0, nv a), (1, nv b)] = some (.agg #[nv a, nv b]) := by kernel_rfl
theorem fillA2 {a b : Nat} : Instr.fill (fun i => some (i * 2, 2)) (if 1 * 2 = 0 then #[] else (Array.range (1 * 2)).map ((Value.agg #[nv 0, nv 0]).cells[· % (Value.agg #[nv 0, nv 0]).cells.size]!)) [(0, .agg #[nv a, nv b])] = some #[nv a, nv b] := by kernel_rfl

theorem okf20 : okF Tryd.prog H0 20 64 = true := by kernel_rfl
theorem spec_Trade {m : Mem} {s a : Value} {G : List (List Int)} {gs : List Int} (hG : RowsAt m s G) (ha : IntsAt m a gs) (hl : gs.length < 1000000) : ∃ v m', ACalls Tryd.prog 20 #[.agg #[s], a] m v m' ∧ (∃ w, v = .tuple #[w, nv (withE G gs)] ∧ OwnC m.size m' w 2 (ifOk (withE G gs) (tradeG G gs) []).length (cellsP (ifOk (withE G gs) (tradeG G gs) [])) ∧ Ext m m') := by
  obtain ⟨q, cap, rfl⟩ := hG.len
  obtain ⟨qg, cg, rfl⟩ := ha.len
  refine wpF (args := [_, _]) mixed okf20 (fn := Tryd.f20) rfl rfl rfl (by simp) ?_
  refine cSeq ?_
  refine cRegion ?_
  refine sBox (v := .agg _) rfl ?_
  refine sAs (v := .slice _ _ _) rfl ?_
  refine sAs (v := nv 0) rfl ?_
  refine sNil (kSeqN ?_)
  refine cSeq ?_
  refine cRegion ?_
  refine sLdAll A24 S24 rfl (by simp (disch := first | omega | (simp only [Array.size_push, Array.size_setIfInBounds]; done) | (simp only [Array.size_push, Array.size_setIfInBounds]; omega)) only [gP, gPn, gS, gSn]; try rfl) rfl ?_
  refine sMv (v := .slice _ _ _) rfl ?_
  obtain ⟨v11, m11, h11, vs, rfl, hv1, hv2, hv3, k11⟩ := spec_with (hG.ext (.push _ (.cells true #[.slice q G.length cap]))) (ha.ext (.push _ _)) (by omega)
  have e11 := (Ext.push m (.cells true #[.slice q G.length cap])).trans k11
  refine sCall2 rfl call62 rfl rfl h11 ?_
  refine sMv (v := .tuple _) rfl ?_
  refine sP (v := .agg _) rfl ?_   -- extract ['t13', '0']
  refine sP (v := nv _) rfl ?_   -- extract ['t13', '1']
  refine sAllocB (bl := m11.size) rfl Z79 (by kernel_rfl) ?_
  refine sStNAB rfl S79 rfl rfl rfl hv1 hv2 ?_
  refine sAs (v := nv _) rfl ?_
  refine sNil (kSeqN ?_)
  refine cSeq ?_   -- seq 2
  refine cSeq ?_
  refine cRegion ?_
  refine sMv (v := nv _) rfl ?_
  refine sBin (a := withE G gs) rfl rfl (aInt_neq (b := 0)) ?_
  refine sNil (kSeqN ?_)
  refine cCond rfl (fun c0 => ?_) (fun c0 => ?_)
  ·
    refine cSeq ?_
    refine cRegion ?_
    refine sMv (v := nv _) rfl ?_
    refine sAs (v := .slice _ _ _) rfl ?_
    refine sAs (v := nv _) rfl ?_
    refine sNil (kSeqN ?_)
    refine cRet (kSeqR ?_)
    exact ⟨.inr rfl, _, rfl, _, rfl, by rw [ifOk_n c0]; exact .nil _ _ _, e11.trans (.push _ _)⟩
  ·
    have h0 := Decidable.not_not.1 c0
    obtain ⟨N, g, rfl, hN, rfl, hg⟩ := withE_nat h0
    have hE := e11.trans (.push m11 (.cells true vs))
    have hBO := hv3 h0 N rfl
    have hB := hBO.at ((hG.ext e11))
    obtain ⟨q2, n2, c2, rfl, hO2⟩ := hBO
    have hn2 : n2 = N.length := by obtain ⟨_, _, h⟩ := hO2.ints.lenN; cases h; exact needsM_length N
    subst hn2
    have h10 := hN.ten
    have htg : tradeG (ofs2 N) (ofs g) = tradeF (needsM N) (posM g) N.length := by rw [tradeG, natsG_ofs2, nats_ofs, ofs2_length]
    rw [ifOk_0 h0, htg]
    rw [ofs_length] at hl
    refine cSkip (kSeqN ?_)
    refine cSeq ?_
    refine cRegion ?_
    refine sAs (v := .slice _ _ _) rfl ?_
    refine sNil (kSeqN ?_)
    refine cSeq ?_
    refine cRegion ?_
    refine sLdAll A79 S79 rfl (by simp (disch := first | omega | (simp only [Array.size_push, Array.size_setIfInBounds]; done) | (simp only [Array.size_push, Array.size_setIfInBounds]; omega)) only [gP, gPn, gS, gSn]; try rfl) hv1 ?_
    refine sMFf rfl ?_
    refine sAs (v := .func (.func 63) #[.agg #[.slice q (ofs2 N).length cap, .slice q2 N.length c2, nv (2 ^ N.length - 1)]] #[]) rfl ?_
    refine sNil (kSeqN ?_)
    refine cSeq ?_
    refine cSeq ?_
    refine cRegion ?_
    refine sAs (v := nv 1) rfl ?_
    refine sNil (kSeqN ?_)
    refine cBlock ?_
    refine wpC_loop (fun k' ρ m' => ∃ k w, k' = N.length - k ∧ k ≤ N.length ∧ Low m11.size m11 m' ∧ Mem.get m' m11.size = .cells true #[.slice q (ofs2 N).length cap, .slice q2 N.length c2, nv (2 ^ N.length - 1)] ∧ OwnC (m11.size + 1) m' w 2 (tradeF (needsM N) (posM g) k).length (cellsP (tradeF (needsM N) (posM g) k)) ∧ Has ρ [(1, .slice qg (ofs g).length cg), (6, .pointer (some ⟨m11.size, 0, none⟩)), (8, w), (9, .func (.func 63) #[.agg #[.slice q (ofs2 N).length cap, .slice q2 N.length c2, nv (2 ^ N.length - 1)]] #[]), (10, nv (k + 1))]) ⟨0, _, rfl, Nat.zero_le _, .push _ (Nat.le_refl _) _, gP rfl, .nil _ _ _, rfl, rfl, rfl, rfl, rfl, trivial⟩ ?_
    rintro k' ρ m' ⟨k, w, rfl, hk, hLo, g6, hO, hh⟩
    obtain ⟨qw, cw, rfl⟩ := hO.len
    rw [hh.env]; clear hh
    have hl6 := live g6
    have hEE : Ext m m' := Low.to_ext e11 hLo e11.1
    have htl := tradeF_len (needsM N) (posM g) k
    refine cSeq ?_   -- seq 9
    refine cSeq ?_
    refine cRegion ?_
    refine sMv (v := nv (k + 1)) rfl ?_
    refine sFA F79_1 rfl ?_
    refine sLd (v := .slice _ _ _) A25 rfl (by simp (disch := first | omega | (simp only [Array.size_push, Array.size_setIfInBounds]; done) | (simp only [Array.size_push, Array.size_setIfInBounds]; omega)) only [gP, gPn, gS, gSn, g6]; try rfl) rfl ?_
    refine sLen T25 rfl ?_
    refine sBin (a := k + 1) (b := N.length) rfl rfl aInt_leq ?_
    refine sNil (kSeqN ?_)
    refine cCond rfl (fun c1 => ?_) (fun c1 => ?_)
    ·
      refine cSkip (kSeqN ?_)
      refine cSeq ?_
      refine cBlock ?_
      refine cSeq ?_
      refine cRegion ?_
      refine sMv (v := .func _ _ _) rfl ?_
      refine sMv (v := .slice _ _ _) rfl ?_
      refine sMv (v := nv (k + 1)) rfl ?_
      obtain ⟨v35, m35, h35, w35, rfl, o35, k35⟩ := spec_shortest (m := m') (k := k + 1) (hB.ext (hLo.to_ext (.refl _) (Nat.le_refl _))) hN (ha.ext hEE) hg hl (by omega)
      obtain ⟨q35, c35, rfl⟩ := o35.ints.lenN
      refine sCall (v := .tuple _) rfl call63 (by simpa [evR, updO] using h35) ?_
      have g635 := k35.cells g6
      have hsl := shortM_len (P := needsM N) (k := k + 1) (g := posM g) (by rw [needsM_length]; exact posM_lt hg.lt) (by rw [needsM_length]; exact h10)
      refine sMv (v := .tuple _) rfl ?_
      refine sP (v := .slice _ _ _) rfl ?_   -- extract ['t31', '0']
      refine sP (v := .bool _) rfl ?_   -- extract ['t31', '1']
      refine sAs (v := .slice _ _ _) rfl ?_
      refine sAs (v := .bool _) rfl ?_
      refine sNil (kSeqN ?_)
      refine cSeq ?_
      refine cRegion ?_
      refine sMv (v := .bool _) rfl ?_
      refine sMv (v := .bool _) rfl ?_
      by_cases hS : isShort (needsM N) (k + 1) (posM g) = true
      ·
        rw [hS, if_pos rfl]
        refine sG rfl rfl ?_
        refine sMv (v := .slice _ _ _) rfl ?_
        refine sG rfl rfl ?_
        refine sLen T35 rfl ?_
        refine sG rfl rfl ?_
        refine sBin (a := (tradeF (needsM N) (posM g) k).length) (b := 0) rfl rfl aInt_eql ?_
        refine sG rfl rfl ?_
        refine sMv (v := .bool _) rfl ?_
        by_cases hz : (tradeF (needsM N) (posM g) k).length = 0
        ·
          rw [decide_eq_true hz]
          refine sGno (q' := true) rfl rfl (by simp) ?_
          refine sGno (q' := true) rfl rfl (by simp) ?_
          refine sGno (q' := true) rfl rfl (by simp) ?_
          refine sGno (q' := true) rfl rfl (by simp) ?_
          refine sGno (q' := true) rfl rfl (by simp) ?_
          refine sGno (q' := true) rfl rfl (by simp) ?_
          refine sGno (q' := true) rfl rfl (by simp) ?_
          refine sGno (q' := true) rfl rfl (by simp) ?_
          refine sGno (q' := true) rfl rfl (by simp) ?_
          refine sGno (q' := true) rfl rfl (by simp) ?_
          refine sG rfl rfl ?_
          refine sP (v := .bool _) rfl ?_
          refine sP (v := .bool _) rfl ?_
          refine sNil (kSeqN ?_)
          refine cCondT rfl ?_
          refine cRegion ?_
          refine sMv (v := .slice _ _ _) rfl ?_
          refine sMv (v := nv (k + 1)) rfl ?_
          refine sMv (v := .slice _ _ _) rfl ?_
          refine sLen T25 rfl ?_
          refine sBuild B40 ?_   -- t60 ['40', '[(0,t57), (1,t59)]']
          refine sBuildS T35 S40 Z40 (by decide) (by decide) (by decide) (by kernel_rfl) fillA2 rfl ?_
          refine sAppC El35 rfl rfl (N := m11.size + 1) (n := (tradeF (needsM N) (posM g) k).length) (cs := cellsP (tradeF (needsM N) (posM g) k)) (d := #[nv (k + 1), nv (shortM (needsM N) (k + 1) (posM g)).length]) ((hO.ext k35).ext (.push _ _)) (gP rfl) rfl (by kernel_rfl) (by have := k35.1; simp; omega) (by omega) fun v' m4 hO4 hL4 hG4 => ?_
          have g64 := hL4.cells (show m11.size < m11.size + 1 by omega) ((gPn (live g635)).trans g635)
          have hLo4 : Low m11.size m11 m4 := hLo.trans ((Low.of_ext k35 (by omega)).trans ((Low.push _ (by have := k35.1; omega) _).trans (hL4.le (Nat.le_succ _))))
          obtain ⟨q4, cp4, rfl⟩ := hO4.len
          refine sAs (v := .slice _ _ _) rfl ?_
          refine sNil (kBlkN (kSeqN ?_))
          refine cRegion ?_
          refine sMv (v := nv (k + 1)) rfl ?_
          refine sBin rfl rfl (aInt_add (b := 1) (by omega)) ?_
          refine sAs (v := nv _) rfl ?_
          refine sNil (kSeqN ?_)
          have ht : tradeF (needsM N) (posM g) (k + 1) = tradeF (needsM N) (posM g) k ++ [(k + 1, (shortM (needsM N) (k + 1) (posM g)).length)] := by rw [tradeF, if_pos ⟨hS, .inl hz⟩]
          refine ⟨_, ?_, k + 1, _, rfl, by omega, hLo4, g64, by rw [ht, cellsP_append, List.length_append]; exact hO4, rfl, rfl, rfl, rfl, rfl, trivial⟩
          omega
        ·
          rw [decide_eq_false hz]
          refine sG rfl rfl ?_
          refine sMv (v := .slice _ _ _) rfl ?_
          refine sG rfl rfl ?_
          refine sLen T25 rfl ?_
          refine sG rfl rfl ?_
          refine sMv (v := .slice _ _ _) rfl ?_
          refine sG rfl rfl ?_
          refine sMv (v := .slice _ _ _) rfl ?_
          refine sG rfl rfl ?_
          refine sLen T35 rfl ?_
          refine sG rfl rfl ?_
          refine sBin (b := 1) rfl rfl (aInt_sub (b := 1) (by omega)) ?_
          refine sG rfl rfl ?_
          obtain ⟨bw, capw, cc, hq, hbw, hcw, hcs, hcg⟩ := hO.at (by omega)
          cases hq
          have hcw35 := k35.cells hcw
          refine sIx T35 S40 rfl rfl (by omega) ?_
          refine sG rfl rfl ?_
          refine sIxA (i := 1) T40 S3 rfl rfl (by omega) ?_
          refine sG rfl rfl ?_
          obtain ⟨pl, hpl⟩ : ∃ pl, (tradeF (needsM N) (posM g) k)[(tradeF (needsM N) (posM g) k).length - 1]? = some pl := ⟨_, List.getElem?_eq_getElem (by omega)⟩
          have hlast : (tradeF (needsM N) (posM g) k).getLastD (0, 0) = pl := by rw [List.getLastD_eq_getLast?, List.getLast?_eq_getElem?, hpl]; rfl
          refine sLd (v := nv pl.2) A3 rfl hcw35 (by
            show cc[0 + ((tradeF (needsM N) (posM g) k).length - 1) * 2 + 1 * 1]? = _
            rw [Nat.zero_add, Nat.one_mul, hcg _ (by omega)]; exact (cellsP_get hpl).2) ?_
          refine sG rfl rfl ?_
          refine sBin (a := (shortM (needsM N) (k + 1) (posM g)).length) (b := pl.2) rfl rfl aInt_lss ?_
          refine sG rfl rfl ?_
          refine sP (v := .bool _) rfl ?_
          refine sP (v := .bool _) rfl ?_
          refine sNil (kSeqN ?_)
          refine cCond (p := (shortM (needsM N) (k + 1) (posM g)).length < pl.2) rfl (fun c3 => ?_) (fun c3 => ?_)
          ·
            refine cRegion ?_
            refine sMv (v := .slice _ _ _) rfl ?_
            refine sMv (v := nv (k + 1)) rfl ?_
            refine sMv (v := .slice _ _ _) rfl ?_
            refine sLen T25 rfl ?_
            refine sBuild B40 ?_   -- t60 ['40', '[(0,t57), (1,t59)]']
            refine sBuildS T35 S40 Z40 (by decide) (by decide) (by decide) (by kernel_rfl) fillA2 rfl ?_
            refine sAppC El35 rfl rfl (N := m11.size + 1) (n := (tradeF (needsM N) (posM g) k).length) (cs := cellsP (tradeF (needsM N) (posM g) k)) (d := #[nv (k + 1), nv (shortM (needsM N) (k + 1) (posM g)).length]) ((hO.ext k35).ext (.push _ _)) (gP rfl) rfl (by kernel_rfl) (by have := k35.1; simp; omega) (by omega) fun v' m4 hO4 hL4 hG4 => ?_
            have g64 := hL4.cells (show m11.size < m11.size + 1 by omega) ((gPn (live g635)).trans g635)
            have hLo4 : Low m11.size m11 m4 := hLo.trans ((Low.of_ext k35 (by omega)).trans ((Low.push _ (by have := k35.1; omega) _).trans (hL4.le (Nat.le_succ _))))
            obtain ⟨q4, cp4, rfl⟩ := hO4.len
            refine sAs (v := .slice _ _ _) rfl ?_
            refine sNil (kBlkN (kSeqN ?_))
            refine cRegion ?_
            refine sMv (v := nv (k + 1)) rfl ?_
            refine sBin rfl rfl (aInt_add (b := 1) (by omega)) ?_
            refine sAs (v := nv _) rfl ?_
            refine sNil (kSeqN ?_)
            have ht : tradeF (needsM N) (posM g) (k + 1) = tradeF (needsM N) (posM g) k ++ [(k + 1, (shortM (needsM N) (k + 1) (posM g)).length)] := by rw [tradeF, if_pos ⟨hS, .inr (by rw [hlast]; exact c3)⟩]
            refine ⟨_, ?_, k + 1, _, rfl, by omega, hLo4, g64, by rw [ht, cellsP_append, List.length_append]; exact hO4, rfl, rfl, rfl, rfl, rfl, trivial⟩
            omega
          ·
            refine cSkip (kBlkN (kSeqN ?_))
            refine cRegion ?_
            refine sMv (v := nv (k + 1)) rfl ?_
            refine sBin rfl rfl (aInt_add (b := 1) (by omega)) ?_
            refine sAs (v := nv _) rfl ?_
            refine sNil (kSeqN ?_)
            have hnn : ¬ (isShort (needsM N) (k + 1) (posM g) = true ∧ ((tradeF (needsM N) (posM g) k).length = 0 ∨ (shortM (needsM N) (k + 1) (posM g)).length < ((tradeF (needsM N) (posM g) k).getLastD (0, 0)).2)) := fun h => h.2.elim hz fun h => c3 (by rw [hlast] at h; exact h)
            have ht : tradeF (needsM N) (posM g) (k + 1) = tradeF (needsM N) (posM g) k := by rw [tradeF, if_neg hnn]
            refine ⟨_, ?_, k + 1, _, rfl, by omega, hLo.trans (Low.of_ext k35 (by omega)), g635, by rw [ht]; exact hO.ext k35, rfl, rfl, rfl, rfl, rfl, trivial⟩
            omega
      ·
        rw [Bool.not_eq_true] at hS
        rw [hS, if_neg (by decide)]
        refine sGno (q' := false) rfl rfl (by simp) ?_
        refine sGno (q' := false) rfl rfl (by simp) ?_
        refine sGno (q' := false) rfl rfl (by simp) ?_
        refine sGno (q' := false) rfl rfl (by simp) ?_
        refine sGnoU rfl rfl ?_
        refine sGnoU rfl rfl ?_
        refine sGnoU rfl rfl ?_
        refine sGnoU rfl rfl ?_
        refine sGnoU rfl rfl ?_
        refine sGnoU rfl rfl ?_
        refine sGnoU rfl rfl ?_
        refine sGnoU rfl rfl ?_
        refine sGnoU rfl rfl ?_
        refine sGnoU rfl rfl ?_
        refine sGno (q' := false) rfl rfl (by simp) ?_
        refine sP (v := .bool _) rfl ?_
        refine sNil (kSeqN ?_)
        refine cCondF rfl ?_
        refine cSkip (kBlkN (kSeqN ?_))
        refine cRegion ?_
        refine sMv (v := nv (k + 1)) rfl ?_
        refine sBin rfl rfl (aInt_add (b := 1) (by omega)) ?_
        refine sAs (v := nv _) rfl ?_
        refine sNil (kSeqN ?_)
        have ht : tradeF (needsM N) (posM g) (k + 1) = tradeF (needsM N) (posM g) k := by rw [tradeF, if_neg (fun h => by rw [hS] at h; cases h.1)]
        refine ⟨_, ?_, k + 1, _, rfl, by omega, hLo.trans (Low.of_ext k35 (by omega)), g635, by rw [ht]; exact hO.ext k35, rfl, rfl, rfl, rfl, rfl, trivial⟩
        omega
    ·
      refine cExit (kSeqE (kSeqE (kBlkS (kSeqN ?_))))
      refine cSeq ?_
      refine cRegion ?_
      refine sMv (v := .slice _ _ _) rfl ?_
      refine sAs (v := .slice _ _ _) rfl ?_
      refine sAs (v := nv 0) rfl ?_
      refine sNil (kSeqN ?_)
      refine cRet ?_
      obtain rfl : k = N.length := by omega
      exact ⟨.inr rfl, _, rfl, _, by rw [h0]; rfl, hO.mono (by have := e11.1; omega), hEE⟩

theorem okf16 : okF Tryd.prog H0 16 21 = true := by kernel_rfl
theorem spec_Least {m : Mem} {s a : Value} {G : List (List Int)} {gs : List Int} (hG : RowsAt m s G) (ha : IntsAt m a gs) (hl : gs.length < 1000000) (hne : withE G gs = 0 → tradeG G gs ≠ []) : ∃ v m', ACalls Tryd.prog 16 #[.agg #[s], a] m v m' ∧ (v = .tuple #[nv (ifOk (withE G gs) (leastG G gs) 0), nv (withE G gs)] ∧ Ext m m') := by
  obtain ⟨q, cap, rfl⟩ := hG.len
  obtain ⟨qg, cg, rfl⟩ := ha.len
  refine wpF (args := [_, _]) mixed okf16 (fn := Tryd.f16) rfl rfl rfl (by simp) ?_
  refine cSeq ?_
  refine cRegion ?_
  refine sBox (v := .agg _) rfl ?_
  refine sAs (v := nv 0) rfl ?_
  refine sAs (v := nv 0) rfl ?_
  refine sNil (kSeqN ?_)
  refine cSeq ?_
  refine cRegion ?_
  refine sLdAll A24 S24 rfl (by simp (disch := first | omega | (simp only [Array.size_push, Array.size_setIfInBounds]; done) | (simp only [Array.size_push, Array.size_setIfInBounds]; omega)) only [gP, gPn, gS, gSn]; try rfl) rfl ?_
  refine sMv (v := .slice _ _ _) rfl ?_
  obtain ⟨v11, m11, h11, w11, rfl, o11, k11⟩ := spec_Trade (hG.ext (.push _ (.cells true #[.slice q G.length cap]))) (ha.ext (.push _ _)) hl
  have e11 := (Ext.push m (.cells true #[.slice q G.length cap])).trans k11
  obtain ⟨q11, c11, rfl⟩ := o11.len
  refine sCall2 rfl call20 rfl rfl h11 ?_
  refine sMv (v := .tuple _) rfl ?_
  refine sP (v := .slice _ _ _) rfl ?_   -- extract ['t8', '0']
  refine sP (v := nv _) rfl ?_   -- extract ['t8', '1']
  refine sAs (v := .slice _ _ _) rfl ?_
  refine sAs (v := nv _) rfl ?_
  refine sNil (kSeqN ?_)
  refine cSeq ?_   -- seq 2
  refine cSeq ?_
  refine cRegion ?_
  refine sMv (v := nv _) rfl ?_
  refine sBin (a := withE G gs) rfl rfl (aInt_neq (b := 0)) ?_
  refine sNil (kSeqN ?_)
  refine cCond rfl (fun c0 => ?_) (fun c0 => ?_)
  ·
    refine cSeq ?_
    refine cRegion ?_
    refine sMv (v := nv _) rfl ?_
    refine sAs (v := nv 0) rfl ?_
    refine sAs (v := nv _) rfl ?_
    refine sNil (kSeqN ?_)
    refine cRet (kSeqR ?_)
    exact ⟨.inr rfl, _, rfl, by rw [show ifOk (withE G gs) (leastG G gs) 0 = 0 from ifOk_n c0 _ _]; rfl, e11⟩
  ·
    have h0 := Decidable.not_not.1 c0
    rw [ifOk_0 h0] at o11
    rw [ifOk_0 h0, ifOk_0 h0]
    obtain ⟨pl, rl, hpl⟩ := List.exists_cons_of_ne_nil (hne h0)
    obtain ⟨b1, cp1, cc, hq, hb1, hc1, hcs, hcg⟩ := o11.at (by rw [hpl]; simp)
    cases hq
    refine cSkip (kSeqN ?_)
    refine cSeq ?_
    refine cRegion ?_
    refine sMv (v := .slice _ _ _) rfl ?_
    refine sIx (i := 0) T35 S40 rfl rfl (by rw [hpl]; simp) ?_
    refine sIxA (i := 0) T40 S3 rfl rfl (by omega) ?_
    refine sLd (v := nv pl.1) A3 rfl hc1 (by
      show cc[0 + 0 * 2 + 0 * 1]? = _
      rw [show 0 + 0 * 2 + 0 * 1 = 0 from rfl, hcg 0 (by rw [hpl]; simp), hpl]; rfl) ?_
    refine sAs (v := nv _) rfl ?_
    refine sAs (v := nv 0) rfl ?_
    refine sNil (kSeqN ?_)
    refine cRet ?_
    exact ⟨.inr rfl, _, rfl, by rw [h0, leastG, hpl]; rfl, e11⟩

theorem okf18 : okF Tryd.prog H0 18 39 = true := by kernel_rfl
theorem spec_Shortest {m : Mem} {s a : Value} {G : List (List Int)} {gs : List Int} {k : Int} (hG : RowsAt m s G) (ha : IntsAt m a gs) (hl : gs.length < 1000000) : ∃ v m', ACalls Tryd.prog 18 #[.agg #[s], a, .int .i64 k] m v m' ∧ (∃ w, v = .tuple #[w, nv (shortestE G gs k)] ∧ OwnF m.size m' w (ofs (ifOk (shortestE G gs k) (shortestG G gs k) [])) ∧ Ext m m') := by
  obtain ⟨q, cap, rfl⟩ := hG.len
  obtain ⟨qg, cg, rfl⟩ := ha.len
  unfold shortestE
  refine wpF (args := [_, _, _]) mixed okf18 (fn := Tryd.f18) rfl rfl rfl (by simp) ?_
  refine cSeq ?_
  refine cRegion ?_
  refine sBox (v := .agg _) rfl ?_
  refine sAs (v := .slice _ _ _) rfl ?_
  refine sAs (v := nv 0) rfl ?_
  refine sNil (kSeqN ?_)
  refine cSeq ?_
  refine cRegion ?_
  refine sLdAll A24 S24 rfl (by simp (disch := first | omega | (simp only [Array.size_push, Array.size_setIfInBounds]; done) | (simp only [Array.size_push, Array.size_setIfInBounds]; omega)) only [gP, gPn, gS, gSn]; try rfl) rfl ?_
  refine sMv (v := .slice _ _ _) rfl ?_
  obtain ⟨v11, m11, h11, vs, rfl, hv1, hv2, hv3, k11⟩ := spec_with (hG.ext (.push _ (.cells true #[.slice q G.length cap]))) (ha.ext (.push _ _)) (by omega)
  have e11 := (Ext.push m (.cells true #[.slice q G.length cap])).trans k11
  refine sCall2 rfl call62 rfl rfl h11 ?_
  refine sMv (v := .tuple _) rfl ?_
  refine sP (v := .agg _) rfl ?_   -- extract ['t12', '0']
  refine sP (v := nv _) rfl ?_   -- extract ['t12', '1']
  refine sAlloc Z79 (by kernel_rfl) ?_
  refine sStNA S79 rfl rfl rfl hv1 hv2 ?_
  refine sAs (v := nv _) rfl ?_
  refine sNil (kSeqN ?_)
  refine cSeq ?_
  refine cBlock ?_
  refine cSeq ?_
  refine cRegion ?_
  refine sMv (v := nv _) rfl ?_
  refine sBin (a := withE G gs) rfl rfl (aInt_neq (b := 0)) ?_
  refine sAs (v := .bool _) rfl ?_
  refine sNil (kSeqN ?_)
  refine cCond rfl (fun c0 => ?_) (fun c0 => ?_)
  ·
    refine cSeq ?_
    refine cRegion ?_
    refine sMv (v := nv _) rfl ?_
    refine sAs (v := .slice _ _ _) rfl ?_
    refine sAs (v := nv _) rfl ?_
    refine sNil (kSeqN ?_)
    refine cRet (kBlkR (kSeqR ?_))
    exact ⟨.inr rfl, _, rfl, _, by rw [if_neg c0]; rfl, by rw [if_neg c0, ifOk_n c0]; exact .nil _ _, e11.trans (.push _ _)⟩
  ·
    have h0 := Decidable.not_not.1 c0
    rw [if_pos h0]
    obtain ⟨N, g, rfl, hN, rfl, hg⟩ := withE_nat h0
    have hE := e11.trans (.push m11 (.cells true vs))
    have hB := (hv3 h0 N rfl).at ((hG.ext e11))
    rw [ofs_length] at hl
    refine cSeq ?_
    refine cRegion ?_
    refine sMv (v := .int _ _) rfl ?_
    refine sBinI (v := .bool (decide (k < 1))) rfl rfl rfl ?_
    refine sMv (v := .bool _) rfl ?_
    by_cases h1 : k < 1
    ·
      rw [decide_eq_true h1]
      refine sGno (q' := true) rfl rfl (by simp) ?_
      refine sGno (q' := true) rfl rfl (by simp) ?_
      refine sP (v := .bool _) rfl ?_
      refine sAs (v := .bool _) rfl ?_
      refine sNil (kSeqN ?_)
      refine cCondT rfl ?_
      refine cSeq ?_
      refine cRegion ?_
      refine sAs (v := .slice _ _ _) rfl ?_
      refine sAs (v := nv 3) rfl ?_
      refine sNil (kSeqN ?_)
      refine cRet (kBlkR (kSeqR ?_))
      exact ⟨.inr rfl, _, rfl, _, by rw [if_pos (.inl h1)]; rfl, by rw [if_pos (.inl h1), ifOk_n (by decide)]; exact .nil _ _, hE⟩
    ·
      rw [decide_eq_false h1]
      refine sG rfl rfl ?_
      refine sMv (v := .int _ _) rfl ?_
      refine sG rfl rfl ?_
      refine sBinI (v := .bool (decide (k > 10))) rfl rfl rfl ?_
      refine sP (v := .bool _) rfl ?_
      refine sAs (v := .bool _) rfl ?_
      refine sNil (kSeqN ?_)
      refine cCond (p := k > 10) rfl (fun c2 => ?_) (fun c2 => ?_)
      ·
        refine cSeq ?_
        refine cRegion ?_
        refine sAs (v := .slice _ _ _) rfl ?_
        refine sAs (v := nv 3) rfl ?_
        refine sNil (kSeqN ?_)
        refine cRet (kBlkR (kSeqR ?_))
        exact ⟨.inr rfl, _, rfl, _, by rw [if_pos (.inr c2)]; rfl, by rw [if_pos (.inr c2), ifOk_n (by decide)]; exact .nil _ _, hE⟩
      ·
        rw [if_neg (by omega)]
        obtain ⟨K, rfl⟩ : ∃ K : Nat, k = Int.ofNat K := ⟨k.toNat, by simp; omega⟩
        have hK : K ≤ 10 := by simp at c2; omega
        rw [shortestG, natsG_ofs2, nats_ofs, show (Int.ofNat K).toNat = K from rfl]
        refine cSkip (kBlkN (kSeqN ?_))
        refine cSeq ?_
        refine cRegion ?_
        refine sLdAll A79 S79 rfl (by simp (disch := first | omega | (simp only [Array.size_push, Array.size_setIfInBounds]; done) | (simp only [Array.size_push, Array.size_setIfInBounds]; omega)) only [gP, gPn, gS, gSn]; try rfl) hv1 ?_
        refine sMv (v := .slice _ _ _) rfl ?_
        refine sMv (v := nv K) rfl ?_
        obtain ⟨v35, m35, h35, w35, rfl, o35, k35⟩ := spec_shortest (k := K) (hB.ext (.push m11 (.cells true vs))) hN (ha.ext hE) hg hl (by omega)
        obtain ⟨q35, c35, rfl⟩ := o35.ints.lenN
        refine sCall3 rfl call63 rfl rfl rfl h35 ?_
        refine sMv (v := .tuple _) rfl ?_
        refine sP (v := .slice _ _ _) rfl ?_   -- extract ['t29', '0']
        refine sP (v := .bool _) rfl ?_   -- extract ['t29', '1']
        refine sAs (v := .slice _ _ _) rfl ?_
        refine sAs (v := .bool _) rfl ?_
        refine sNil (kSeqN ?_)
        refine cSeq ?_   -- seq 9
        refine cSeq ?_
        refine cRegion ?_
        refine sMv (v := .bool _) rfl ?_
        refine sP (v := .bool (!isShort (needsM N) K (posM g))) rfl ?_
        refine sNil (kSeqN ?_)
        refine cCond (p := isShort (needsM N) K (posM g) = false) (by show Value.bool _ = Value.bool _; cases isShort (needsM N) K (posM g) <;> rfl) (fun c3 => ?_) (fun c3 => ?_)
        ·
          refine cSeq ?_
          refine cRegion ?_
          refine sAs (v := .slice _ _ _) rfl ?_
          refine sAs (v := nv 6) rfl ?_
          refine sNil (kSeqN ?_)
          refine cRet (kSeqR ?_)
          exact ⟨.inr rfl, _, rfl, _, by rw [c3]; rfl, by rw [c3]; exact .nil _ _, hE.trans k35⟩
        ·
          refine cSkip (kSeqN ?_)
          refine cSeq ?_
          refine cRegion ?_
          refine sMv (v := .slice _ _ _) rfl ?_
          refine sAs (v := .slice _ _ _) rfl ?_
          refine sAs (v := nv 0) rfl ?_
          refine sNil (kSeqN ?_)
          refine cRet ?_
          have c3' : isShort (needsM N) K (posM g) = true := by simpa using c3
          have hz : (if isShort (needsM N) K (posM g) = true then 0 else 6 : Nat) = 0 := if_pos c3'
          refine ⟨.inr rfl, _, rfl, _, by rw [hz]; rfl, ?_, hE.trans k35⟩
          rw [hz, ifOk_0 rfl]
          have o35' := o35.mono hE.1
          rw [show (if isShort (needsM N) K (posM g) = true then shortM (needsM N) K (posM g) else []) = shortM (needsM N) K (posM g) from if_pos c3'] at o35'
          rw [show (if isShort (needsM N) K (posM g) = true then shortM (needsM N) K (posM g) else []) = shortM (needsM N) K (posM g) from if_pos c3']
          exact o35'

theorem okf25 : okF Tryd.prog H0 25 51 = true := by kernel_rfl
theorem spec_Closed {m : Mem} {s : Value} {G : List (List Int)} {k : Int} (hG : RowsAt m s G) : ∃ v m', ACalls Tryd.prog 25 #[.agg #[s], .int .i64 k] m v m' ∧ (∃ w, v = .tuple #[w, nv (closedE G k)] ∧ OwnF m.size m' w (ofs (ifOk (closedE G k) (closedG G k) [])) ∧ Ext m m') := by
  obtain ⟨q, cap, rfl⟩ := hG.len
  unfold closedE
  refine wpF (args := [_, _]) mixed okf25 (fn := Tryd.f25) rfl rfl rfl (by simp) ?_
  refine cSeq ?_
  refine cRegion ?_
  refine sBox (v := .agg _) rfl ?_
  refine sAs (v := .slice _ _ _) rfl ?_
  refine sAs (v := nv 0) rfl ?_
  refine sNil (kSeqN ?_)
  refine cSeq ?_
  refine cRegion ?_
  refine sLdAll A24 S24 rfl (by simp (disch := first | omega | (simp only [Array.size_push, Array.size_setIfInBounds]; done) | (simp only [Array.size_push, Array.size_setIfInBounds]; omega)) only [gP, gPn, gS, gSn]; try rfl) rfl ?_
  obtain ⟨v11, m11, h11, vs, rfl, hv1, hv2, hv3, k11⟩ := spec_opened (hG.ext (.push _ (.cells true #[.slice q G.length cap])))
  have e11 := (Ext.push m (.cells true #[.slice q G.length cap])).trans k11
  refine sCall1 rfl call66 rfl h11 ?_
  refine sMv (v := .tuple _) rfl ?_
  refine sP (v := .agg _) rfl ?_   -- extract ['t13', '0']
  refine sP (v := nv _) rfl ?_   -- extract ['t13', '1']
  refine sAllocB (bl := m11.size) rfl Z79 (by kernel_rfl) ?_
  refine sStNAB rfl S79 rfl rfl rfl hv1 hv2 ?_
  refine sAs (v := nv _) rfl ?_
  refine sNil (kSeqN ?_)
  refine cSeq ?_
  refine cBlock ?_
  refine cSeq ?_
  refine cRegion ?_
  refine sMv (v := nv _) rfl ?_
  refine sBin (a := checkG G) rfl rfl (aInt_neq (b := 0)) ?_
  refine sAs (v := .bool _) rfl ?_
  refine sNil (kSeqN ?_)
  refine cCond rfl (fun c0 => ?_) (fun c0 => ?_)
  ·
    refine cSeq ?_
    refine cRegion ?_
    refine sMv (v := nv _) rfl ?_
    refine sAs (v := .slice _ _ _) rfl ?_
    refine sAs (v := nv _) rfl ?_
    refine sNil (kSeqN ?_)
    refine cRet (kBlkR (kSeqR ?_))
    exact ⟨.inr rfl, _, rfl, _, by rw [if_neg c0]; rfl, by rw [if_neg c0, ifOk_n c0]; exact .nil _ _, e11.trans (.push _ _)⟩
  ·
    have h0 := Decidable.not_not.1 c0
    rw [if_pos h0]
    obtain ⟨N, rfl, hN⟩ := checkG_nat h0
    have hE := e11.trans (.push m11 (.cells true vs))
    have hB := (hv3 h0 N rfl).at ((hG.ext e11))
    refine cSeq ?_
    refine cRegion ?_
    refine sMv (v := .int _ _) rfl ?_
    refine sBinI (v := .bool (decide (k < 0))) rfl rfl rfl ?_
    refine sMv (v := .bool _) rfl ?_
    by_cases h1 : k < 0
    ·
      rw [decide_eq_true h1]
      refine sGno (q' := true) rfl rfl (by simp) ?_
      refine sGno (q' := true) rfl rfl (by simp) ?_
      refine sP (v := .bool _) rfl ?_
      refine sAs (v := .bool _) rfl ?_
      refine sNil (kSeqN ?_)
      refine cCondT rfl ?_
      refine cSeq ?_
      refine cRegion ?_
      refine sAs (v := .slice _ _ _) rfl ?_
      refine sAs (v := nv 3) rfl ?_
      refine sNil (kSeqN ?_)
      refine cRet (kBlkR (kSeqR ?_))
      exact ⟨.inr rfl, _, rfl, _, by rw [if_pos (.inl h1)]; rfl, by rw [if_pos (.inl h1), ifOk_n (by decide)]; exact .nil _ _, hE⟩
    ·
      rw [decide_eq_false h1]
      refine sG rfl rfl ?_
      refine sMv (v := .int _ _) rfl ?_
      refine sG rfl rfl ?_
      refine sBinI (v := .bool (decide (k > 10))) rfl rfl rfl ?_
      refine sP (v := .bool _) rfl ?_
      refine sAs (v := .bool _) rfl ?_
      refine sNil (kSeqN ?_)
      refine cCond (p := k > 10) rfl (fun c2 => ?_) (fun c2 => ?_)
      ·
        refine cSeq ?_
        refine cRegion ?_
        refine sAs (v := .slice _ _ _) rfl ?_
        refine sAs (v := nv 3) rfl ?_
        refine sNil (kSeqN ?_)
        refine cRet (kBlkR (kSeqR ?_))
        exact ⟨.inr rfl, _, rfl, _, by rw [if_pos (.inr c2)]; rfl, by rw [if_pos (.inr c2), ifOk_n (by decide)]; exact .nil _ _, hE⟩
      ·
        rw [if_neg (by omega)]
        obtain ⟨K, rfl⟩ : ∃ K : Nat, k = Int.ofNat K := ⟨k.toNat, by simp; omega⟩
        have hK : K ≤ 10 := by simp at c2; omega
        rw [ifOk_0 rfl, closedG, natsG_ofs2, ofs2_length, show (Int.ofNat K).toNat = K from rfl]
        have h10 := hN.ten
        have hp10 : 2 ^ N.length ≤ 2 ^ 10 := Nat.pow_le_pow_right (by omega) h10
        have hp1 := Nat.two_pow_pos N.length
        refine cSkip (kBlkN (kSeqN ?_))
        refine cSeq ?_
        refine cRegion ?_
        refine sLdAll A79 S79 rfl (by simp (disch := first | omega | (simp only [Array.size_push, Array.size_setIfInBounds]; done) | (simp only [Array.size_push, Array.size_setIfInBounds]; omega)) only [gP, gPn, gS, gSn]; try rfl) hv1 ?_
        refine sMv (v := nv K) rfl ?_
        obtain ⟨v31, m31, h31, rfl, hmap, k31⟩ := spec_far (x0 := 0) (k := K) (hB.ext (.push m11 (.cells true vs))) hN hp1 (by omega)
        refine sCall3 rfl call67 rfl rfl rfl h31 ?_
        have hE31 := hE.trans k31
        have g31 : Mem.get m31 m11.size = .cells true vs := k31.cells (gP rfl)
        generalize hes : farM (needsM N) K 0 = es at *
        obtain ⟨q2, n2, c2', rfl, hO2⟩ := hv3 h0 N rfl
        refine sAs rfl ?_
        refine sNil (kSeqN ?_)
        refine cSeq ?_
        refine cRegion ?_
        refine sAs (v := .slice _ _ _) rfl ?_
        refine sNil (kSeqN ?_)
        refine cSeq ?_
        refine cSeq ?_
        refine cRegion ?_
        refine sFA F79_2 rfl ?_
        refine sLd (v := nv (2 ^ N.length - 1)) A3 rfl g31 rfl ?_
        refine sBin (v := nv (2 ^ N.length)) (a := 2 ^ N.length - 1) (b := 1) rfl rfl (by rw [aInt_add (by omega)]; congr 2; omega) ?_
        refine sMv (v := nv 0) rfl ?_
        refine sNil (kSeqN ?_)
        refine cBlock ?_
        refine wpC_loop (fun k' ρ m' => ∃ i v, k' = 2 ^ N.length - i ∧ i ≤ 2 ^ N.length ∧ Low m31.size m31 m' ∧ OwnF m31.size m' v (ofs (closedUp es i)) ∧ Has ρ [(8, .map (some ((m11.push (.cells true #[.slice q (ofs2 N).length cap, .slice q2 n2 c2', nv (2 ^ N.length - 1)])).size + 1))), (9, v), (34, nv (2 ^ N.length)), (35, nv i)]) ⟨0, _, rfl, Nat.zero_le _, .refl _ _, .nil _ _, rfl, rfl, rfl, rfl, trivial⟩ ?_
        rintro k' ρ m' ⟨i, v, rfl, hi, hLo, hO, hh⟩
        obtain ⟨qv, cv, rfl⟩ := hO.ints.lenN
        rw [hh.env]; clear hh
        have hlen := closedUp_len es i
        have hmap' : MapAt m' ((m11.push (.cells true #[.slice q (ofs2 N).length cap, .slice q2 n2 c2', nv (2 ^ N.length - 1)])).size + 1) es := by unfold MapAt; rw [hLo.2 _ hmap.lt]; exact hmap
        refine cSeq ?_
        refine cRegion ?_
        refine sBin rfl rfl (aInt_lss) ?_
        refine sNil (kSeqN ?_)
        refine cSeq ?_   -- seq 13
        refine cCond rfl (fun c3 => ?_) (fun c3 => ?_)
        ·
          refine cSkip (kSeqN ?_)
          refine cSeq ?_
          refine cBlock ?_
          refine cSeq ?_
          refine cRegion ?_
          refine sMv (v := nv _) rfl ?_
          refine sAs (v := nv _) rfl ?_
          refine sNil (kSeqN ?_)
          refine cSeq ?_
          refine cRegion ?_
          refine sMv rfl ?_
          refine sMv (v := nv _) rfl ?_
          refine sLookOk (k := i) MT87 hmap' rfl rfl ?_
          refine sMv (v := .tuple _) rfl ?_
          refine sP (v := nv _) rfl ?_   -- extract ['t38', '0']
          refine sP (v := .bool _) rfl ?_   -- extract ['t38', '1']
          refine sAs (v := nv _) rfl ?_
          refine sAs (v := .bool _) rfl ?_
          refine sNil (kSeqN ?_)
          refine cSeq ?_
          refine cRegion ?_
          refine sMv (v := .bool _) rfl ?_
          refine sNil (kSeqN ?_)
          refine cCond (p := (lookE es i).isSome = true) (by show Value.bool _ = Value.bool _; rw [Bool.decide_eq_true]) (fun c4 => ?_) (fun c4 => ?_)
          ·
            refine cRegion ?_
            refine sMv (v := .slice _ _ _) rfl ?_
            refine sMv (v := nv _) rfl ?_
            refine sBuildS T25 S3 Z3 (by decide) (by decide) (by decide) (by kernel_rfl) fill1 rfl ?_
            refine sApp App25 rfl rfl (N := m31.size) (hO.ext (.push _ _)) one_ints (by have := hLo.1; simp; omega) (by simp; omega) fun v3 m3 hO3 hL3 => ?_
            have hI3 := hO3.ints
            obtain ⟨q3, cp3, rfl⟩ := hI3.len
            refine sAs (v := .slice _ _ _) rfl ?_
            refine sNil (kBlkN (kSeqN ?_))
            refine cRegion ?_
            refine sBin rfl rfl (aInt_add (b := 1) (by omega)) ?_
            refine sMv (v := nv _) rfl ?_
            refine sNil (kSeqN ?_)
            refine ⟨_, ?_, i + 1, _, rfl, by omega, hLo.trans ((Low.push _ hLo.1 _).trans hL3), by rw [closedUp_succ, if_pos c4, ofs_append]; exact hO3, rfl, rfl, rfl, rfl, trivial⟩
            omega
          ·
            refine cSkip (kBlkN (kSeqN ?_))
            refine cRegion ?_
            refine sBin rfl rfl (aInt_add (b := 1) (by omega)) ?_
            refine sMv (v := nv _) rfl ?_
            refine sNil (kSeqN ?_)
            refine ⟨_, ?_, i + 1, _, rfl, by omega, hLo, by rw [closedUp_succ, if_neg c4, List.append_nil]; exact hO, rfl, rfl, rfl, rfl, trivial⟩
            omega
        ·
          refine cExit (kSeqE (kSeqE (kBlkS (kSeqN ?_))))
          refine cSeq ?_
          refine cRegion ?_
          refine sMv (v := .slice _ _ _) rfl ?_
          refine sAs (v := .slice _ _ _) rfl ?_
          refine sAs (v := nv 0) rfl ?_
          refine sNil (kSeqN ?_)
          refine cRet ?_
          obtain rfl : i = 2 ^ N.length := by omega
          exact ⟨.inr rfl, _, rfl, _, rfl, hO.mono hE31.1, Low.to_ext hE31 hLo hE31.1⟩

end Go.AM

/-! ### M27 -/
namespace Go.AM
set_option linter.unusedVariables false
set_option linter.unusedSimpArgs false
theorem playE_nat {P : List Nat} : ∀ {x : Nat} {l : List Int}, playE P x l = 0 → ∃ ns : List Nat, l = ofs ns ∧ ∀ n ∈ ns, n < P.length
  | _, [], _ => ⟨[], rfl, by simp⟩
  | x, n :: l, h => by
    rw [playE] at h
    split at h
    · cases h
    rename_i hn
    split at h
    · obtain ⟨ns, rfl, hns⟩ := playE_nat h
      refine ⟨n.toNat :: ns, ?_, ?_⟩
      · simp only [ofs, List.map_cons]
        congr 1; simp; omega
      · intro y hy
        rcases List.mem_cons.1 hy with rfl | hy
        · simp at hn; omega
        · exact hns y hy
    · cases h
theorem gPlayE_nat {G : List (List Int)} {l : List Int} (h : gPlayE G l = 0) : ∃ N ns, G = ofs2 N ∧ Dag N ∧ l = ofs ns ∧ (∀ n ∈ ns, n < N.length) ∧ ns.length ≤ 120 := by
  unfold gPlayE at h
  split at h
  · rename_i h0
    obtain ⟨N, rfl, hN⟩ := checkG_nat h0
    unfold playedE at h
    split at h
    · cases h
    · rename_i hl
      obtain ⟨ns, rfl, hns⟩ := playE_nat h
      rw [natsG_ofs2, needsM_length] at hns
      rw [ofs_length] at hl
      exact ⟨N, ns, rfl, hN, rfl, hns, by omega⟩
  · rename_i h0; exact absurd h h0
def kindM : Nat → Nat
  | 0 => 1
  | 1 => 9
  | _ => 12
/-- A gate: its kind and its wires. -/
def gateM (N : List (List Nat)) (n : Nat) : Nat × List Nat := (kindM (N.getD n []).length, N.getD n [] ++ [n])
def circM (N : List (List Nat)) (ns : List Nat) : List (Nat × List Nat) := ns.map (gateM N)
def circG (G : List (List Int)) (l : List Int) : List (Nat × List Nat) := circM (natsG G) (nats l)
end Go.AM
