/- Weights of numbers and of spans, and the lightest member of a coset. -/
import Derived.Test.YtgiidbomifmcaaaDoorRefB
import Derived.Test.YtgiidbomifmcaaaDoorPlainD
import Derived.Test.YtgiidbomifmcaaaDoorWalks
import Derived.Test.YtgiidbomifmcaaaDoorFacts
import Derived.Test.YtgiidbomifmcaaaDoorRef
import Derived.Test.YtgiidbomifmcaaaDoorBitsC
import Derived.Test.YtgiidbomifmcaaaDoorEntryB
import Derived.Carry
import Derived.Test.YtgiidbomifmcaaaDoorTie
import Derived.Test.YtgiidbomifmcaaaDoorCards
set_option linter.unusedVariables false
set_option linter.unusedSimpArgs false
/-! ### E48 -/
namespace Go.AM
open Go.Proofs
set_option maxRecDepth 100000
set_option linter.unusedVariables false
set_option linter.unusedSimpArgs false
theorem call79 : callable Tryd.prog 79 = true := by kernel_rfl
theorem kall78 : callable Tryd.prog 78 = true := by kernel_rfl
theorem kall80 : callable Tryd.prog 80 = true := by kernel_rfl
theorem kall61 : callable Tryd.prog 61 = true := by kernel_rfl
theorem kall70 : callable Tryd.prog 70 = true := by kernel_rfl
theorem cellsN_append (l : List Nat) (x : Nat) : cellsN l ++ cellsI [Int.ofNat x] = cellsN (l ++ [x]) := by simp [cellsN, cellsI]
theorem sumsM_len (L : List Nat) : (sumsM L).length = 2 ^ L.length := by simp [sumsM]
theorem sums_lt {L : List Nat} {n : Nat} (h : ∀ x ∈ L, x < 2 ^ n) : ∀ x ∈ sumsM L, x < 2 ^ n := fun x hx => by
  obtain ⟨w, _, rfl⟩ := List.mem_map.1 hx
  exact total_lt h w
theorem getDeq {l : List Nat} {i : Nat} (h : i < l.length) : l[i]? = some (l.getD i 0) := by rw [List.getD_eq_getElem?_getD, List.getElem?_eq_getElem h]; rfl

theorem okf79 : okF Tryd.prog H0 79 35 = true := by kernel_rfl
theorem spec_RefMembers {m : Mem} {a : Value} {R : List Nat} (ha : IntsAt m a (ofs R)) (hR : R.length ≤ 24) (hx : ∀ x ∈ R, x < 2 ^ 60) : ∃ v m', ACalls Tryd.prog 79 #[a] m v m' ∧
      (∃ b cap, v = .slice (some ⟨b, 0, some 1⟩) (sumsM R).length cap ∧ m.size ≤ b ∧ Mem.get m' b = .cells false (cellsN (sumsM R)) ∧ Ext m m') := by
  obtain ⟨q, cap, rfl⟩ := ha.lenN
  refine wpF (args := [_]) mixed okf79 (fn := Tryd.f79) rfl rfl rfl (by simp) ?_
  refine cSeq ?_
  refine cRegion ?_
  refine sAs (v := .slice _ _ _) rfl ?_
  refine sNil (kSeqN ?_)
  refine cSeq ?_
  refine cRegionG ?_
  refine sBuildS T22 S3 Z3 (by decide) (by decide) (by decide) (by kernel_rfl) fill1 rfl ?_
  refine sAs (v := .slice _ _ _) rfl ?_
  refine sNil ⟨_, .inr (.inl ⟨m.size, #[nv 0], gP rfl, rfl⟩), (kSeqN ?_)⟩
  refine cSeq ?_
  refine cSeq ?_
  refine cRegion ?_
  refine sMv (v := .slice _ _ _) rfl ?_
  refine sLen T22 rfl ?_
  refine sMv (v := nv 0) rfl ?_
  refine sNil (kSeqN ?_)
  refine cBlock ?_
  refine wpC_loop (fun k ρ m' => ∃ i b, k = R.length - i ∧ i ≤ R.length ∧ m.size ≤ b ∧ b < m'.size ∧ Mem.get m' b = .grow (cellsN (sumsM (R.take i))) ∧ Ext m m' ∧ Has ρ [(3, .slice (some ⟨b, 0, some 1⟩) (2 ^ i) (2 ^ i)), (9, .slice q R.length cap), (10, nv R.length), (11, nv i)]) ⟨0, m.size, rfl, by omega, Nat.le_refl _, by simp, gS rfl (by simp), (Ext.push _ _).set (Nat.le_refl _) _, rfl, rfl, rfl, rfl, trivial⟩ ?_
  rintro k ρ m' ⟨i, b, rfl, hi, hb, hbl, hg, hE, hh⟩
  rw [hh.env]; clear hh
  have hSl : (sumsM (R.take i)).length = 2 ^ i := by rw [sumsM_len, List.length_take, Nat.min_eq_left hi]
  refine cSeq ?_
  refine cRegion ?_
  refine sBin rfl rfl (aInt_lss) ?_
  refine sNil (kSeqN ?_)
  refine cSeq ?_   -- seq 5
  refine cCond rfl (fun c0 => ?_) (fun c0 => ?_)
  ·
    obtain ⟨b1, o1, p1, r1, cc1, e1, g1, x1⟩ := (ha.ext hE).atN (by omega)
    obtain ⟨rfl, rfl, rfl⟩ := e1
    have hxi := hx _ (getD_mem c0)
    have h2i : 2 ^ (i + 1) ≤ 2 ^ 24 := Nat.pow_le_pow_right (by omega) (by omega)
    have h2s : 2 ^ (i + 1) = 2 ^ i * 2 := Nat.pow_succ 2 i
    have h2p : 0 < 2 ^ i := Nat.two_pow_pos i
    have hSx := sums_lt (L := R.take i) (n := 60) fun x h => hx x (List.mem_of_mem_take h)
    have hnext : sumsM (R.take (i + 1)) = sumsM (R.take i) ++ (sumsM (R.take i)).map (· ^^^ R.getD i 0) := by
      have e : R.take (i + 1) = R.take i ++ [R.getD i 0] := by
        rw [List.take_succ_eq_append_getElem c0, List.getD_eq_getElem?_getD, List.getElem?_eq_getElem c0]; rfl
      rw [e, sums_snoc]
    generalize sumsM (R.take i) = S at *
    refine cSkip (kSeqN ?_)
    refine cSeq ?_
    refine cBlock ?_
    refine cSeq ?_
    refine cRegion ?_
    refine sIx T22 S3 rfl rfl (by omega) ?_
    refine sLd (v := nv (R.getD i 0)) A3 rfl g1 (x1 _ _ (getDeq c0)) ?_
    refine sAs (v := nv _) rfl ?_
    refine sNil (kSeqN ?_)
    refine cSeq ?_
    refine cRegion ?_
    refine sMv (v := .slice _ _ _) rfl ?_
    refine sMv (v := .slice _ _ _) rfl ?_
    refine sLen T22 rfl ?_
    refine sMv (v := .slice _ _ _) rfl ?_
    refine sLen T22 rfl ?_
    refine sSlFull T22 S3 rfl rfl rfl h2p (Nat.le_refl _) ?_
    refine sLen T22 rfl ?_
    refine sMv (v := nv 0) rfl ?_
    refine sNil (kSeqN ?_)
    refine cBlock ?_
    refine wpC_loop (fun k ρ m2 => ∃ j bc, k = 2 ^ i - j ∧ j ≤ 2 ^ i ∧ m.size ≤ bc ∧ bc < m2.size ∧ Mem.get m2 bc = .grow (cellsN (S ++ (S.take j).map (· ^^^ R.getD i 0))) ∧ (j = 0 ∧ bc = b ∨ bc ≠ b ∧ Mem.get m2 b = .cells false (cellsN S)) ∧ Ext m m2 ∧ b < m2.size ∧
      Has ρ [(3, .slice (some ⟨bc, 0, some 1⟩) (2 ^ i + j) (2 ^ i + j)), (9, .slice (some ⟨b1, o1, some 1⟩) R.length cap), (10, nv R.length), (11, nv i), (5, nv (R.getD i 0)), (20, .slice (some ⟨b, 0, some 1⟩) (2 ^ i) (2 ^ i)), (21, nv (2 ^ i)), (22, nv j)]) ⟨0, b, rfl, by omega, hb, hbl, by simpa using hg, .inl ⟨rfl, rfl⟩, hE, hbl, rfl, rfl, rfl, rfl, rfl, rfl, rfl, rfl, trivial⟩ ?_
    rintro k ρ m2 ⟨j, bc, rfl, hj, hbc, hbcl, hgc, hor, hE2, hbl2, hh⟩
    rw [hh.env]; clear hh
    refine cSeq ?_
    refine cRegion ?_
    refine sBin rfl rfl (aInt_lss) ?_
    refine sNil (kSeqN ?_)
    refine cSeq ?_   -- seq 10
    refine cCond rfl (fun c1 => ?_) (fun c1 => ?_)
    ·
      have hrow : RowAt m2 b (cellsN S) := by
        rcases hor with ⟨h1, h2⟩ | ⟨_, h2⟩
        · subst h1 h2
          exact .inr (by simpa using hgc)
        · exact .inl ⟨_, h2⟩
      have hjS : j < S.length := by omega
      have hSj := hSx _ (getD_mem hjS)
      have hlenc : (S ++ (S.take j).map (· ^^^ R.getD i 0)).length = 2 ^ i + j := by simp; omega
      have hstep : S ++ (S.take j).map (· ^^^ R.getD i 0) ++ [S.getD j 0 ^^^ R.getD i 0] = S ++ (S.take (j + 1)).map (· ^^^ R.getD i 0) := by
        rw [List.take_succ_eq_append_getElem hjS, List.map_append, List.append_assoc]
        congr 2
        rw [List.getD_eq_getElem?_getD, List.getElem?_eq_getElem hjS]; rfl
      refine cSkip (kSeqN ?_)
      refine cSeq ?_
      refine cBlock ?_
      refine cSeq ?_
      refine cRegion ?_
      refine sIx T22 S3 rfl rfl (by omega) ?_
      refine sLdR (v := nv (S.getD j 0)) A3 rfl hrow (by rw [Nat.zero_add, Nat.mul_one]; exact cellsN_get (getDeq hjS)) ?_
      refine sAs (v := nv _) rfl ?_
      refine sNil (kSeqN ?_)
      refine cRegion ?_
      refine sMv (v := .slice _ _ _) rfl ?_
      refine sMv (v := nv _) rfl ?_
      refine sMv (v := nv _) rfl ?_
      refine sBin rfl rfl (aInt_xor (by omega)) ?_
      refine sBuildS T22 S3 Z3 (by decide) (by decide) (by decide) (by kernel_rfl) fill1 rfl ?_
      refine sAppX rfl rfl (app_grow App22 (r := [Int.ofNat (S.getD j 0 ^^^ R.getD i 0)]) (by rw [gPn hbcl]; exact hgc) (by rw [cellsN_size]; exact hlenc) one_ints (by simp) (by simp; omega)) ?_
      refine sAs (v := .slice _ _ _) rfl ?_
      refine sNil (kBlkN (kSeqN ?_))
      refine cRegion ?_
      refine sBin rfl rfl (aInt_add (b := 1) (by omega)) ?_
      refine sMv (v := nv _) rfl ?_
      refine sNil (kSeqN ?_)
      refine ⟨_, ?_, j + 1, m2.size + 1, rfl, by omega, by omega, by simp, ?_, .inr ⟨by omega, ?_⟩, ?_, by simp; omega, by simp [updO]; omega, rfl, rfl, rfl, rfl, rfl, rfl, rfl, trivial⟩
      · omega
      · rw [gP (by simp), cellsN_append, hstep]
      · rcases hor with ⟨h1, h2⟩ | ⟨h1, h2⟩
        · subst h1 h2
          rw [gPn (by simp; omega), gS rfl (by simp; omega)]
          simp
        · rw [gPn (by simp; omega), gSn h1, gPn hbl2]; exact h2
      · exact ((hE2.push' _).set hbc _).push' _
    ·
      refine cExit (kSeqE (kSeqE (kBlkS (kBlkN (kSeqN ?_)))))
      refine cRegion ?_
      refine sBin rfl rfl (aInt_add (b := 1) (by omega)) ?_
      refine sMv (v := nv _) rfl ?_
      refine sNil (kSeqN ?_)
      have hje : j = 2 ^ i := by omega
      refine ⟨_, ?_, i + 1, bc, rfl, by omega, hbc, hbcl, ?_, hE2, by show Value.slice (some ⟨bc, 0, some 1⟩) (2 ^ i + j) (2 ^ i + j) = _; rw [h2s, hje, Nat.mul_two], rfl, rfl, rfl, trivial⟩
      · omega
      · rw [hgc, hnext, hje, List.take_of_length_le (by omega)]
  ·
    have hie : i = R.length := by omega
    subst hie
    rw [List.take_length] at hg hSl
    refine cExit (kSeqE (kSeqE (kBlkS (kSeqN ?_))))
    refine cSeq ?_
    refine cRegionG ?_
    refine sMv (v := .slice _ _ _) rfl ?_
    refine sAs (v := .slice _ _ _) rfl ?_
    refine sNil ⟨_, .inr (.inr ⟨b, _, hg, rfl⟩), (kSeqN ?_)⟩
    refine cRet ?_
    exact ⟨.inr rfl, _, rfl, b, 2 ^ R.length, by rw [hSl]; rfl, hb, gS rfl hbl, hE.set hb _⟩

theorem okf24 : okF Tryd.prog H0 24 8 = true := by kernel_rfl
theorem spec_refWeight {m : Mem} {x : Int} (hx : x < 9223372036854775808) : ∃ v m', ACalls Tryd.prog 24 #[.int .i64 x] m v m' ∧ (v = .tuple #[nv (if x < 0 then 0 else popc x.toNat), nv (if x < 0 then 3 else 0)] ∧ m' = m) := by
  refine wpF (args := [_]) mixed okf24 (fn := Tryd.f24) rfl rfl rfl (by simp) ?_
  refine cSeq ?_
  refine cRegion ?_
  refine sAs (v := nv 0) rfl ?_
  refine sAs (v := nv 0) rfl ?_
  refine sNil (kSeqN ?_)
  refine cSeq ?_   -- seq 1
  refine cSeq ?_
  refine cRegion ?_
  refine sMv (v := .int .i64 x) rfl ?_
  refine sBinI (v := .bool (decide (x < 0))) rfl rfl rfl ?_
  refine sNil (kSeqN ?_)
  refine cCond rfl (fun c0 => ?_) (fun c0 => ?_)
  ·
    refine cSeq ?_
    refine cRegion ?_
    refine sAs (v := nv 0) rfl ?_
    refine sAs (v := nv 3) rfl ?_
    refine sNil (kSeqN ?_)
    refine cRet (kSeqR ?_)
    exact ⟨.inr rfl, _, rfl, by rw [if_pos c0, if_pos c0]; rfl, rfl⟩
  ·
    obtain ⟨z, rfl⟩ : ∃ z : Nat, x = Int.ofNat z := ⟨x.toNat, by simp; omega⟩
    refine cSkip (kSeqN ?_)
    refine cSeq ?_
    refine cRegion ?_
    refine sMv (v := nv z) rfl ?_
    refine sCall1 rfl kall78 rfl (spec_Ones (x := z) (by have := hx; simp only [Int.ofNat_eq_natCast] at this; omega)) ?_
    refine sAs (v := nv _) rfl ?_
    refine sAs (v := nv 0) rfl ?_
    refine sNil (kSeqN ?_)
    refine cRet ?_
    exact ⟨.inr rfl, _, rfl, by rw [if_neg c0, if_neg c0]; rfl, rfl⟩

theorem okf25 : okF Tryd.prog H0 25 37 = true := by kernel_rfl
theorem spec_refWeights {m : Mem} {a : Value} {l : List Int} {n : Int} (ha : IntsAt m a l) (hl : l.length < 4611686018427387904) : ∃ v m', ACalls Tryd.prog 25 #[a, .int .i64 n] m v m' ∧ (∃ w, v = .tuple #[w, nv (checkF l n)] ∧ OwnF m.size m' w (ofs (ifOk (checkF l n) (weightsM (nats l) n.toNat) [])) ∧ Ext m m') := by
  have hck := spec_refCheck (n := n) ha hl
  obtain ⟨q, cap, rfl⟩ := ha.len
  refine wpF (args := [_, _]) mixed okf25 (fn := Tryd.f25) rfl rfl rfl (by simp) ?_
  refine cSeq ?_
  refine cRegion ?_
  refine sAs (v := .slice _ _ _) rfl ?_
  refine sAs (v := nv 0) rfl ?_
  refine sNil (kSeqN ?_)
  refine cSeq ?_
  refine cSeq ?_
  refine cRegion ?_
  refine sMv (v := .slice _ _ _) rfl ?_
  refine sMv (v := .int _ _) rfl ?_
  refine sCall2 rfl kall61 rfl rfl hck ?_
  refine sAs (v := nv _) rfl ?_
  refine sNil (kSeqN ?_)
  refine cSeq ?_
  refine cRegion ?_
  refine sMv (v := nv _) rfl ?_
  refine sBin (a := checkF l n) rfl rfl (aInt_neq (b := 0)) ?_
  refine sNil (kSeqN ?_)
  refine cCond rfl (fun c0 => ?_) (fun c0 => ?_)
  ·
    refine cSeq ?_
    refine cRegion ?_
    refine sMv (v := nv _) rfl ?_
    refine sAs (v := .slice _ _ _) rfl ?_
    refine sAs (v := nv _) rfl ?_
    refine sNil (kSeqN ?_)
    refine cRet (kSeqR ?_)
    exact ⟨.inr rfl, _, rfl, _, rfl, by rw [ifOk_n c0]; exact .nil _ _, .refl _⟩
  ·
    have h0 := Decidable.not_not.1 c0
    obtain ⟨N, L, rfl, rfl, hN1, hN2, hL1, hL2⟩ := checkF_nat h0
    have hL3 : ∀ x ∈ L, x < 2 ^ 24 := fun x hx => Nat.lt_of_lt_of_le (hL2 x hx) (Nat.pow_le_pow_right (by omega) (by omega))
    have hN24 : N ≤ 24 := by omega
    refine cSkip (kSeqN ?_)
    refine cSeq ?_
    refine cRegion ?_
    refine sMv (v := nv N) rfl ?_
    refine sBin (b := 1) rfl rfl (aInt_add (by omega)) ?_
    refine sMkN T22 S3 Z3 bytes3 rfl rfl (by omega) ?_
    refine sAs (v := .slice _ _ _) rfl ?_
    refine sNil (kSeqN ?_)
    refine cSeq ?_
    refine cSeq ?_
    refine cRegion ?_
    refine sMv (v := .slice _ _ _) rfl ?_
    refine sMv (v := nv N) rfl ?_
    obtain ⟨v21, m21, h21, o21, e21⟩ := spec_refReduced (n := N) (ha.ext (.push m (.cells true (cellsN (List.replicate (N + 1) 0))))) (by omega) (fun x hx => Nat.lt_of_lt_of_le (hL2 x hx) (Nat.pow_le_pow_right (by omega) (by omega))) (by omega)
    rw [refRedM_eq hN24 hL2] at o21
    obtain ⟨q21, c21, rfl⟩ := o21.ints.lenN
    have hRl := redM_length L
    have hRx := redM_lt hN24 hL2
    refine sCall2 rfl kall80 rfl rfl h21 ?_
    obtain ⟨v22, m22, h22, b22, c22, rfl, hb22, g22, e22⟩ := spec_RefMembers o21.ints hRl (fun x hx => Nat.lt_of_lt_of_le (hRx x hx) (Nat.pow_le_pow_right (by omega) (by omega)))
    have hMx := sums_lt hRx
    have hMl := sumsM_len (redM L)
    have h2r : 2 ^ (redM L).length ≤ 2 ^ 24 := Nat.pow_le_pow_right (by omega) hRl
    have h16 : 2 ^ N ≤ 2 ^ 16 := Nat.pow_le_pow_right (by omega) hN2
    have hz21 := e21.1
    simp only [Array.size_push] at hz21
    have g0 : Mem.get m22 m.size = .cells true (cellsN (List.replicate (N + 1) 0)) := (e21.trans e22).cells (gP rfl)
    have hE22 : Ext m m22 := ((Ext.push _ _).trans e21).trans e22
    have hwM := weightsM_eq L N
    generalize sumsM (redM L) = M at *
    refine sCall1 rfl call79 rfl h22 ?_
    refine sLen T22 rfl ?_
    refine sMv (v := nv 0) rfl ?_
    refine sNil (kSeqN ?_)
    refine cBlock ?_
    refine wpC_loop (fun k ρ m' => ∃ i, k = M.length - i ∧ i ≤ M.length ∧ Mem.get m' m.size = .cells true (cellsN (cntL (M.take i) N)) ∧ Mem.get m' b22 = .cells false (cellsN M) ∧ Ext m m' ∧ Has ρ [(7, .slice (some ⟨m.size, 0, some 1⟩) (N + 1) (N + 1)), (22, .slice (some ⟨b22, 0, some 1⟩) M.length c22), (23, nv M.length), (24, nv i)]) ⟨0, rfl, by omega, by rw [List.take_zero, cntL_nil]; exact g0, g22, hE22, rfl, rfl, rfl, rfl, trivial⟩ ?_
    rintro k ρ m' ⟨i, rfl, hi, gc, gm, hE, hh⟩
    rw [hh.env]; clear hh
    refine cSeq ?_
    refine cRegion ?_
    refine sBin rfl rfl (aInt_lss) ?_
    refine sNil (kSeqN ?_)
    refine cSeq ?_   -- seq 9
    refine cCond rfl (fun c1 => ?_) (fun c1 => ?_)
    ·
      have hxl := hMx _ (getD_mem c1)
      have hpl := popc_bits N _ hxl
      have hcl := cntL_length (M.take i) N
      have htk : M.take (i + 1) = M.take i ++ [M.getD i 0] := by
        rw [List.take_succ_eq_append_getElem c1, List.getD_eq_getElem?_getD, List.getElem?_eq_getElem c1]; rfl
      have hcnt := cntL_snoc (M.take i) N (M.getD i 0)
      rw [← htk] at hcnt
      have hcb : (cntL (M.take i) N).getD (popc (M.getD i 0)) 0 ≤ i := by
        rw [cntL_getD _ hpl]
        exact Nat.le_trans List.countP_le_length (by rw [List.length_take]; omega)
      refine cSkip (kSeqN ?_)
      refine cSeq ?_
      refine cBlock ?_
      refine cSeq ?_
      refine cRegion ?_
      refine sIx T22 S3 rfl rfl (by omega) ?_
      refine sLd (v := nv (M.getD i 0)) A3 rfl gm (by rw [Nat.zero_add, Nat.mul_one]; exact cellsN_get (getDeq c1)) ?_
      refine sAs (v := nv _) rfl ?_
      refine sNil (kSeqN ?_)
      refine cRegion ?_
      refine sMv (v := .slice _ _ _) rfl ?_
      refine sMv (v := nv _) rfl ?_
      refine sCall1 rfl kall78 rfl (spec_Ones (x := M.getD i 0) (by omega)) ?_
      refine sIx T22 S3 rfl rfl (by omega) ?_
      refine sLd (v := nv ((cntL (M.take i) N).getD (popc (M.getD i 0)) 0)) A3 rfl gc (by rw [Nat.zero_add, Nat.mul_one]; exact cellsN_get (getDeq (by omega))) ?_
      refine sBin (b := 1) rfl rfl (aInt_add (by omega)) ?_
      refine sIx T22 S3 rfl rfl (by omega) ?_
      refine sSt (v := nv _) S3 rfl rfl gc (by simp only [cellsN_size, Nat.zero_add, Nat.mul_one]; omega) rfl rfl ?_
      refine sNil (kBlkN (kSeqN ?_))
      refine cRegion ?_
      refine sBin rfl rfl (aInt_add (b := 1) (by omega)) ?_
      refine sMv (v := nv _) rfl ?_
      refine sNil (kSeqN ?_)
      refine ⟨_, ?_, i + 1, rfl, by omega, ?_, by rw [gSn (by omega)]; exact gm, hE.set (Nat.le_refl _) _, rfl, rfl, rfl, rfl, trivial⟩
      · omega
      · rw [gS rfl (live gc), cellsN_set, Nat.zero_add, Nat.mul_one, hcnt]
    ·
      have hie : i = M.length := by omega
      rw [hie, List.take_length] at gc
      refine cExit (kSeqE (kSeqE (kBlkS (kSeqN ?_))))
      refine cSeq ?_
      refine cRegion ?_
      refine sMv (v := .slice _ _ _) rfl ?_
      refine sAs (v := .slice _ _ _) rfl ?_
      refine sAs (v := nv 0) rfl ?_
      refine sNil (kSeqN ?_)
      refine cRet ?_
      refine ⟨.inr rfl, _, rfl, _, by rw [h0]; rfl, ?_, hE⟩
      rw [ifOk_0 h0, nats_ofs]
      have := OwnF.ofCells (N := m.size) (m := m') (b := m.size) (l := weightsM L N) (r := []) (Nat.le_refl _) (by rw [List.append_nil, hwM]; exact gc)
      rw [List.append_nil, show (weightsM L N).length = N + 1 by rw [hwM, cntL_length]] at this
      exact this

theorem okf26 : okF Tryd.prog H0 26 56 = true := by kernel_rfl
theorem spec_refCoset {m : Mem} {a : Value} {l : List Int} {n row : Int} (ha : IntsAt m a l) (hl : l.length < 4611686018427387904) : ∃ v m', ACalls Tryd.prog 26 #[a, .int .i64 n, .int .i64 row] m v m' ∧ (v = .tuple #[nv (ifOk (oneF l n row) (cosetM (nats l) row.toNat) 0), nv (oneF l n row)] ∧ Ext m m') := by
  have hck := spec_refCheck (n := n) ha hl
  obtain ⟨q, cap, rfl⟩ := ha.len
  refine wpF (args := [_, _, _]) mixed okf26 (fn := Tryd.f26) rfl rfl rfl (by simp) ?_
  refine cSeq ?_
  refine cRegion ?_
  refine sAs (v := nv 0) rfl ?_
  refine sAs (v := nv 0) rfl ?_
  refine sNil (kSeqN ?_)
  refine cSeq ?_
  refine cSeq ?_
  refine cRegion ?_
  refine sMv (v := .slice _ _ _) rfl ?_
  refine sMv (v := .int _ _) rfl ?_
  refine sCall2 rfl kall61 rfl rfl hck ?_
  refine sAs (v := nv _) rfl ?_
  refine sNil (kSeqN ?_)
  refine cSeq ?_
  refine cRegion ?_
  refine sMv (v := nv _) rfl ?_
  refine sBin (a := checkF l n) rfl rfl (aInt_neq (b := 0)) ?_
  refine sNil (kSeqN ?_)
  refine cCond rfl (fun c0 => ?_) (fun c0 => ?_)
  ·
    refine cSeq ?_
    refine cRegion ?_
    refine sMv (v := nv _) rfl ?_
    refine sAs (v := nv 0) rfl ?_
    refine sAs (v := nv _) rfl ?_
    refine sNil (kSeqN ?_)
    refine cRet (kSeqR ?_)
    refine ⟨.inr rfl, _, rfl, ?_, .refl _⟩
    have : oneF l n row = checkF l n := by unfold oneF; rw [if_neg (fun h => c0 h.1)]
    rw [this, ifOk_n c0]; rfl
  ·
    have h0 := Decidable.not_not.1 c0
    obtain ⟨N, L, rfl, rfl, hN1, hN2, hL1, hL2⟩ := checkF_nat h0
    have hL3 : ∀ x ∈ L, x < 2 ^ 24 := fun x hx => Nat.lt_of_lt_of_le (hL2 x hx) (Nat.pow_le_pow_right (by omega) (by omega))
    have hN24 : N ≤ 24 := by omega
    have hrowB := spec_row (m := m) (row := row) hN24
    refine cSkip (kSeqN ?_)
    refine cSeq ?_   -- seq 5
    refine cSeq ?_
    refine cRegion ?_
    refine sMv (v := .int .i64 row) rfl ?_
    refine sMv (v := nv N) rfl ?_
    refine sCall2 rfl kall70 rfl rfl hrowB ?_
    refine sP (v := .bool (!decide (0 ≤ row ∧ row < 2 ^ N))) rfl ?_
    refine sNil (kSeqN ?_)
    refine cCond (p := ¬ (0 ≤ row ∧ row < 2 ^ N)) (by show Value.bool (!decide _) = _; rw [← decide_not]) (fun c1 => ?_) (fun c1 => ?_)
    ·
      refine cSeq ?_
      refine cRegion ?_
      refine sAs (v := nv 0) rfl ?_
      refine sAs (v := nv 4) rfl ?_
      refine sNil (kSeqN ?_)
      refine cRet (kSeqR ?_)
      refine ⟨.inr rfl, _, rfl, ?_, .refl _⟩
      have : oneF (ofs L) (Int.ofNat N) row = 4 := by unfold oneF; rw [if_pos ⟨h0, by simpa using c1⟩]
      rw [this]; rfl
    ·
      obtain ⟨hr0, hr1⟩ := Decidable.not_not.1 c1
      obtain ⟨r, rfl⟩ : ∃ r : Nat, row = Int.ofNat r := ⟨row.toNat, by simp; omega⟩
      have hr : r < 2 ^ N := by
        have e : ((2 ^ N : Nat) : Int) = 2 ^ N := by simp
        simp at hr1; omega
      have hone : oneF (ofs L) (Int.ofNat N) (Int.ofNat r) = 0 := by
        unfold oneF; rw [if_neg (fun h => h.2 ⟨hr0, hr1⟩), h0]
      refine cSkip (kSeqN ?_)
      refine cSeq ?_
      refine cRegion ?_
      refine sMv (v := nv r) rfl ?_
      refine sAs (v := nv _) rfl ?_
      refine sNil (kSeqN ?_)
      refine cSeq ?_
      refine cSeq ?_
      refine cRegion ?_
      refine sMv (v := .slice _ _ _) rfl ?_
      refine sMv (v := nv N) rfl ?_
      obtain ⟨v21, m21, h21, o21, e21⟩ := spec_refReduced (n := N) ha (by omega) (fun x hx => Nat.lt_of_lt_of_le (hL2 x hx) (Nat.pow_le_pow_right (by omega) (by omega))) (by omega)
      rw [refRedM_eq hN24 hL2] at o21
      obtain ⟨q21, c21, rfl⟩ := o21.ints.lenN
      have hRl := redM_length L
      have hRx := redM_lt hN24 hL2
      refine sCall2 rfl kall80 rfl rfl h21 ?_
      obtain ⟨v22, m22, h22, b22, c22, rfl, hb22, g22, e22⟩ := spec_RefMembers o21.ints hRl (fun x hx => Nat.lt_of_lt_of_le (hRx x hx) (Nat.pow_le_pow_right (by omega) (by omega)))
      have hMx := sums_lt hRx
      have hMl := sumsM_len (redM L)
      have h2r : 2 ^ (redM L).length ≤ 2 ^ 24 := Nat.pow_le_pow_right (by omega) hRl
      have h16 : 2 ^ N ≤ 2 ^ 16 := Nat.pow_le_pow_right (by omega) hN2
      have hE22 : Ext m m22 := e21.trans e22
      have hcM := cosetM_eq (row := r) hL3
      generalize sumsM (redM L) = M at *
      refine sCall1 rfl call79 rfl h22 ?_
      refine sLen T22 rfl ?_
      refine sMv (v := nv 0) rfl ?_
      refine sNil (kSeqN ?_)
      refine cBlock ?_
      refine wpC_loop (fun k ρ m' => ∃ i y, k = M.length - i ∧ i ≤ M.length ∧ y = (M.take i).foldl (fun b m => lighter (r ^^^ m) b) r ∧ y < 2 ^ N ∧ m22 = m' ∧ Has ρ [(2, nv r), (9, nv y), (27, .slice (some ⟨b22, 0, some 1⟩) M.length c22), (28, nv M.length), (29, nv i)]) ⟨0, r, rfl, by omega, by simp, hr, rfl, rfl, rfl, rfl, rfl, rfl, trivial⟩ ?_
      rintro k ρ m' ⟨i, y, rfl, hi, hy, hyl, rfl, hh⟩
      rw [hh.env]; clear hh
      refine cSeq ?_
      refine cRegion ?_
      refine sBin rfl rfl (aInt_lss) ?_
      refine sNil (kSeqN ?_)
      refine cSeq ?_   -- seq 12
      refine cCond rfl (fun c2 => ?_) (fun c2 => ?_)
      ·
        have hxl := hMx _ (getD_mem c2)
        have htk : M.take (i + 1) = M.take i ++ [M.getD i 0] := by
          rw [List.take_succ_eq_append_getElem c2, List.getD_eq_getElem?_getD, List.getElem?_eq_getElem c2]; rfl
        have hnx : (M.take (i + 1)).foldl (fun b m => lighter (r ^^^ m) b) r = lighter (r ^^^ M.getD i 0) y := by
          rw [htk, List.foldl_append, ← hy]; rfl
        refine cSkip (kSeqN ?_)
        refine cSeq ?_
        refine cBlock ?_
        refine cSeq ?_
        refine cRegion ?_
        refine sIx T22 S3 rfl rfl (by omega) ?_
        refine sLd (v := nv (M.getD i 0)) A3 rfl g22 (by rw [Nat.zero_add, Nat.mul_one]; exact cellsN_get (getDeq c2)) ?_
        refine sAs (v := nv _) rfl ?_
        refine sNil (kSeqN ?_)
        refine cSeq ?_
        refine cRegion ?_
        refine sMv (v := nv _) rfl ?_
        refine sMv (v := nv _) rfl ?_
        refine sBin rfl rfl (aInt_xor (by omega)) ?_
        have hzl := Nat.xor_lt_two_pow hr hxl
        generalize r ^^^ M.getD i 0 = z at *
        rw [lighter] at hnx
        refine sAs (v := nv _) rfl ?_
        refine sNil (kSeqN ?_)
        refine cSeq ?_
        refine cRegion ?_
        refine sMv (v := nv _) rfl ?_
        refine sCall1 rfl kall78 rfl (spec_Ones (x := z) (by omega)) ?_
        refine sMv (v := nv _) rfl ?_
        refine sCall1 rfl kall78 rfl (spec_Ones (x := y) (by omega)) ?_
        refine sBin rfl rfl (aInt_lss) ?_
        refine sMv (v := .bool _) rfl ?_
        by_cases h1 : popc z < popc y
        ·
          rw [decide_eq_true h1]
          rw [if_pos h1] at hnx
          refine sGno (q' := true) rfl rfl (by simp) ?_
          refine sGno (q' := true) rfl rfl (by simp) ?_
          refine sGno (q' := true) rfl rfl (by simp) ?_
          refine sGno (q' := true) rfl rfl (by simp) ?_
          refine sGno (q' := true) rfl rfl (by simp) ?_
          refine sGno (q' := true) rfl rfl (by simp) ?_
          refine sGnoU rfl rfl ?_
          refine sGnoU rfl rfl ?_
          refine sGnoU rfl rfl ?_
          refine sGno (q' := true) rfl rfl (by simp) ?_
          refine sP (v := .bool _) rfl ?_   -- t52 pick ['t41', '(bool true)', 't51']
          refine sNil (kSeqN ?_)
          refine cCondT rfl ?_
          refine cRegion ?_
          refine sMv (v := nv _) rfl ?_
          refine sAs (v := nv _) rfl ?_
          refine sNil (kBlkN (kSeqN ?_))
          refine cRegion ?_
          refine sBin rfl rfl (aInt_add (b := 1) (by omega)) ?_
          refine sMv (v := nv _) rfl ?_
          refine sNil (kSeqN ?_)
          refine ⟨_, ?_, i + 1, z, rfl, by omega, hnx.symm, hzl, rfl, rfl, rfl, rfl, rfl, rfl, trivial⟩
          omega
        ·
          rw [decide_eq_false h1]
          rw [if_neg h1] at hnx
          refine sG rfl rfl ?_
          refine sMv (v := nv _) rfl ?_
          refine sG rfl rfl ?_
          refine sCall1 rfl kall78 rfl (spec_Ones (x := z) (by omega)) ?_
          refine sG rfl rfl ?_
          refine sMv (v := nv _) rfl ?_
          refine sG rfl rfl ?_
          refine sCall1 rfl kall78 rfl (spec_Ones (x := y) (by omega)) ?_
          refine sG rfl rfl ?_
          refine sBin rfl rfl (aInt_eql) ?_
          refine sG rfl rfl ?_
          refine sMv (v := .bool _) rfl ?_
          by_cases h2 : popc z = popc y
          ·
            rw [decide_eq_true h2]
            refine sG rfl rfl ?_
            refine sMv (v := nv _) rfl ?_
            refine sG rfl rfl ?_
            refine sMv (v := nv _) rfl ?_
            refine sG rfl rfl ?_
            refine sBin rfl rfl (aInt_lss) ?_
            refine sG rfl rfl ?_
            refine sP (v := .bool _) rfl ?_   -- t51 pick ['t47', 't50', '(bool false)']
            refine sP (v := .bool _) rfl ?_   -- t52 pick ['t41', '(bool true)', 't51']
            refine sNil (kSeqN ?_)
            refine cCond (p := z < y) rfl (fun c4 => ?_) (fun c4 => ?_)
            ·
              rw [if_pos ⟨h2, c4⟩] at hnx
              refine cRegion ?_
              refine sMv (v := nv _) rfl ?_
              refine sAs (v := nv _) rfl ?_
              refine sNil (kBlkN (kSeqN ?_))
              refine cRegion ?_
              refine sBin rfl rfl (aInt_add (b := 1) (by omega)) ?_
              refine sMv (v := nv _) rfl ?_
              refine sNil (kSeqN ?_)
              refine ⟨_, ?_, i + 1, z, rfl, by omega, hnx.symm, hzl, rfl, rfl, rfl, rfl, rfl, rfl, trivial⟩
              omega
            ·
              rw [if_neg (fun h => c4 h.2)] at hnx
              refine cSkip (kBlkN (kSeqN ?_))
              refine cRegion ?_
              refine sBin rfl rfl (aInt_add (b := 1) (by omega)) ?_
              refine sMv (v := nv _) rfl ?_
              refine sNil (kSeqN ?_)
              refine ⟨_, ?_, i + 1, y, rfl, by omega, hnx.symm, hyl, rfl, rfl, rfl, rfl, rfl, rfl, trivial⟩
              omega
          ·
            rw [decide_eq_false h2]
            rw [if_neg (fun h => h2 h.1)] at hnx
            refine sGno (q' := false) rfl rfl (by simp) ?_
            refine sGno (q' := false) rfl rfl (by simp) ?_
            refine sGno (q' := false) rfl rfl (by simp) ?_
            refine sG rfl rfl ?_
            refine sP (v := .bool _) rfl ?_   -- t51 pick ['t47', 't50', '(bool false)']
            refine sP (v := .bool _) rfl ?_   -- t52 pick ['t41', '(bool true)', 't51']
            refine sNil (kSeqN ?_)
            refine cCondF rfl ?_
            refine cSkip (kBlkN (kSeqN ?_))
            refine cRegion ?_
            refine sBin rfl rfl (aInt_add (b := 1) (by omega)) ?_
            refine sMv (v := nv _) rfl ?_
            refine sNil (kSeqN ?_)
            refine ⟨_, ?_, i + 1, y, rfl, by omega, hnx.symm, hyl, rfl, rfl, rfl, rfl, rfl, rfl, trivial⟩
            omega
      ·
        have hie : i = M.length := by omega
        rw [hie, List.take_length, ← hcM] at hy
        refine cExit (kSeqE (kSeqE (kBlkS (kSeqN ?_))))
        refine cSeq ?_
        refine cRegion ?_
        refine sMv (v := nv _) rfl ?_
        refine sAs (v := nv _) rfl ?_
        refine sAs (v := nv 0) rfl ?_
        refine sNil (kSeqN ?_)
        refine cRet ?_
        refine ⟨.inr rfl, _, rfl, ?_, hE22⟩
        rw [hone, ifOk_0 rfl, nats_ofs, hy]; rfl

end Go.AM

/-! ### E30 -/
namespace Go.AM
open Go.Proofs
set_option maxRecDepth 100000
set_option linter.unusedVariables false
set_option linter.unusedSimpArgs false
theorem kall40 : callable Tryd.prog 40 = true := by kernel_rfl
theorem kall60 : callable Tryd.prog 60 = true := by kernel_rfl
theorem kall59 : callable Tryd.prog 59 = true := by kernel_rfl
theorem Mid.ext {N B : Nat} {m0 m m' : Mem} (h : Mid N B m m') (he : Ext m0 m) (hN : m0.size ≤ N) : Ext m0 m' := ⟨by rw [h.1]; exact he.1, fun b hb => (h.2 b (.inl (by omega))).trans (he.2 b hb)⟩
theorem Mid.own {N N' B : Nat} {m m' : Mem} {v : Value} {l : List Int} (h : Mid N B m m') (ho : OwnF N' m v l) (hB : B ≤ N') : OwnF N' m' v l :=
  ho.up fun b hb _ => h.2 b (.inr (by omega))
theorem ifOk_len {e : Nat} {l : List Nat} (h : l.length ≤ 24) : (ifOk e l []).length < 1000 := by
  unfold ifOk; split
  · omega
  · exact Nat.zero_lt_succ 999
theorem ifOk_len' {a : List Int} {n : Int} {l : List Nat} (h : checkF a n = 0 → l.length ≤ 24) : (ifOk (checkF a n) l []).length < 1000 := by
  unfold ifOk; split
  · have := h (by assumption); omega
  · exact Nat.zero_lt_succ 999
theorem checkF_le {l : List Int} {n : Int} (h : checkF l n = 0) : n.toNat ≤ 16 := by
  obtain ⟨N, L, rfl, rfl, h1, h2, _⟩ := checkF_nat h; simpa using h2

theorem okf9 : okF Tryd.prog H0 9 121 = true := by kernel_rfl
theorem spec_BitsSpans {m : Mem} {a : Value} {l : List Int} {n : Int} (hG : Glob m) (ha : IntsAt m a l) : ∃ v m', ACalls Tryd.prog 9 #[a, .int .i64 n] m v m' ∧ (v = .bool true ∧ True) := by
  have hgr := spec_great ha
  obtain ⟨q, cap, rfl⟩ := ha.len
  refine wpF (args := [_, _]) mixed okf9 (fn := Tryd.f9) rfl rfl rfl (by simp) ?_
  refine cSeq ?_
  refine cRegion ?_
  refine sAs (v := .bool false) rfl ?_
  refine sNil (kSeqN ?_)
  refine cSeq ?_   -- seq 1
  refine cSeq ?_
  refine cRegion ?_
  refine sMv (v := .slice _ _ _) rfl ?_
  refine sCall1 rfl call16 rfl hgr ?_
  refine sNil (kSeqN ?_)
  refine cCond rfl (fun c0 => ?_) (fun c0 => ?_)
  ·
    refine cSeq ?_
    refine cRegion ?_
    obtain ⟨v24, m24, h24, rfl, e24⟩ := spec_awake hG
    refine sCall0 rfl call17 h24 ?_
    refine sAs (v := .bool true) rfl ?_
    refine sNil (kSeqN ?_)
    refine cRet (kSeqR ?_)
    exact ⟨.inr rfl, _, rfl, rfl, trivial⟩
  ·
    have hl : l.length ≤ 40 := by simpa using c0
    refine cSkip (kSeqN ?_)
    refine cSeq ?_
    refine cRegion ?_
    refine sMv (v := .slice _ _ _) rfl ?_
    obtain ⟨v26, m26, h26, o26, e26⟩ := spec_Clone ha (by omega)
    have i26 := o26.ints
    obtain ⟨q26, c26, rfl⟩ := i26.len
    refine sCall1 rfl call18 rfl h26 ?_
    refine sAs (v := .slice _ _ _) rfl ?_
    refine sNil (kSeqN ?_)
    refine cSeq ?_
    refine cRegion ?_
    refine sMv (v := .slice _ _ _) rfl ?_
    refine sMv (v := .int _ _) rfl ?_
    obtain ⟨v30, m30, h30, rfl, e30⟩ := spec_refRank (n := n) (ha.ext e26) (by omega)
    have y30 := e26.trans e30
    refine sCall2 rfl call55 rfl rfl h30 ?_
    refine sMv (v := .tuple _) rfl ?_
    refine sP (v := nv _) rfl ?_   -- extract ['t27', '0']
    refine sP (v := nv _) rfl ?_   -- extract ['t27', '1']
    refine sAs (v := nv _) rfl ?_
    refine sAs (v := nv _) rfl ?_
    refine sNil (kSeqN ?_)
    refine cSeq ?_
    refine cRegion ?_
    refine sMv (v := .slice _ _ _) rfl ?_
    refine sMv (v := .int _ _) rfl ?_
    obtain ⟨v36, m36, h36, w36, rfl, o36, e36⟩ := spec_refReduce (n := n) (ha.ext y30) (by omega)
    have y36 := y30.trans e36
    obtain ⟨q36, c36, rfl⟩ := o36.ints.lenN
    refine sCall2 rfl call56 rfl rfl h36 ?_
    refine sMv (v := .tuple _) rfl ?_
    refine sP (v := .slice _ _ _) rfl ?_   -- extract ['t33', '0']
    refine sP (v := nv _) rfl ?_   -- extract ['t33', '1']
    refine sAs (v := .slice _ _ _) rfl ?_
    refine sAs (v := nv _) rfl ?_
    refine sNil (kSeqN ?_)
    refine cSeq ?_
    refine cRegion ?_
    refine sMv (v := .slice _ _ _) rfl ?_
    refine sMv (v := .int _ _) rfl ?_
    obtain ⟨v42, m42, h42, w42, rfl, o42, e42⟩ := spec_refFree (n := n) (ha.ext y36) (by omega)
    have y42 := y36.trans e42
    obtain ⟨q42, c42, rfl⟩ := o42.ints.lenN
    refine sCall2 rfl call57 rfl rfl h42 ?_
    refine sMv (v := .tuple _) rfl ?_
    refine sP (v := .slice _ _ _) rfl ?_   -- extract ['t39', '0']
    refine sP (v := nv _) rfl ?_   -- extract ['t39', '1']
    refine sAs (v := .slice _ _ _) rfl ?_
    refine sAs (v := nv _) rfl ?_
    refine sNil (kSeqN ?_)
    refine cSeq ?_
    refine cRegion ?_
    refine sMv (v := .slice _ _ _) rfl ?_
    refine sMv (v := .int _ _) rfl ?_
    obtain ⟨v48, m48, h48, w48, rfl, o48, e48⟩ := spec_refNull (n := n) (ha.ext y42) (by omega)
    have y48 := y42.trans e48
    obtain ⟨q48, c48, rfl⟩ := o48.ints.lenN
    refine sCall2 rfl call58 rfl rfl h48 ?_
    have z48 := ((e30.trans e36).trans e42).trans e48
    refine sMv (v := .tuple _) rfl ?_
    refine sP (v := .slice _ _ _) rfl ?_   -- extract ['t45', '0']
    refine sP (v := nv _) rfl ?_   -- extract ['t45', '1']
    refine sAs (v := .slice _ _ _) rfl ?_
    refine sAs (v := nv _) rfl ?_
    refine sNil (kSeqN ?_)
    refine cSeq ?_
    refine cRegion ?_
    refine sMv (v := .slice _ _ _) rfl ?_
    refine sMv (v := .int _ _) rfl ?_
    obtain ⟨v54, m54, h54, rfl, e54⟩ := spec_Rank (n := n) (i26.ext z48) (by omega)
    have z54 := z48.trans e54
    refine sCall2 rfl kall40 rfl rfl h54 ?_
    refine sMv (v := .tuple _) rfl ?_
    refine sP (v := nv _) rfl ?_   -- extract ['t51', '0']
    refine sP (v := nv _) rfl ?_   -- extract ['t51', '1']
    refine sAs (v := nv _) rfl ?_
    refine sAs (v := nv _) rfl ?_
    refine sNil (kSeqN ?_)
    refine cSeq ?_
    refine cRegion ?_
    refine sMv (v := .slice _ _ _) rfl ?_
    refine sMv (v := .int _ _) rfl ?_
    obtain ⟨v60, m60, h60, w60, rfl, o60, e60⟩ := spec_Reduce (n := n) (i26.ext z54) (by omega)
    have z60 := z54.trans e60
    obtain ⟨q60, c60, rfl⟩ := o60.ints.lenN
    refine sCall2 rfl call43 rfl rfl h60 ?_
    refine sMv (v := .tuple _) rfl ?_
    refine sP (v := .slice _ _ _) rfl ?_   -- extract ['t57', '0']
    refine sP (v := nv _) rfl ?_   -- extract ['t57', '1']
    refine sAs (v := .slice _ _ _) rfl ?_
    refine sAs (v := nv _) rfl ?_
    refine sNil (kSeqN ?_)
    refine cSeq ?_
    refine cRegion ?_
    refine sMv (v := .slice _ _ _) rfl ?_
    refine sMv (v := .int _ _) rfl ?_
    obtain ⟨v66, m66, h66, w66, rfl, o66, e66⟩ := spec_Free (n := n) (hG.ext (e26.trans z60)) (i26.ext z60) (by omega)
    have z66 := z60.trans e66
    obtain ⟨q66, c66, rfl⟩ := o66.ints.lenN
    refine sCall2 rfl kall59 rfl rfl h66 ?_
    refine sMv (v := .tuple _) rfl ?_
    refine sP (v := .slice _ _ _) rfl ?_   -- extract ['t63', '0']
    refine sP (v := nv _) rfl ?_   -- extract ['t63', '1']
    refine sAs (v := .slice _ _ _) rfl ?_
    refine sAs (v := nv _) rfl ?_
    refine sNil (kSeqN ?_)
    refine cSeq ?_
    refine cRegion ?_
    refine sMv (v := .slice _ _ _) rfl ?_
    refine sMv (v := .int _ _) rfl ?_
    obtain ⟨v72, m72, h72, w72, rfl, o72, e72⟩ := spec_Null (n := n) (hG.ext (e26.trans z66)) (i26.ext z66) (by omega)
    have z72 := z66.trans e72
    obtain ⟨q72, c72, rfl⟩ := o72.ints.lenN
    refine sCall2 rfl call39 rfl rfl h72 ?_
    refine sMv (v := .tuple _) rfl ?_
    refine sP (v := .slice _ _ _) rfl ?_   -- extract ['t69', '0']
    refine sP (v := nv _) rfl ?_   -- extract ['t69', '1']
    refine sAs (v := .slice _ _ _) rfl ?_
    refine sAs (v := nv _) rfl ?_
    refine sNil (kSeqN ?_)
    refine cSeq ?_
    refine cRegion ?_
    refine sMv (v := .slice _ _ _) rfl ?_
    refine sMv (v := .int _ _) rfl ?_
    obtain ⟨m77, h77, e77⟩ := spec_Check (n := n) (i26.ext z72) (by omega)
    have z77 := z72.trans e77
    have y77 := e26.trans z77
    refine sCall2 rfl kall60 rfl rfl h77 ?_
    refine sMv (v := .slice _ _ _) rfl ?_
    refine sMv (v := .int _ _) rfl ?_
    refine sCall2 rfl call61 rfl rfl (spec_refCheck (n := n) (ha.ext y77) (by omega)) ?_
    refine sBin (v := .bool true) (a := checkF l n) (b := checkF l n) rfl rfl (by rw [aInt_eql, decide_eq_true rfl]) ?_
    refine sMv (v := .bool true) rfl ?_
    refine sG rfl rfl ?_
    refine sMv (v := nv _) rfl ?_
    refine sG rfl rfl ?_
    refine sMv (v := nv _) rfl ?_
    refine sG rfl rfl ?_
    refine sBin (v := .bool true) (a := ifOk (checkF l n) (redM (nats l)).length 0) (b := ifOk (checkF l n) (redM (nats l)).length 0) rfl rfl (by rw [aInt_eql, decide_eq_true rfl]) ?_
    refine sP (v := .bool true) rfl ?_
    refine sMv (v := .bool true) rfl ?_
    refine sG rfl rfl ?_
    refine sMv (v := nv _) rfl ?_
    refine sG rfl rfl ?_
    refine sMv (v := nv _) rfl ?_
    refine sG rfl rfl ?_
    refine sBin (v := .bool true) (a := checkF l n) (b := checkF l n) rfl rfl (by rw [aInt_eql, decide_eq_true rfl]) ?_
    refine sP (v := .bool true) rfl ?_
    refine sMv (v := .bool true) rfl ?_
    refine sG rfl rfl ?_
    refine sMv (v := .slice _ _ _) rfl ?_
    refine sG rfl rfl ?_
    refine sMv (v := .slice _ _ _) rfl ?_
    refine sG rfl rfl ?_
    refine sMv (v := nv _) rfl ?_
    refine sG rfl rfl ?_
    refine sMv (v := nv _) rfl ?_
    refine sG rfl rfl ?_
    have w77 : Ext m60 m77 := (e66.trans e72).trans e77
    obtain ⟨v97, m97, h97, rfl, k97⟩ := spec_told (e := checkF l n) (w := checkF l n) o60 (o60.ext w77) (o36.ints.ext (((e42.trans e48).trans e54).trans (e60.trans w77))) (ifOk_len (redM_length _))
    rw [decide_eq_true (And.intro rfl rfl)] at h97
    refine sCall4 rfl call30 rfl rfl rfl rfl h97 ?_
    refine sP (v := .bool true) rfl ?_
    refine sMv (v := .bool true) rfl ?_
    refine sG rfl rfl ?_
    refine sMv (v := .slice _ _ _) rfl ?_
    refine sG rfl rfl ?_
    refine sMv (v := .slice _ _ _) rfl ?_
    refine sG rfl rfl ?_
    refine sMv (v := nv _) rfl ?_
    refine sG rfl rfl ?_
    refine sMv (v := nv _) rfl ?_
    refine sG rfl rfl ?_
    have o66' : OwnF m60.size m97 _ _ := k97.own (o66.ext (e72.trans e77)) (Nat.le_refl _)
    have y97 : Ext m42 m97 := k97.ext ((e48.trans e54).trans (e60.trans w77)) (Nat.le_trans e48.1 e54.1)
    obtain ⟨v104, m104, h104, rfl, k104⟩ := spec_told (e := checkF l n) (w := checkF l n) o66 o66' (o42.ints.ext y97) (ifOk_len' fun h => Nat.le_trans (ledM_length _ _ _) (Nat.le_trans (checkF_le h) (by decide)))
    rw [decide_eq_true (And.intro rfl rfl)] at h104
    refine sCall4 rfl call30 rfl rfl rfl rfl h104 ?_
    refine sP (v := .bool true) rfl ?_
    refine sMv (v := .bool true) rfl ?_
    refine sG rfl rfl ?_
    refine sMv (v := .slice _ _ _) rfl ?_
    refine sG rfl rfl ?_
    refine sMv (v := .slice _ _ _) rfl ?_
    refine sG rfl rfl ?_
    refine sMv (v := nv _) rfl ?_
    refine sG rfl rfl ?_
    refine sMv (v := nv _) rfl ?_
    refine sG rfl rfl ?_
    have o72' : OwnF m66.size m104 _ _ := k104.own (k97.own (o72.ext e77) e66.1) (Nat.le_refl _)
    have y104 : Ext m48 m104 := k104.ext (k97.ext (e54.trans (e60.trans w77)) e54.1) (Nat.le_trans e54.1 e60.1)
    obtain ⟨v111, m111, h111, rfl, k111⟩ := spec_told (e := checkF l n) (w := checkF l n) o72 o72' (o48.ints.ext y104) (ifOk_len' fun h => Nat.le_trans (nullM_len _ _ (Nat.le_trans (checkF_le h) (by decide))) (Nat.le_trans (checkF_le h) (by decide)))
    rw [decide_eq_true (And.intro rfl rfl)] at h111
    refine sCall4 rfl call30 rfl rfl rfl rfl h111 ?_
    have y111 : Ext m48 m111 := k111.ext y104 (Nat.le_trans e54.1 (Nat.le_trans e60.1 e66.1))
    refine sP (v := .bool true) rfl ?_
    refine sMv (v := .bool true) rfl ?_
    refine sG rfl rfl ?_
    refine sMv (v := .slice _ _ _) rfl ?_
    refine sG rfl rfl ?_
    refine sMv (v := .slice _ _ _) rfl ?_
    refine sG rfl rfl ?_
    have h116 := spec_Equal ((i26.ext z48).ext y111) ((ha.ext y48).ext y111) (by omega)
    rw [decide_eq_true rfl] at h116
    refine sCall2 rfl call23 rfl rfl h116 ?_
    refine sP (v := .bool true) rfl ?_
    refine sMv (v := .bool true) rfl ?_
    refine sG rfl rfl ?_
    obtain ⟨v119, m119, h119, rfl, e119⟩ := spec_awake (hG.ext (y48.trans y111))
    refine sCall0 rfl call17 h119 ?_
    refine sP (v := .bool true) rfl ?_
    refine sAs (v := .bool true) rfl ?_
    refine sNil (kSeqN ?_)
    refine cRet ?_
    exact ⟨.inr rfl, _, rfl, rfl, trivial⟩

end Go.AM

/-! ### E49 -/
namespace Go.AM
open Go.Proofs
set_option maxRecDepth 100000
set_option linter.unusedVariables false
set_option linter.unusedSimpArgs false
theorem kall24 : callable Tryd.prog 24 = true := by kernel_rfl
theorem kall25 : callable Tryd.prog 25 = true := by kernel_rfl
theorem kall26 : callable Tryd.prog 26 = true := by kernel_rfl
theorem kall27 : callable Tryd.prog 27 = true := by kernel_rfl
theorem kall28 : callable Tryd.prog 28 = true := by kernel_rfl
theorem kall29 : callable Tryd.prog 29 = true := by kernel_rfl
theorem eqlT' {a b : Nat} (h : a = b) : aInt .eql .i64 (Int.ofNat a) (Int.ofNat b) = some (.bool true) := by rw [aInt_eql, decide_eq_true h]

theorem okf4 : okF Tryd.prog H0 4 96 = true := by kernel_rfl
theorem spec_BitsWeights {m : Mem} {a : Value} {l : List Int} {n row x : Int} (hG : Glob m) (ha : IntsAt m a l) (hx : x < 9223372036854775808) : ∃ v m', ACalls Tryd.prog 4 #[a, .int .i64 n, .int .i64 row, .int .i64 x] m v m' ∧ (v = .bool true ∧ True) := by
  have hgr := spec_great ha
  obtain ⟨q, cap, rfl⟩ := ha.len
  refine wpF (args := [_, _, _, _]) mixed okf4 (fn := Tryd.f4) rfl rfl rfl (by simp) ?_
  refine cSeq ?_
  refine cRegion ?_
  refine sAs (v := .bool _) rfl ?_
  refine sNil (kSeqN ?_)
  refine cSeq ?_   -- seq 1
  refine cSeq ?_
  refine cRegion ?_
  refine sMv (v := .slice _ _ _) rfl ?_
  refine sCall1 rfl call16 rfl hgr ?_
  refine sNil (kSeqN ?_)
  refine cCond rfl (fun c0 => ?_) (fun c0 => ?_)
  ·
    refine cSeq ?_
    refine cRegion ?_
    obtain ⟨v24, m24, h24, rfl, e24⟩ := spec_awake hG
    refine sCall0 rfl call17 h24 ?_
    refine sAs (v := .bool _) rfl ?_
    refine sNil (kSeqN ?_)
    refine cRet (kSeqR ?_)
    exact ⟨.inr rfl, _, rfl, rfl, trivial⟩
  ·
    have hl : l.length ≤ 40 := by simpa using c0
    refine cSkip (kSeqN ?_)
    refine cSeq ?_
    refine cRegion ?_
    refine sMv (v := .slice _ _ _) rfl ?_
    obtain ⟨v26, m26, h26, o26, e26⟩ := spec_Clone ha (by omega)
    have i26 := o26.ints
    obtain ⟨q26, c26, rfl⟩ := i26.len
    refine sCall1 rfl call18 rfl h26 ?_
    refine sAs (v := .slice _ _ _) rfl ?_
    refine sNil (kSeqN ?_)
    refine cSeq ?_
    refine cRegion ?_
    refine sMv (v := .int _ _) rfl ?_
    obtain ⟨v29, m29, h29, rfl, k29⟩ := spec_refWeight (m := m26) (x := x) hx
    rw [k29] at h29
    refine sCall1 rfl kall24 rfl h29 ?_
    refine sMv (v := .tuple _) rfl ?_
    refine sP (v := nv _) rfl ?_   -- extract ['t27', '0']
    refine sP (v := nv _) rfl ?_   -- extract ['t27', '1']
    refine sAs (v := nv _) rfl ?_
    refine sAs (v := nv _) rfl ?_
    refine sNil (kSeqN ?_)
    refine cSeq ?_
    refine cRegion ?_
    refine sMv (v := .slice _ _ _) rfl ?_
    refine sMv (v := .int _ _) rfl ?_
    obtain ⟨v35, m35, h35, w35, rfl, o35, e35⟩ := spec_refWeights (n := n) (ha.ext e26) (by omega)
    obtain ⟨q35, c35, rfl⟩ := o35.ints.lenN
    refine sCall2 rfl kall25 rfl rfl h35 ?_
    refine sMv (v := .tuple _) rfl ?_
    refine sP (v := .slice _ _ _) rfl ?_   -- extract ['t32', '0']
    refine sP (v := nv _) rfl ?_   -- extract ['t32', '1']
    refine sAs (v := .slice _ _ _) rfl ?_
    refine sAs (v := nv _) rfl ?_
    refine sNil (kSeqN ?_)
    refine cSeq ?_
    refine cRegion ?_
    refine sMv (v := .slice _ _ _) rfl ?_
    refine sMv (v := .int _ _) rfl ?_
    refine sMv (v := .int _ _) rfl ?_
    obtain ⟨v42, m42, h42, rfl, e42⟩ := spec_refCoset (n := n) (row := row) (ha.ext (e26.trans e35)) (by omega)
    have z42 := e35.trans e42
    refine sCall3 rfl kall26 rfl rfl rfl h42 ?_
    refine sMv (v := .tuple _) rfl ?_
    refine sP (v := nv _) rfl ?_   -- extract ['t38', '0']
    refine sP (v := nv _) rfl ?_   -- extract ['t38', '1']
    refine sAs (v := nv _) rfl ?_
    refine sAs (v := nv _) rfl ?_
    refine sNil (kSeqN ?_)
    refine cSeq ?_
    refine cRegion ?_
    refine sMv (v := .int _ _) rfl ?_
    obtain ⟨v47, m47, h47, rfl, k47⟩ := spec_Weight (m := m42) (x := x) hx
    rw [k47] at h47
    refine sCall1 rfl kall27 rfl h47 ?_
    refine sMv (v := .tuple _) rfl ?_
    refine sP (v := nv _) rfl ?_   -- extract ['t45', '0']
    refine sP (v := nv _) rfl ?_   -- extract ['t45', '1']
    refine sAs (v := nv _) rfl ?_
    refine sAs (v := nv _) rfl ?_
    refine sNil (kSeqN ?_)
    refine cSeq ?_
    refine cRegion ?_
    refine sMv (v := .slice _ _ _) rfl ?_
    refine sMv (v := .int _ _) rfl ?_
    obtain ⟨v53, m53, h53, w53, rfl, o53, e53⟩ := spec_Weights (n := n) (hG.ext (e26.trans z42)) (i26.ext z42) (by omega)
    obtain ⟨q53, c53, rfl⟩ := o53.ints.lenN
    have z53 := z42.trans e53
    refine sCall2 rfl kall28 rfl rfl h53 ?_
    refine sMv (v := .tuple _) rfl ?_
    refine sP (v := .slice _ _ _) rfl ?_   -- extract ['t50', '0']
    refine sP (v := nv _) rfl ?_   -- extract ['t50', '1']
    refine sAs (v := .slice _ _ _) rfl ?_
    refine sAs (v := nv _) rfl ?_
    refine sNil (kSeqN ?_)
    refine cSeq ?_
    refine cRegion ?_
    refine sMv (v := .slice _ _ _) rfl ?_
    refine sMv (v := .int _ _) rfl ?_
    refine sMv (v := .int _ _) rfl ?_
    obtain ⟨v60, m60, h60, rfl, e60⟩ := spec_Coset (n := n) (row := row) (hG.ext (e26.trans z53)) (i26.ext z53) (by omega)
    have z60 := z53.trans e60
    refine sCall3 rfl kall29 rfl rfl rfl h60 ?_
    refine sMv (v := .tuple _) rfl ?_
    refine sP (v := nv _) rfl ?_   -- extract ['t56', '0']
    refine sP (v := nv _) rfl ?_   -- extract ['t56', '1']
    refine sAs (v := nv _) rfl ?_
    refine sAs (v := nv _) rfl ?_
    refine sNil (kSeqN ?_)
    refine cSeq ?_
    refine cRegion ?_
    refine sMv (v := nv _) rfl ?_
    refine sMv (v := nv _) rfl ?_
    refine sBin (v := .bool true) rfl rfl (eqlT' rfl) ?_
    refine sMv (v := .bool _) rfl ?_
    refine sG rfl rfl ?_
    refine sMv (v := nv _) rfl ?_
    refine sG rfl rfl ?_
    refine sMv (v := nv _) rfl ?_
    refine sG rfl rfl ?_
    refine sBin (v := .bool true) rfl rfl (eqlT' rfl) ?_
    refine sP (v := .bool _) rfl ?_   -- t70 pick ['t66', 't69', '(bool false)']
    refine sMv (v := .bool _) rfl ?_
    refine sG rfl rfl ?_
    refine sMv (v := .slice _ _ _) rfl ?_
    refine sG rfl rfl ?_
    refine sMv (v := .slice _ _ _) rfl ?_
    refine sG rfl rfl ?_
    refine sMv (v := nv _) rfl ?_
    refine sG rfl rfl ?_
    refine sMv (v := nv _) rfl ?_
    refine sG rfl rfl ?_
    have hlen : (ifOk (checkF l n) (weightsM (nats l) n.toNat) []).length < 1000 := ifOk_len' fun h => by
      rw [weightsM, cntG_length]; have := checkF_le h; omega
    obtain ⟨v76, m76, h76, rfl, k76⟩ := spec_told (e := checkF l n) (w := checkF l n) o53 (o53.ext e60) (o35.ints.ext ((e42.trans e53).trans e60)) hlen
    rw [decide_eq_true (And.intro rfl rfl)] at h76
    refine sCall4 rfl call30 rfl rfl rfl rfl h76 ?_
    have y76 : Ext m42 m76 := k76.ext (e53.trans e60) (Nat.le_refl _)
    refine sP (v := .bool _) rfl ?_   -- t77 pick ['t71', 't76', '(bool false)']
    refine sMv (v := .bool _) rfl ?_
    refine sG rfl rfl ?_
    refine sMv (v := nv _) rfl ?_
    refine sG rfl rfl ?_
    refine sMv (v := nv _) rfl ?_
    refine sG rfl rfl ?_
    refine sBin (v := .bool true) rfl rfl (eqlT' rfl) ?_
    refine sP (v := .bool _) rfl ?_   -- t82 pick ['t78', 't81', '(bool false)']
    refine sMv (v := .bool _) rfl ?_
    refine sG rfl rfl ?_
    refine sMv (v := nv _) rfl ?_
    refine sG rfl rfl ?_
    refine sMv (v := nv _) rfl ?_
    refine sG rfl rfl ?_
    refine sBin (v := .bool true) rfl rfl (eqlT' rfl) ?_
    refine sP (v := .bool _) rfl ?_   -- t87 pick ['t83', 't86', '(bool false)']
    refine sMv (v := .bool _) rfl ?_
    refine sG rfl rfl ?_
    refine sMv (v := .slice _ _ _) rfl ?_
    refine sG rfl rfl ?_
    refine sMv (v := .slice _ _ _) rfl ?_
    refine sG rfl rfl ?_
    have h91 := spec_Equal ((i26.ext z42).ext y76) ((ha.ext (e26.trans z42)).ext y76) (by omega)
    rw [decide_eq_true rfl] at h91
    refine sCall2 rfl call23 rfl rfl h91 ?_
    refine sP (v := .bool _) rfl ?_   -- t92 pick ['t88', 't91', '(bool false)']
    refine sMv (v := .bool _) rfl ?_
    refine sG rfl rfl ?_
    obtain ⟨v94, m94, h94, rfl, e94⟩ := spec_awake (hG.ext ((e26.trans z42).trans y76))
    refine sCall0 rfl call17 h94 ?_
    refine sP (v := .bool _) rfl ?_   -- t95 pick ['t93', 't94', '(bool false)']
    refine sAs (v := .bool _) rfl ?_
    refine sNil (kSeqN ?_)
    refine cRet ?_
    exact ⟨.inr rfl, _, rfl, rfl, trivial⟩

end Go.AM

/-! ### F15 -/
namespace Go.Proofs.YtgiidbomifmcaaaDoor
open Go Go.AM Go.ChangeShapes Go.WideShapes Go.ChangeAt Go.WideMaps Go.WideElems Go.RowKit
set_option maxRecDepth 100000
set_option linter.unusedVariables false
theorem own : ownKnob Tryd.prog.godebug = none := by kernel_rfl
/-- The door's own heap meets the condition: three closed facts. -/
theorem door_met (os : Os) (args : Array Value) : laidMetH Tryd.prog laid3 ((World.doorLaid Tryd.prog 400 os).forCall (fun _ _ => 0) ⟨#[], args, []⟩).memory :=
  laidMetH_of_parts3 (fuel := 8) (laidMet_of_run' 8 (by kernel_rfl) (by kernel_rfl)) (by kernel_rfl) (by kernel_rfl)
theorem lifted4 (os : Os) (started : os.Started) (H : Type) (enc : TypeId × Value → H) :
    ReturnsInHanded {} Tryd.checked os 4 .any (fun w args => (Rows.bitsWeightsSpec.pre enc Tryd.prog Tryd.f4 [] false w args ∧ laidMetH Tryd.prog laid3 w) ∧ sizedMet enc Tryd.prog Tryd.f4 (OpenSpec.ofChange Rows.bitsWeightsSpec) false w args)
      (Rows.bitsWeightsSpec.post enc Tryd.prog Tryd.f4 false true false false) := by
  refine returnsInHanded_of_change_and (C := Tryd.checked) (X := fun w _ => laidMetH Tryd.prog laid3 w) (fun _ _ _ hh h => h.of_heap hh) own started (by kernel_rfl) Tryd.func4
    (ChangeSpec.witness_shaped (enc := enc) (C := Tryd.checked) (os := os) (X := fun w _ => laidMetH Tryd.prog laid3 w) false (World.doorLaid Tryd.prog 400 os) #[.slice none 0 0, .int .i64 0, .int .i64 0, .int .i64 0] 8 rfl (World.shaped_of_RefB (by kernel_rfl) (by kernel_rfl)) (by kernel_rfl) (by kernel_rfl) (by kernel_rfl) (door_met os _)) ?_
  intro W base args ds gs before hval0 hW _ _ hL _
  have hval : ∀ (j : Nat) t v, Tryd.f4.params[j]? = some t → args[j]? = some v → Value.okWide Tryd.prog W .any base t v := hval0
  have hW' := hW
  obtain ⟨p, q, hA0, hV, rfl, hfz, hnd⟩ := hW
  have hA : DataW.TrodAll enc Tryd.prog W 0 (fun _ => true) true [22, 3, 3, 3] args.toList ds p := hA0
  obtain ⟨v0, vs0, d0, ds0, p0, q0, hargs, rfl, rfl, h0, r0⟩ := trodAll_cons hA
  obtain ⟨v1, vs1, d1, ds1, p1, q1, rfl, rfl, rfl, h1, r1⟩ := trodAll_cons r0
  obtain ⟨v2, vs2, d2, ds2, p2, q2, rfl, rfl, rfl, h2, r2⟩ := trodAll_cons r1
  obtain ⟨v3, vs3, d3, ds3, p3, q3, rfl, rfl, rfl, h3, r3⟩ := trodAll_cons r2
  obtain ⟨rfl, rfl, rfl⟩ := trodAll_nil r3
  obtain rfl : args = #[v0, v1, v2, v3] := by cases args; simp_all
  obtain ⟨rfl, rfl⟩ := trodVars_none hV
  obtain ⟨a0, l0, f0, ok0, wf0, A0⟩ := ints_arg hL u22 u3 c3 (hval 0 22 v0 rfl rfl) h0
  have lt0 : ∀ x ∈ p0, x.block < W.heap.size := by obtain ⟨m, hm⟩ := h0; exact DataW.trod_lt m _ _ _ hm
  obtain ⟨n1, rfl, rfl, rfl, w1⟩ := open_int u3 (hval 1 3 v1 rfl rfl) h1
  obtain ⟨n2, rfl, rfl, rfl, w2⟩ := open_int u3 (hval 2 3 v2 rfl rfl) h2
  obtain ⟨n3, rfl, rfl, rfl, w3⟩ := open_int u3 (hval 3 3 v3 rfl rfl) h3
  refine (entry (args := #[f0 0, .int .i64 n1, .int .i64 n2, .int .i64 n3]) (A := [a0]) hL (by intro a ha; simp only [List.mem_cons, List.not_mem_nil, or_false] at ha; rcases ha with rfl <;> assumption) (fun bm => (arel_cons ((A0 _ 0 rfl).2 bm) (arel_cons (.int _ _) (arel_cons (.int _ _) (arel_cons (.int _ _) arel_nil))))) (fun b => ?_)).mono ?_
  · obtain ⟨v, m, h, hv, _⟩ := spec_BitsWeights (glob0 b _) ((A0 [a0] 0 rfl).1 b).ints (i64_lt w3)
    exact ⟨v, m, h, hv⟩
  · rintro e W' ⟨rfl, bel⟩
    exact ⟨_, rfl, _, _, _, [], _, [], hW', trodAll_mk1 (shut_bool u4 _), (trodAll_cons_mk (Below.trod laidOut (by kernel_rfl) (of_decide_eq_true (by kernel_rfl)) h0 bel lt0) (trodAll_cons_mk (shut_int u3 w1) (trodAll_cons_mk (shut_int u3 w2) (trodAll_cons_mk (shut_int u3 w3) trodAll_mk0)))), rfl, bel.frame _, fun h => by cases h⟩
theorem bitsWeights_holds : Rows.BitsWeightsSaid :=
  OpenClaim.holds_of_wide 4 Tryd.f4 rfl rfl rfl rfl rfl rfl rfl ⟨rfl, rfl, rfl, rfl, rfl⟩ rfl rfl rfl rfl rfl (by kernel_rfl) Tryd.func4 (by kernel_rfl)
    (of_decide_eq_true (by kernel_rfl)) (by unfold Func.isWrapper; first | (rw [if_pos (by decide +kernel)]; kernel_rfl) | (rw [if_neg (by decide +kernel)]; exact ⟨rfl, rfl⟩))
    (fun os started H enc _ => lifted4 os started H enc)
theorem bitsWeightsCard_holds : Rows.BitsWeightsCardSaid :=
  Claim7.holds_tied_plain_at .later [] [.data, .data, .funcs] true (true, "4e90e708c3a0b8b9bd838c7bc74774a1a5a946fb69b32deeeece4d3212f6d5ce") false
    bitsWeights_holds (fun _ h => by cases h) (by kernel_rfl) (fun _ h => by cases h) bitsWeights_row_tie rfl ⟨rfl, rfl⟩ (by kernel_rfl) rfl
    (fun f fn hf hfn => by
      obtain rfl : f = 4 := Option.some.inj ((show Tryd.prog.funcNamed "spoondrift/spoondriftlaw02.BitsWeights" = some 4 by kernel_rfl).symm.trans hf) |>.symm
      obtain rfl : fn = Tryd.f4 := (Option.some.inj (Tryd.func4.symm.trans hfn)).symm
      exact ⟨by kernel_rfl, fun j t ht => by
        have hm : t ∈ [22, 3, 3, 3] := by simpa using Array.mem_of_getElem? (show (#[22, 3, 3, 3] : Array Nat)[j]? = some t from ht)
        have hall : ([22, 3, 3, 3].all fun u => !Tryd.prog.wantsStandIn u) = true := by kernel_rfl
        exact (show Tryd.prog.wantsStandIn t = false by simpa using List.all_eq_true.1 hall t hm)⟩)
    (by kernel_rfl)
end Go.Proofs.YtgiidbomifmcaaaDoor
