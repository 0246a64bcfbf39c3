/- Contracts of the package bits (part 2 of 3). -/
import Derived.Test.YtgiidbomifmcaaaDoorBits
import Derived.Test.YtgiidbomifmcaaaDoorPlain
import Derived.Test.YtgiidbomifmcaaaDoorFacts
set_option linter.unusedVariables false
set_option linter.unusedSimpArgs false
/-! ### E10 -/
namespace Go.AM
open Go.Proofs
set_option maxRecDepth 100000
set_option linter.unusedVariables false
set_option linter.unusedSimpArgs false
theorem sMkN {P : Program} {ρ : Env} {m : Mem} {K : Env → Mem → Prop} {ops : Array Oper} {l : List Oper} {d : Option Nat} {ty t e : TypeId} {pos : String} {af : Array Edge} {x y : Operand} {n : Nat}
    (ht : undOf P t = some (.slice e)) (hs : szOf P e = some 1) (hz : zeroOf P e = some (nv 0)) (hb : bytesOf' P e = some 8) (hx : evR ρ x = nv n) (hy : evR ρ y = nv n) (hn : n ≤ 1000000)
    (hk : wpOps P ops K l (updO ρ d (.slice (some ⟨m.size, 0, some 1⟩) n n)) (m.push (.cells true (cellsN (List.replicate n 0))))) : wpOps P ops K (⟨d, .makeSlice t x y, ty, pos, af, none⟩ :: l) ρ m := by
  refine sO (opF_eff rfl rfl ?_) hk
  have hcl : (nv 0).cells = #[nv 0] := rfl
  simp only [aEff, hx, hy, aMakeSlice, ht, hs, hz, hb, nv]
  rw [if_pos ⟨by decide, by decide, by kernel_rfl, by simp, by simp, by simp; omega, by simp; omega⟩]
  have e1 : ((Array.range ((Int.ofNat n).toNat * 1)).map fun x => (Value.int .i64 (Int.ofNat 0)).cells[x % (Value.int .i64 (Int.ofNat 0)).cells.size]!) = cellsN (List.replicate n 0) := by
    apply Array.ext
    · simp [cellsN]
    · intro i h1 h2
      simp [cellsN, Value.cells, Nat.mod_one]
  rw [e1]; rfl
theorem bytes3 : bytesOf' Tryd.prog 3 = some 8 := by kernel_rfl
theorem call60 : callable Tryd.prog 60 = true := by kernel_rfl
theorem call75 : callable Tryd.prog 75 = true := by kernel_rfl
theorem call76 : callable Tryd.prog 76 = true := by kernel_rfl
theorem call77 : callable Tryd.prog 77 = true := by kernel_rfl

theorem okf77 : okF Tryd.prog H0 77 25 = true := by kernel_rfl
theorem spec_product {m : Mem} {a : Value} {l : List Nat} {w : Nat} (ha : IntsAt m a (ofs l)) (hl : l.length < 1000000) (hx : ∀ x ∈ l, x < 2 ^ 62) (hw : w < 2 ^ 62) : ∃ v m', ACalls Tryd.prog 77 #[nv w, a] m v m' ∧ (v = nv (total l w) ∧ m' = m) := by
  obtain ⟨q, cap, rfl⟩ := ha.len
  rw [ofs_length] at *
  refine wpF (args := [_, _]) mixed okf77 (fn := Tryd.f77) rfl rfl rfl (by simp) ?_
  refine cSeq ?_
  refine cRegion ?_
  refine sAs (v := nv 0) rfl ?_
  refine sNil (kSeqN ?_)
  refine cSeq ?_
  refine cRegion ?_
  refine sAs (v := nv 0) rfl ?_
  refine sNil (kSeqN ?_)
  refine cSeq ?_
  refine cSeq ?_
  refine cRegion ?_
  refine sMv (v := .slice _ _ _) rfl ?_
  refine sLen T22 rfl ?_
  refine sMv (v := nv 0) rfl ?_
  refine sNil (kSeqN ?_)
  refine cBlock ?_
  refine wpC_loop (fun k ρ m' => ∃ i, k = l.length - i ∧ i ≤ l.length ∧ m' = m ∧ Has ρ [(0, nv w), (5, nv (total (l.take i) w)), (8, .slice q l.length cap), (9, nv l.length), (10, nv i)]) ⟨0, rfl, by omega, rfl, rfl, rfl, rfl, rfl, rfl, trivial⟩ ?_
  rintro k ρ _ ⟨i, rfl, hi, rfl, hh⟩
  rw [hh.env]; clear hh
  refine cSeq ?_
  refine cRegion ?_
  refine sBin rfl rfl (aInt_lss) ?_
  refine sNil (kSeqN ?_)
  refine cSeq ?_   -- seq 5
  refine cCond rfl (fun c0 => ?_) (fun c0 => ?_)
  ·
    obtain ⟨b1, o1, p1, r1, c1, e1, g1, x1⟩ := ha.at (by rw [ofs_length]; omega)
    rw [ofs_length] at e1
    cases e1
    have hxi := hx l[i] (List.getElem_mem c0)
    have hsh := Nat.shiftRight_le w i
    have htl := total_lt (l := l.take i) (n := 62) (fun x h => hx x (List.mem_of_mem_take h)) w
    have hg : l.getD i 0 = l[i] := by rw [List.getD_eq_getElem?_getD, List.getElem?_eq_getElem c0]; rfl
    refine cSkip (kSeqN ?_)
    refine cSeq ?_
    refine cBlock ?_
    refine cSeq ?_
    refine cRegion ?_
    refine sMv (v := nv _) rfl ?_
    refine sIx T22 S3 rfl rfl (by omega) ?_
    refine sLd (v := nv l[i]) A3 rfl g1 (x1 i (Int.ofNat l[i]) (ofs_get (by simp))) ?_
    refine sAs (v := nv _) rfl ?_
    refine sAs (v := nv _) rfl ?_
    refine sNil (kSeqN ?_)
    refine cSeq ?_
    refine cRegion ?_
    refine sMv (v := nv _) rfl ?_
    refine sMv (v := nv _) rfl ?_
    refine sBin rfl rfl (aInt_shr (by omega)) ?_
    refine sBin rfl rfl (aInt_and (b := 1) (by omega)) ?_
    refine sBin rfl rfl (aInt_eql (b := 1)) ?_
    rw [decide_eq_decide.2 (iff_of_eq (and_one w i))]
    refine sNil (kSeqN ?_)
    refine cCond rfl (fun c1 => ?_) (fun c1 => ?_)
    ·
      refine cRegion ?_
      refine sMv (v := nv _) rfl ?_
      refine sMv (v := nv _) rfl ?_
      refine sBin rfl rfl (aInt_xor (by omega)) ?_
      refine sAs (v := nv _) rfl ?_
      refine sNil (kBlkN (kSeqN ?_))
      refine cRegion ?_
      refine sBin rfl rfl (aInt_add (b := 1) (by omega)) ?_
      refine sMv (v := nv _) rfl ?_
      refine sNil (kSeqN ?_)
      refine ⟨_, ?_, i + 1, rfl, by omega, rfl, rfl, ?_, rfl, rfl, rfl, trivial⟩
      · omega
      · rw [total_take_succ, if_pos c1, hg]; rfl
    ·
      refine cSkip (kBlkN (kSeqN ?_))
      refine cRegion ?_
      refine sBin rfl rfl (aInt_add (b := 1) (by omega)) ?_
      refine sMv (v := nv _) rfl ?_
      refine sNil (kSeqN ?_)
      refine ⟨_, ?_, i + 1, rfl, by omega, rfl, rfl, ?_, rfl, rfl, rfl, trivial⟩
      · omega
      · rw [total_take_succ, if_neg c1, Nat.xor_zero]; rfl
  ·
    refine cExit (kSeqE (kSeqE (kBlkS (kSeqN ?_))))
    refine cSeq ?_
    refine cRegion ?_
    refine sMv (v := nv _) rfl ?_
    refine sAs (v := nv _) rfl ?_
    refine sNil (kSeqN ?_)
    refine cRet ?_
    obtain rfl : i = l.length := by omega
    rw [List.take_length]
    exact ⟨.inr rfl, _, rfl, rfl, rfl⟩

theorem okf75 : okF Tryd.prog H0 75 37 = true := by kernel_rfl
theorem spec_turned {m : Mem} {a : Value} {l : List Nat} {n : Nat} (ha : IntsAt m a (ofs l)) (hl : l.length ≤ 60) (hx : ∀ x ∈ l, x < 2 ^ 62) (hn : n ≤ 1000000) : ∃ v m', ACalls Tryd.prog 75 #[a, nv n] m v m' ∧ (OwnF m.size m' v (ofs (turnedM l n)) ∧ Ext m m') := by
  obtain ⟨q, cap, rfl⟩ := ha.len
  rw [ofs_length] at *
  refine wpF (args := [_, _]) mixed okf75 (fn := Tryd.f75) rfl rfl rfl (by simp) ?_
  refine cSeq ?_
  refine cRegion ?_
  refine sAs (v := .slice _ _ _) rfl ?_
  refine sNil (kSeqN ?_)
  refine cSeq ?_
  refine cRegion ?_
  refine sMv (v := nv _) rfl ?_
  refine sMkN T22 S3 Z3 bytes3 rfl rfl hn ?_
  refine sAs (v := .slice _ _ _) rfl ?_
  refine sNil (kSeqN ?_)
  refine cSeq ?_
  refine cSeq ?_
  refine cRegion ?_
  refine sMv (v := .slice _ _ _) rfl ?_
  refine sLen T22 rfl ?_
  refine sMv (v := nv 0) rfl ?_
  refine sNil (kSeqN ?_)
  refine cBlock ?_
  refine wpC_loop (fun k ρ m' => ∃ i, k = l.length - i ∧ i ≤ l.length ∧ Ext m m' ∧ m.size + 1 ≤ m'.size ∧ Mem.get m' m.size = .cells true (cellsN (turnAt l n i 0)) ∧ Has ρ [(1, nv n), (5, .slice (some ⟨m.size, 0, some 1⟩) n n), (11, .slice q l.length cap), (12, nv l.length), (13, nv i)]) ⟨0, rfl, by omega, .push _ _, by simp, by rw [turnAt_zero]; exact gP rfl, rfl, rfl, rfl, rfl, rfl, trivial⟩ ?_
  rintro k ρ m' ⟨i, rfl, hi, he, hz, g1, hh⟩
  rw [hh.env]; clear hh
  refine cSeq ?_
  refine cRegion ?_
  refine sBin rfl rfl (aInt_lss) ?_
  refine sNil (kSeqN ?_)
  refine cSeq ?_   -- seq 5
  refine cCond rfl (fun c0 => ?_) (fun c0 => ?_)
  ·
    obtain ⟨b1, o1, p1, r1, c1, e1, gl, x1⟩ := (ha.ext he).at (by rw [ofs_length]; omega)
    rw [ofs_length] at e1
    cases e1
    have hxi := hx l[i] (List.getElem_mem c0)
    have hg : l.getD i 0 = l[i] := by rw [List.getD_eq_getElem?_getD, List.getElem?_eq_getElem c0]; rfl
    refine cSkip (kSeqN ?_)
    refine cSeq ?_
    refine cBlock ?_
    refine cSeq ?_
    refine cRegion ?_
    refine sMv (v := nv _) rfl ?_
    refine sIx T22 S3 rfl rfl (by omega) ?_
    refine sLd (v := nv l[i]) A3 rfl gl (x1 i (Int.ofNat l[i]) (ofs_get (by simp))) ?_
    refine sAs (v := nv _) rfl ?_
    refine sAs (v := nv _) rfl ?_
    refine sNil (kSeqN ?_)
    refine cSeq ?_
    refine cRegion ?_
    refine sMv (v := nv _) rfl ?_
    refine sMv (v := nv 0) rfl ?_
    refine sNil (kSeqN ?_)
    refine cBlock ?_
    refine wpC_loop (fun k ρ m2 => ∃ j, k = n - j ∧ j ≤ n ∧ Ext m m2 ∧ m.size + 1 ≤ m2.size ∧ Mem.get m2 m.size = .cells true (cellsN (turnAt l n i j)) ∧ Has ρ [(1, nv n), (5, .slice (some ⟨m.size, 0, some 1⟩) n n), (6, nv i), (7, nv l[i]), (11, .slice (some ⟨b1, o1, some 1⟩) l.length cap), (12, nv l.length), (13, nv i), (18, nv n), (19, nv j)]) ⟨0, rfl, by omega, he, hz, g1, rfl, rfl, rfl, rfl, rfl, rfl, rfl, rfl, rfl, trivial⟩ ?_
    rintro k2 ρ m2 ⟨j, rfl, hj, he2, hz2, f1, hh⟩
    rw [hh.env]; clear hh
    refine cSeq ?_
    refine cRegion ?_
    refine sBin rfl rfl (aInt_lss) ?_
    refine sNil (kSeqN ?_)
    refine cSeq ?_   -- seq 10
    refine cCond rfl (fun c1 => ?_) (fun c1 => ?_)
    ·
      have hsh := Nat.shiftRight_le l[i] j
      have hcp := colP_lt l j i
      have h2i : 2 ^ i < 2 ^ 60 := Nat.pow_lt_pow_right (by omega) (by omega)
      have ha1 : l[i] >>> j &&& 1 ≤ 1 := Nat.and_le_right
      have hmul : (l[i] >>> j &&& 1) * 2 ^ i < 2 ^ 60 := Nat.lt_of_le_of_lt (Nat.mul_le_mul_right _ ha1) (by omega)
      have hgj : (cellsN (turnAt l n i j))[0 + j * 1]? = some (nv (colP l j i)) := by
        rw [Nat.zero_add, Nat.mul_one]; refine cellsN_get ?_; rw [turnAt_get c1, if_neg (by omega)]
      refine cSkip (kSeqN ?_)
      refine cSeq ?_
      refine cBlock ?_
      refine cSeq ?_
      refine cRegion ?_
      refine sMv (v := nv _) rfl ?_
      refine sAs (v := nv _) rfl ?_
      refine sNil (kSeqN ?_)
      refine cDraw rfl ?_
      refine sMv (v := .slice _ _ _) rfl ?_
      refine sMv (v := nv _) rfl ?_
      refine sIx T22 S3 rfl rfl (by omega) ?_
      refine sLd (v := nv (colP l j i)) A3 rfl (by simp (disch := first | omega | (simp only [Array.size_push, Array.size_setIfInBounds]; done) | (simp only [Array.size_push, Array.size_setIfInBounds]; omega)) only [gP, gPn, gS, gSn, f1]; try rfl) hgj ?_
      refine sMv (v := nv _) rfl ?_
      refine sMv (v := nv _) rfl ?_
      refine sBin rfl rfl (aInt_shr (by omega)) ?_
      refine sBin rfl rfl (aInt_and (b := 1) (by omega)) ?_
      refine sMv (v := nv _) rfl ?_
      refine sBin rfl rfl (aInt_shl (by omega)) ?_
      refine sBin rfl rfl (aInt_or (by rw [Nat.shiftLeft_eq]; omega)) ?_
      refine sIx T22 S3 rfl rfl (by omega) ?_
      refine sSt (v := nv _) S3 rfl rfl (by simp (disch := first | omega | (simp only [Array.size_push, Array.size_setIfInBounds]; done) | (simp only [Array.size_push, Array.size_setIfInBounds]; omega)) only [gP, gPn, gS, gSn, f1]; try rfl) (by simp [turnAt_length]; omega) rfl rfl ?_
      rw [cellsN_set, Nat.zero_add, Nat.mul_one]
      refine sNil (kBlkN (kSeqN ?_))
      refine cRegion ?_
      refine sBin rfl rfl (aInt_add (b := 1) (by omega)) ?_
      refine sMv (v := nv _) rfl ?_
      refine sNil (kSeqN ?_)
      refine ⟨_, ?_, j + 1, rfl, by omega, he2.set (by omega) _, by simpa using hz2, ?_, rfl, rfl, rfl, rfl, rfl, rfl, rfl, rfl, rfl, trivial⟩
      · omega
      · rw [gS rfl (by omega), ← turnAt_set c1, colP, hg]
    ·
      refine cExit (kSeqE (kSeqE (kBlkS (kBlkN (kSeqN ?_)))))
      refine cRegion ?_
      refine sBin rfl rfl (aInt_add (b := 1) (by omega)) ?_
      refine sMv (v := nv _) rfl ?_
      refine sNil (kSeqN ?_)
      obtain rfl : j = n := by omega
      refine ⟨_, ?_, i + 1, rfl, by omega, he2, hz2, ?_, rfl, rfl, rfl, rfl, rfl, trivial⟩
      · omega
      · rw [f1, turnAt_next]
  ·
    refine cExit (kSeqE (kSeqE (kBlkS (kSeqN ?_))))
    refine cSeq ?_
    refine cRegion ?_
    refine sMv (v := .slice _ _ _) rfl ?_
    refine sAs (v := .slice _ _ _) rfl ?_
    refine sNil (kSeqN ?_)
    refine cRet ?_
    obtain rfl : i = l.length := by omega
    refine ⟨.inr rfl, _, rfl, ?_, he⟩
    rw [turnAt_last] at g1
    have := OwnF.ofCells (N := m.size) (r := []) (Nat.le_refl _) (by rw [List.append_nil]; exact g1)
    rw [List.append_nil, turnedM_length] at this
    exact this

end Go.AM

/-! ### E11 -/
namespace Go.AM
open Go.Proofs
set_option maxRecDepth 100000
set_option linter.unusedVariables false
set_option linter.unusedSimpArgs false
theorem call74 : callable Tryd.prog 74 = true := by kernel_rfl
theorem call101 : callable Tryd.prog 101 = true := by kernel_rfl
theorem B94_1 {a : Int} : aBuild Tryd.prog 94 [(1, .int .i64 a)] = some (.agg #[nv 0, .int .i64 a]) := by kernel_rfl
theorem beqI {a b : Nat} : (Int.ofNat a == Int.ofNat b) = decide (a = b) := by
  rw [Bool.eq_iff_iff]; simp; omega
theorem eq94 {a b c d : Nat} : aBin Tryd.prog .eql 94 (.agg #[nv a, nv b]) (.agg #[nv c, nv d]) = some (.bool (decide (a = c ∧ b = d))) := by
  have h : aBin Tryd.prog .eql 94 (.agg #[nv a, nv b]) (.agg #[nv c, nv d]) = (match (Int.ofNat a == Int.ofNat c), (Int.ofNat b == Int.ofNat d) with
    | true, y => (match y with
      | true => some true
      | false => some false)
    | false, _ => some false : Option Bool).map .bool := by
    cases h1 : (Int.ofNat a == Int.ofNat c) <;> cases h2 : (Int.ofNat b == Int.ofNat d)
    all_goals
      have hU : undOf Tryd.prog 94 = some (TypeDesc.struct #[{ name := "row", type := 3, offset := 0, embedded := false, tag := "", pkgPath := "spoondrift/bits", byteOffset := 0 }, { name := "of", type := 3, offset := 1, embedded := false, tag := "", pkgPath := "spoondrift/bits", byteOffset := 8 }]) := by kernel_rfl
      have hI : undOf Tryd.prog 3 = some (.int .i64) := by kernel_rfl
      have hH : Tryd.prog.stoodInHeld 94 = false := by kernel_rfl
      have hG : Tryd.prog.eqGuardType Tryd.prog.depth 94 = false := by kernel_rfl
      simp only [aBin, eqAble, hG, eqDepth, aEq, hU, hH, aEqFields, aPart, A3, hI]
      have e1 : aEq0 (.int .i64) (nv a) (nv c) = some (Int.ofNat a == Int.ofNat c) := rfl
      have e2 : aEq0 (.int .i64) (nv b) (nv d) = some (Int.ofNat b == Int.ofNat d) := rfl
      have g1 : (#[nv a, nv b] : Array Value)[0]? = some (nv a) := rfl
      have g2 : (#[nv a, nv b] : Array Value)[1]? = some (nv b) := rfl
      have g3 : (#[nv c, nv d] : Array Value)[0]? = some (nv c) := rfl
      have g4 : (#[nv c, nv d] : Array Value)[1]? = some (nv d) := rfl
      simp only [g1, g2, g3, g4, e1, e2, h1, h2]
      simp
  rw [h, beqI, beqI]
  by_cases h1 : a = c <;> by_cases h2 : b = d <;> simp [h1, h2]
/-- The error of rows and a row more. -/
def oneF (l : List Int) (n row : Int) : Nat := if checkF l n = 0 ∧ ¬ (0 ≤ row ∧ row < 2 ^ n.toNat) then 4 else checkF l n
def bothF (a b : List Int) (n : Int) : Nat := if checkF a n = 0 then checkF b n else checkF a n
theorem checkF_range {l : List Int} {n : Int} (h : checkF l n = 0) : 1 ≤ n ∧ n ≤ 16 ∧ l.length ≤ 24 ∧ ∀ x ∈ l, 0 ≤ x ∧ x < 2 ^ n.toNat := by
  unfold checkF at h
  split at h
  · cases h
  · rename_i h1
    split at h
    · cases h
    · rename_i h2
      split at h
      · rename_i h3
        refine ⟨by omega, by omega, by omega, fun x hx => ?_⟩
        have := List.all_eq_true.1 h3 x hx
        simpa using this
      · cases h
/-- Right rows are numbers. -/
theorem checkF_nat {l : List Int} {n : Int} (h : checkF l n = 0) : ∃ (N : Nat) (L : List Nat), n = Int.ofNat N ∧ l = ofs L ∧ 1 ≤ N ∧ N ≤ 16 ∧ L.length ≤ 24 ∧ ∀ x ∈ L, x < 2 ^ N := by
  obtain ⟨h1, h2, h3, h4⟩ := checkF_range h
  refine ⟨n.toNat, l.map Int.toNat, by simp; omega, ?_, by omega, by omega, by simpa using h3, fun x hx => ?_⟩
  · rw [ofs, List.map_map]
    refine (List.map_id _).symm.trans (List.map_congr_left fun x hx => ?_)
    have := (h4 x hx).1
    simp; omega
  · obtain ⟨y, hy, rfl⟩ := List.mem_map.1 hx
    have h5 := h4 y hy
    have : (y.toNat : Int) < ((2 ^ n.toNat : Nat) : Int) := by rw [Int.toNat_of_nonneg h5.1]; exact_mod_cast h5.2
    exact_mod_cast this

theorem okf76 : okF Tryd.prog H0 76 20 = true := by kernel_rfl
theorem spec_one {m : Mem} {a : Value} {l : List Int} {n row : Int} (ha : IntsAt m a l) (hl : l.length < 4611686018427387904) : ∃ v m', ACalls Tryd.prog 76 #[a, .int .i64 n, .int .i64 row] m v m' ∧ (v = nv (oneF l n row) ∧ Ext m m') := by
  obtain ⟨m10, h10, k10⟩ := spec_Check (n := n) ha hl
  obtain ⟨q, cap, rfl⟩ := ha.len
  refine wpF (args := [_, _, _]) mixed okf76 (fn := Tryd.f76) rfl rfl rfl (by simp) ?_
  refine cSeq ?_
  refine cRegion ?_
  refine sAs (v := nv 0) rfl ?_
  refine sNil (kSeqN ?_)
  refine cSeq ?_
  refine cRegion ?_
  refine sMv (v := .slice _ _ _) rfl ?_
  refine sMv (v := .int _ _) rfl ?_
  refine sCall2 rfl call60 rfl rfl h10 ?_
  refine sAs (v := nv _) rfl ?_
  refine sNil (kSeqN ?_)
  refine cSeq ?_   -- seq 2
  refine cSeq ?_
  refine cRegion ?_
  refine sMv (v := nv _) rfl ?_
  refine sBin (a := checkF l n) rfl rfl (aInt_eql (b := 0)) ?_
  refine sMv (v := .bool _) rfl ?_
  by_cases h1 : checkF l n = 0
  ·
    rw [decide_eq_true h1]
    obtain ⟨N, L, rfl, rfl, hN1, hN2, hL1, hL2⟩ := checkF_nat h1
    refine sG rfl rfl ?_
    refine sMv (v := .int _ _) rfl ?_
    refine sG rfl rfl ?_
    refine sMv (v := nv N) rfl ?_
    refine sG rfl rfl ?_
    refine sCall2 (v := .bool (decide (0 ≤ row ∧ row < 2 ^ N))) rfl call73 rfl rfl (spec_fits (by omega)) ?_
    refine sG rfl rfl ?_
    refine sP (v := .bool (!decide (0 ≤ row ∧ row < 2 ^ N))) rfl ?_
    refine sP (v := .bool _) rfl ?_
    refine sNil (kSeqN ?_)
    refine cCond (p := ¬ (0 ≤ row ∧ row < 2 ^ N)) (by show Value.bool (!decide _) = _; rw [← decide_not]) (fun c0 => ?_) (fun c0 => ?_)
    ·
      refine cSeq ?_
      refine cRegion ?_
      refine sAs (v := nv 4) rfl ?_
      refine sNil (kSeqN ?_)
      refine cRet (kSeqR ?_)
      refine ⟨.inr rfl, _, rfl, ?_, k10⟩
      have : oneF (ofs L) (Int.ofNat N) row = 4 := by unfold oneF; rw [if_pos ⟨h1, by simpa using c0⟩]
      rw [this]; rfl
    ·
      refine cSkip (kSeqN ?_)
      refine cSeq ?_
      refine cRegion ?_
      refine sMv (v := nv _) rfl ?_
      refine sAs (v := nv _) rfl ?_
      refine sNil (kSeqN ?_)
      refine cRet ?_
      refine ⟨.inr rfl, _, rfl, ?_, k10⟩
      have : oneF (ofs L) (Int.ofNat N) row = checkF (ofs L) (Int.ofNat N) := by unfold oneF; rw [if_neg (by simp only [not_and]; intro _; simpa using c0)]
      rw [this]; rfl
  ·
    rw [decide_eq_false h1]
    refine sGno (q' := false) rfl rfl (by simp) ?_
    refine sGno (q' := false) rfl rfl (by simp) ?_
    refine sGno (q' := false) rfl rfl (by simp) ?_
    refine sGno (q' := false) rfl rfl (by simp) ?_
    refine sP (v := .bool _) rfl ?_
    refine sNil (kSeqN ?_)
    refine cCondF rfl ?_
    refine cSkip (kSeqN ?_)
    refine cSeq ?_
    refine cRegion ?_
    refine sMv (v := nv _) rfl ?_
    refine sAs (v := nv _) rfl ?_
    refine sNil (kSeqN ?_)
    refine cRet ?_
    refine ⟨.inr rfl, _, rfl, ?_, k10⟩
    have : oneF l n row = checkF l n := by unfold oneF; rw [if_neg (by simp [h1])]
    rw [this]; rfl

theorem okf101 : okF Tryd.prog H0 101 17 = true := by kernel_rfl
theorem spec_both {m : Mem} {a b : Value} {l r : List Int} {n : Int} (ha : IntsAt m a l) (hb : IntsAt m b r) (hl : l.length < 4611686018427387904) (hr : r.length < 4611686018427387904) : ∃ v m', ACalls Tryd.prog 101 #[a, b, .int .i64 n] m v m' ∧ (v = nv (bothF l r n) ∧ Ext m m') := by
  obtain ⟨m10, h10, k10⟩ := spec_Check (n := n) ha hl
  obtain ⟨m16, h16, k16⟩ := spec_Check (n := n) (hb.ext k10) hr
  obtain ⟨q, cap, rfl⟩ := ha.len
  obtain ⟨q2, cap2, rfl⟩ := hb.len
  refine wpF (args := [_, _, _]) mixed okf101 (fn := Tryd.f101) rfl rfl rfl (by simp) ?_
  refine cSeq ?_
  refine cRegion ?_
  refine sAs (v := nv 0) rfl ?_
  refine sNil (kSeqN ?_)
  refine cSeq ?_
  refine cSeq ?_
  refine cRegion ?_
  refine sMv (v := .slice _ _ _) rfl ?_
  refine sMv (v := .int _ _) rfl ?_
  refine sCall2 rfl call60 rfl rfl h10 ?_
  refine sAs (v := nv _) rfl ?_
  refine sNil (kSeqN ?_)
  refine cSeq ?_
  refine cRegion ?_
  refine sMv (v := nv _) rfl ?_
  refine sBin (a := checkF l n) rfl rfl (aInt_neq (b := 0)) ?_
  refine sNil (kSeqN ?_)
  refine cCond rfl (fun c0 => ?_) (fun c0 => ?_)
  ·
    refine cSeq ?_
    refine cRegion ?_
    refine sMv (v := nv _) rfl ?_
    refine sAs (v := nv _) rfl ?_
    refine sNil (kSeqN ?_)
    refine cRet (kSeqR ?_)
    exact ⟨.inr rfl, _, rfl, by rw [bothF, if_neg c0]; rfl, k10⟩
  ·
    refine cSkip (kSeqN ?_)
    refine cSeq ?_
    refine cRegion ?_
    refine sMv (v := .slice _ _ _) rfl ?_
    refine sMv (v := .int _ _) rfl ?_
    refine sCall2 rfl call60 rfl rfl h16 ?_
    refine sAs (v := nv _) rfl ?_
    refine sNil (kSeqN ?_)
    refine cRet ?_
    exact ⟨.inr rfl, _, rfl, by rw [bothF, if_pos (Decidable.not_not.1 c0)]; rfl, k10.trans k16⟩

theorem okf74 : okF Tryd.prog H0 74 18 = true := by kernel_rfl
theorem spec_which {m : Mem} {a : Value} {l : List Nat} {row : Nat} (ha : IntsAt m a (ofs l)) (hl : l.length ≤ 40) (hx : ∀ x ∈ l, x < 2 ^ 24) (hrow : row < 2 ^ 62) : ∃ v m', ACalls Tryd.prog 74 #[a, nv row] m v m' ∧
      (v = .tuple #[nv (splitM (sysM l) 24 (row, 0)).2, .bool (decide ((splitM (sysM l) 24 (row, 0)).1 = 0))] ∧ Ext m m') := by
  obtain ⟨v8, m8, h8, rfl, k8, k8o, k8e⟩ := spec_spanned ha hl hx
  obtain ⟨v10, m10, h10, rfl, k10⟩ := spec_split k8 k8o.lt hrow
  obtain ⟨q, cap, rfl⟩ := ha.len
  generalize splitM (sysM l) 24 (row, 0) = x at *
  refine wpF (args := [_, _]) mixed okf74 (fn := Tryd.f74) rfl rfl rfl (by simp) ?_
  refine cSeq ?_
  refine cRegion ?_
  refine sAs (v := nv 0) rfl ?_
  refine sAs (v := .bool _) rfl ?_
  refine sNil (kSeqN ?_)
  refine cSeq ?_
  refine cRegion ?_
  refine sMv (v := .slice _ _ _) rfl ?_
  refine sCall1 rfl call97 rfl h8 ?_
  refine sMv (v := nv _) rfl ?_
  refine sCall2 rfl call106 rfl rfl h10 ?_
  refine sAlloc Z94 (by kernel_rfl) ?_
  refine sStNA S94 rfl rfl rfl rfl (by kernel_rfl) ?_
  refine sNil (kSeqN ?_)
  refine cSeq ?_
  refine cDraw rfl ?_
  refine sFA F94_1 rfl ?_
  refine sLd A3 rfl (by simp (disch := first | omega | (simp only [Array.size_push, Array.size_setIfInBounds]; done) | (simp only [Array.size_push, Array.size_setIfInBounds]; omega)) only [gP, gPn, gS, gSn]; try rfl) rfl ?_
  refine sLdAll A94 S94 rfl (by simp (disch := first | omega | (simp only [Array.size_push, Array.size_setIfInBounds]; done) | (simp only [Array.size_push, Array.size_setIfInBounds]; omega)) only [gP, gPn, gS, gSn]; try rfl) rfl ?_
  refine sFA F94_1 rfl ?_
  refine sLd A3 rfl (by simp (disch := first | omega | (simp only [Array.size_push, Array.size_setIfInBounds]; done) | (simp only [Array.size_push, Array.size_setIfInBounds]; omega)) only [gP, gPn, gS, gSn]; try rfl) rfl ?_
  refine sBuild B94_1 ?_
  refine sP (v := .bool (decide (x.1 = 0 ∧ x.2 = x.2))) eq94 ?_
  refine sAs (v := nv _) rfl ?_
  refine sAs (v := .bool _) rfl ?_
  refine sNil (kSeqN ?_)
  refine cRet ?_
  exact ⟨.inr rfl, _, rfl, by show Value.tuple #[nv x.2, .bool (decide (x.1 = 0 ∧ x.2 = x.2))] = _; simp, (k8e.trans k10).push' _⟩

end Go.AM

/-! ### E12 -/
namespace Go.AM
open Go.Proofs
set_option maxRecDepth 100000
set_option linter.unusedVariables false
set_option linter.unusedSimpArgs false
/-- What the table of math/bits for TrailingZeros64 holds. -/
def deB : List Nat := [0, 1, 56, 2, 57, 49, 28, 3, 61, 58, 42, 50, 38, 29, 17, 4, 62, 47, 59, 36, 45, 43, 51, 22, 53, 39, 33, 30, 24, 18, 12, 5, 63, 55, 48, 27, 60, 41, 37, 16, 46, 35, 44, 21, 52, 32, 23, 11, 54, 26, 40, 15, 34, 20, 31, 10, 25, 14, 19, 9, 13, 8, 7, 6]
def cellsB (l : List Nat) : Array Value := (l.map fun x => Value.int .u8 (Int.ofNat x)).toArray
/-- What the variables of the packages hold. -/
structure Glob (m : Mem) : Prop where
  col : ∃ r q rw es i j, Mem.get m 0 = .cells r #[.map (some q)] ∧ Mem.get m q = .map rw es ∧ aFindNow .bool (.bool true) es 0 = some (some (i, .agg #[.func (.func 139) #[] #[]])) ∧ aFindNow .bool (.bool false) es 0 = some (some (j, .agg #[.func (.func 140) #[] #[]]))
  deb : ∃ r, Mem.get m 2 = .cells r (cellsB deB)
theorem Glob.ext {m m' : Mem} (h : Glob m) (he : Ext m m') : Glob m' := by
  obtain ⟨⟨r, q, rw, es, i, j, h1, h2, h3, h4⟩, r2, h5⟩ := h
  refine ⟨⟨r, q, rw, es, i, j, he.cells h1, ?_, h3, h4⟩, r2, he.cells h5⟩
  rw [he.2 q (Mem.lt_of_live (by rw [h2]; rfl)), h2]
def colF (lead : Bool) : FuncId := if lead then 139 else 140
theorem lookCol {m : Mem} {q : Nat} {rw : Bool} {es : List (Value × Value)} {i j : Nat} (h : Mem.get m q = .map rw es) (h3 : aFindNow .bool (.bool true) es 0 = some (some (i, .agg #[.func (.func 139) #[] #[]])))
    (h4 : aFindNow .bool (.bool false) es 0 = some (some (j, .agg #[.func (.func 140) #[] #[]]))) (lead : Bool) : aLookup Tryd.prog m 102 (.map (some q)) (.bool lead) false = some (.agg #[.func (.func (colF lead)) #[] #[]]) := by
  have e1 : undOf Tryd.prog 102 = some (.map 4 101) := by kernel_rfl
  have e2 : undOf Tryd.prog 4 = some .bool := by kernel_rfl
  have e3 : zeroOf Tryd.prog 101 = some (.agg #[.nilFunc]) := by kernel_rfl
  have e4 : (plainKey .bool && flat (.agg #[.nilFunc])) = true := by kernel_rfl
  cases lead
  · simp only [aLookup, e1, e2, e3, h, h4]; rw [if_pos e4]; rfl
  · simp only [aLookup, e1, e2, e3, h, h3]; rw [if_pos e4]; rfl
theorem field101 {f : FuncId} : aField Tryd.prog 101 (.agg #[.func (.func f) #[] #[]]) 0 = some (.func (.func f) #[] #[]) := by kernel_rfl
theorem callCol (lead : Bool) : callable Tryd.prog (colF lead) = true := by cases lead <;> kernel_rfl
theorem call96 : callable Tryd.prog 96 = true := by kernel_rfl
theorem fill1 {a : Int} : Instr.fill (fun i => some (i * 1, 1)) (if 1 * 1 = 0 then #[] else (Array.range (1 * 1)).map ((nv 0).cells[· % (nv 0).cells.size]!)) [(0, .int .i64 a)] = some #[.int .i64 a] := by kernel_rfl
theorem one_ints {m : Mem} {k : Nat} : IntsAt (m.push (.cells true #[nv k])) (.slice (some ⟨m.size, 0, some 1⟩) 1 1) [Int.ofNat k] :=
  .inr ⟨m.size, 0, 1, true, _, rfl, gP rfl, fun i x hi => by
    match i with
    | 0 => simp at hi; subst hi; rfl
    | i + 1 => simp at hi⟩

theorem okf139 : okF Tryd.prog H0 139 9 = true := by kernel_rfl
theorem spec_col1 {m : Mem} {t : List Nat} {k : Nat} (ht : t.length = 24) (hk : k < 24) : ∃ v m', ACalls Tryd.prog 139 #[.agg (cellsN t), nv k] m v m' ∧ (v = .bool (isLed t true k) ∧ Ext m m') := by
  have hg : (cellsN t)[0 + k * 1]? = some (nv (t.getD k 0)) := by
    rw [Nat.zero_add, Nat.mul_one]; refine cellsN_get ?_
    rw [List.getD_eq_getElem?_getD, List.getElem?_eq_getElem (by omega)]; rfl
  refine wpF (args := [_, _]) mixed okf139 (fn := Tryd.f139) rfl rfl rfl (by simp) ?_
  refine cSeq ?_
  refine cRegion ?_
  refine sBox (v := .agg (cellsN t)) rfl ?_
  refine sAs (v := .bool _) rfl ?_
  refine sNil (kSeqN ?_)
  refine cSeq ?_
  refine cRegion ?_
  refine sMv (v := nv _) rfl ?_
  refine sIxA T85 S3 rfl rfl hk ?_
  refine sLd (v := nv (t.getD k 0)) A3 rfl (by simp (disch := first | omega | (simp only [Array.size_push, Array.size_setIfInBounds]; done) | (simp only [Array.size_push, Array.size_setIfInBounds]; omega)) only [gP, gPn, gS, gSn]; try rfl) hg ?_
  refine sBin rfl rfl (aInt_neq (b := 0)) ?_
  refine sAs (v := .bool _) rfl ?_
  refine sNil (kSeqN ?_)
  refine cRet ?_
  refine ⟨.inr rfl, _, rfl, ?_, .push _ _⟩
  show Value.bool (decide (t.getD k 0 ≠ 0)) = _
  simp [isLed]

theorem okf140 : okF Tryd.prog H0 140 9 = true := by kernel_rfl
theorem spec_col2 {m : Mem} {t : List Nat} {k : Nat} (ht : t.length = 24) (hk : k < 24) : ∃ v m', ACalls Tryd.prog 140 #[.agg (cellsN t), nv k] m v m' ∧ (v = .bool (isLed t false k) ∧ Ext m m') := by
  have hg : (cellsN t)[0 + k * 1]? = some (nv (t.getD k 0)) := by
    rw [Nat.zero_add, Nat.mul_one]; refine cellsN_get ?_
    rw [List.getD_eq_getElem?_getD, List.getElem?_eq_getElem (by omega)]; rfl
  refine wpF (args := [_, _]) mixed okf140 (fn := Tryd.f140) rfl rfl rfl (by simp) ?_
  refine cSeq ?_
  refine cRegion ?_
  refine sBox (v := .agg (cellsN t)) rfl ?_
  refine sAs (v := .bool _) rfl ?_
  refine sNil (kSeqN ?_)
  refine cSeq ?_
  refine cRegion ?_
  refine sMv (v := nv _) rfl ?_
  refine sIxA T85 S3 rfl rfl hk ?_
  refine sLd (v := nv (t.getD k 0)) A3 rfl (by simp (disch := first | omega | (simp only [Array.size_push, Array.size_setIfInBounds]; done) | (simp only [Array.size_push, Array.size_setIfInBounds]; omega)) only [gP, gPn, gS, gSn]; try rfl) hg ?_
  refine sBin rfl rfl (aInt_eql (b := 0)) ?_
  refine sAs (v := .bool _) rfl ?_
  refine sNil (kSeqN ?_)
  refine cRet ?_
  refine ⟨.inr rfl, _, rfl, ?_, .push _ _⟩
  show Value.bool (decide (t.getD k 0 = 0)) = _
  by_cases h : t.getD k 0 = 0
  · rw [decide_eq_true h, isLed, decide_eq_false (by simpa using h)]; rfl
  · rw [decide_eq_false h, isLed, decide_eq_true h]; rfl

theorem spec_col {m : Mem} {t : List Nat} {k : Nat} (lead : Bool) (ht : t.length = 24) (hk : k < 24) : ∃ v m', ACalls Tryd.prog (colF lead) #[.agg (cellsN t), nv k] m v m' ∧ (v = .bool (isLed t lead k) ∧ Ext m m') := by
  cases lead
  · exact spec_col2 ht hk
  · exact spec_col1 ht hk

theorem okf96 : okF Tryd.prog H0 96 28 = true := by kernel_rfl
theorem spec_led {m : Mem} {t : List Nat} {n : Nat} {lead : Bool} (hG : Glob m) (ht : t.length = 24) (hn : n ≤ 24) : ∃ v m', ACalls Tryd.prog 96 #[.agg (cellsN t), nv n, .bool lead] m v m' ∧ (OwnF m.size m' v (ofs (ledM t n lead)) ∧ Ext m m') := by
  obtain ⟨⟨r, q, rw_, es, i1, j1, g1, g2, g3, g4⟩, _⟩ := hG
  have hq : q < m.size := Mem.lt_of_live (by rw [g2]; rfl)
  have hb0 := live g1
  have hlk : ∀ m', Ext m m' → aLookup Tryd.prog m' 102 (.map (some q)) (.bool lead) false = some (.agg #[.func (.func (colF lead)) #[] #[]]) := fun m' he => lookCol (by rw [he.2 q hq]; exact g2) g3 g4 lead
  refine wpF (args := [_, _, _]) mixed okf96 (fn := Tryd.f96) rfl rfl rfl (by simp) ?_
  refine cSeq ?_
  refine cRegion ?_
  refine sBox (v := .agg (cellsN t)) rfl ?_
  refine sAs (v := .slice _ _ _) rfl ?_
  refine sNil (kSeqN ?_)
  refine cSeq ?_
  refine cRegion ?_
  refine sLd (v := .map (some q)) A102 rfl (by simp (disch := first | omega | (simp only [Array.size_push, Array.size_setIfInBounds]; done) | (simp only [Array.size_push, Array.size_setIfInBounds]; omega)) only [gP, gPn, gS, gSn, g1]; try rfl) rfl ?_
  refine sMv (v := .bool _) rfl ?_
  refine sO (v := .agg #[.func (.func (colF lead)) #[] #[]]) (opF_read rfl (hlk _ (.push _ _))) ?_
  refine sP (v := .func (.func (colF lead)) #[] #[]) field101 ?_
  refine sAs (v := .func _ _ _) rfl ?_
  refine sNil (kSeqN ?_)
  refine cSeq ?_
  refine cRegion ?_
  refine sAs (v := .slice _ _ _) rfl ?_
  refine sNil (kSeqN ?_)
  refine cSeq ?_
  refine cSeq ?_
  refine cRegion ?_
  refine sMv (v := nv _) rfl ?_
  refine sMv (v := nv 0) rfl ?_
  refine sNil (kSeqN ?_)
  refine cBlock ?_
  refine wpC_loop (fun k ρ m' => ∃ i v, k = n - i ∧ i ≤ n ∧ Ext m m' ∧ m.size + 1 ≤ m'.size ∧ Mem.get m' m.size = .cells true (cellsN t) ∧ OwnF (m.size + 1) m' v (ofs (ledM t i lead)) ∧ Has ρ [(3, .pointer (some ⟨m.size, 0, none⟩)), (7, .func (.func (colF lead)) #[] #[]), (8, v), (14, nv n), (15, nv i)]) ⟨0, _, rfl, by omega, .push _ _, by simp, gP rfl, .nil _ _, rfl, rfl, rfl, rfl, rfl, trivial⟩ ?_
  rintro k ρ m' ⟨i, v, rfl, hi, he, hz, f1, hO, hh⟩
  obtain ⟨qv, cv, rfl⟩ := hO.ints.len
  rw [hh.env]; clear hh
  refine cSeq ?_
  refine cRegion ?_
  refine sBin rfl rfl (aInt_lss) ?_
  refine sNil (kSeqN ?_)
  refine cSeq ?_   -- seq 6
  refine cCond rfl (fun c0 => ?_) (fun c0 => ?_)
  ·
    refine cSkip (kSeqN ?_)
    refine cSeq ?_
    refine cBlock ?_
    refine cSeq ?_
    refine cRegion ?_
    refine sMv (v := nv _) rfl ?_
    refine sAs (v := nv _) rfl ?_
    refine sNil (kSeqN ?_)
    refine cSeq ?_
    refine cRegion ?_
    refine sMv (v := .func _ _ _) rfl ?_
    refine sLdAll A85 S85 rfl (by simp (disch := first | omega | (simp only [Array.size_push, Array.size_setIfInBounds]; done) | (simp only [Array.size_push, Array.size_setIfInBounds]; omega)) only [gP, gPn, gS, gSn, f1]; try rfl) (by simp [ht]) ?_
    refine sMv (v := nv _) rfl ?_
    obtain ⟨v21, m21, h21, rfl, k21⟩ := spec_col (m := m') (t := t) (k := i) lead ht (by omega)
    refine sCall2 rfl (callCol lead) rfl rfl h21 ?_
    have hO2 := hO.ext k21
    have f2 := k21.cells f1
    refine sNil (kSeqN ?_)
    refine cCond (p := isLed t lead i = true) (by simp [evR, updO]) (fun c1 => ?_) (fun c1 => ?_)
    ·
      refine cRegion ?_
      refine sMv (v := .slice _ _ _) rfl ?_
      refine sMv (v := nv _) rfl ?_
      refine sBuildS T22 S3 Z3 (by decide) (by decide) (by decide) (by kernel_rfl) fill1 rfl ?_
      refine sApp App22 rfl rfl (hO2.ext (.push _ _)) one_ints (by have := k21.1; simp; omega) (by have := ledM_length t i lead; simp; omega) fun v3 m3 hO3 hL3 => ?_
      obtain ⟨q3, cp3, rfl⟩ := hO3.ints.len
      refine sAs (v := .slice _ _ _) rfl ?_
      refine sNil (kBlkN (kSeqN ?_))
      refine cRegion ?_
      refine sBin rfl rfl (aInt_add (b := 1) (by omega)) ?_
      refine sMv (v := nv _) rfl ?_
      refine sNil (kSeqN ?_)
      refine ⟨_, ?_, i + 1, _, rfl, by omega, hL3.to_ext ((he.trans k21).push' _) (by omega), by have := hL3.1; have := k21.1; simp at *; omega, hL3.cells (by omega) (by rw [gPn (live f2)]; exact f2), ?_, rfl, rfl, rfl, rfl, rfl, trivial⟩
      · omega
      · rw [ledM_succ, if_pos c1, ofs_append]; exact hO3
    ·
      refine cSkip (kBlkN (kSeqN ?_))
      refine cRegion ?_
      refine sBin rfl rfl (aInt_add (b := 1) (by omega)) ?_
      refine sMv (v := nv _) rfl ?_
      refine sNil (kSeqN ?_)
      refine ⟨_, ?_, i + 1, _, rfl, by omega, he.trans k21, by have := k21.1; omega, f2, ?_, rfl, rfl, rfl, rfl, rfl, trivial⟩
      · omega
      · rw [ledM_succ, if_neg c1, List.append_nil]; exact hO2
  ·
    refine cExit (kSeqE (kSeqE (kBlkS (kSeqN ?_))))
    refine cSeq ?_
    refine cRegion ?_
    refine sMv (v := .slice _ _ _) rfl ?_
    refine sAs (v := .slice _ _ _) rfl ?_
    refine sNil (kSeqN ?_)
    refine cRet ?_
    obtain rfl : i = n := by omega
    exact ⟨.inr rfl, _, rfl, hO.mono (by omega), he⟩

end Go.AM

/-! ### E13 -/
namespace Go.AM
open Go.Proofs
set_option maxRecDepth 100000
set_option linter.unusedVariables false
set_option linter.unusedSimpArgs false
theorem call86 : callable Tryd.prog 86 = true := by kernel_rfl
theorem tableM_bound {l : List Nat} {n : Nat} (h : ∀ k, ((sysM l).at k).1 < 2 ^ n) (j : Nat) : (tableM l).getD j 0 < 2 ^ n := reducedM_lt h 24 j

theorem okf86 : okF Tryd.prog H0 86 51 = true := by kernel_rfl
theorem spec_null {m : Mem} {a : Value} {l : List Nat} {n : Nat} (hG : Glob m) (ha : IntsAt m a (ofs l)) (hl : l.length ≤ 40) (hx : ∀ x ∈ l, x < 2 ^ 24) (hn : n ≤ 24) : ∃ v m', ACalls Tryd.prog 86 #[a, nv n] m v m' ∧ (OwnF m.size m' v (ofs (nullM l n)) ∧ Ext m m') := by
  obtain ⟨v13, m13, h13, rfl, k13, k13o, k13e⟩ := spec_spanned ha hl hx
  obtain ⟨v14, m14, h14, rfl, k14⟩ := spec_sysReduced k13 k13o
  obtain ⟨q, cap, rfl⟩ := ha.lenN
  have htb : ∀ j, (tableM l).getD j 0 < 2 ^ 24 := tableM_bound fun k => (k13o k).1
  have htl : (reducedM (sysM l) 24) = tableM l := rfl
  have htlen := tableM_length l
  rw [htl] at h14
  have he14 := k13e.trans k14
  unfold nullM nullRows
  generalize tableM l = t at *
  refine wpF (args := [_, _]) mixed okf86 (fn := Tryd.f86) rfl rfl rfl (by simp) ?_
  refine cSeq ?_
  refine cRegion ?_
  refine sAs (v := .slice _ _ _) rfl ?_
  refine sNil (kSeqN ?_)
  refine cSeq ?_
  refine cRegion ?_
  refine sMv (v := .slice _ _ _) rfl ?_
  refine sCall1 rfl call97 rfl h13 ?_
  refine sCall1 rfl call98 rfl h14 ?_
  refine sAlloc Z85 (by kernel_rfl) ?_
  refine sStNA S85 rfl rfl rfl (by simp [htlen]) (cellsN_one _) ?_
  refine sNil (kSeqN ?_)
  refine cSeq ?_
  refine cRegion ?_
  refine sAs (v := .slice _ _ _) rfl ?_
  refine sNil (kSeqN ?_)
  refine cSeq ?_
  refine cSeq ?_
  refine cRegion ?_
  refine sLdAll A85 S85 rfl (gP rfl) (by simp [htlen]) ?_
  refine sMv (v := nv _) rfl ?_
  obtain ⟨v17, m17, h17, k17, k17e⟩ := spec_led (m := m14.push (.cells true (cellsN t))) (n := n) (lead := false) (hG.ext (he14.push' _)) htlen hn
  refine sCall3 rfl call96 rfl rfl rfl h17 ?_
  have hz17 := k17e.1
  rw [Array.size_push] at hz17
  have h14z := he14.1
  have g17 := k17e.cells (b := m14.size) (gP rfl)
  have hI17 := k17.ints
  obtain ⟨q17, c17, rfl⟩ := hI17.lenN
  have hFl := ledM_length t n false
  refine sLen T22 rfl ?_
  refine sMv (v := nv 0) rfl ?_
  refine sNil (kSeqN ?_)
  refine cBlock ?_
  refine wpC_loop (fun k ρ m' => ∃ i v, k = (ledM t n false).length - i ∧ i ≤ (ledM t n false).length ∧ Low m17.size m17 m' ∧ OwnF m17.size m' v (ofs (((ledM t n false).take i).map fun k => rowN t k (ledM t n true))) ∧ Has ρ [(1, nv n), (5, .pointer (some ⟨m14.size, 0, none⟩)), (6, v), (17, .slice q17 (ledM t n false).length c17), (18, nv (ledM t n false).length), (19, nv i)]) ⟨0, _, rfl, by omega, .refl _ _, .nil _ _, rfl, rfl, rfl, rfl, rfl, rfl, trivial⟩ ?_
  rintro k ρ m' ⟨i, v, rfl, hi, hL, hO, hh⟩
  obtain ⟨qv, cv, rfl⟩ := hO.ints.lenN
  rw [hh.env]; clear hh
  have f1 := hL.cells (by omega) g17
  have hE' : Ext m m' := hL.to_ext ((he14.push' _).trans k17e) (by omega)
  have hI' := hL.ints hI17 (Nat.le_refl _)
  have hLz := hL.1
  refine cSeq ?_
  refine cRegion ?_
  refine sBin rfl rfl (aInt_lss) ?_
  refine sNil (kSeqN ?_)
  refine cSeq ?_   -- seq 6
  refine cCond rfl (fun c0 => ?_) (fun c0 => ?_)
  ·
    obtain ⟨b1, o1, p1, r1, c1, e1, gl, x1⟩ := hI'.atN (by omega)
    cases e1
    have hki : (ledM t n false)[i]? = some (ledM t n false)[i] := List.getElem?_eq_getElem c0
    have hkn := ledM_lt (List.getElem_mem c0)
    have h2k : 2 ^ (ledM t n false)[i] < 2 ^ 24 := Nat.pow_lt_pow_right (by omega) (by omega)
    generalize hkk : (ledM t n false)[i] = kk at *
    refine cSkip (kSeqN ?_)
    refine cSeq ?_
    refine cBlock ?_
    refine cSeq ?_
    refine cRegion ?_
    refine sIx T22 S3 rfl rfl (by omega) ?_
    refine sLd (v := nv kk) A3 rfl gl (x1 i kk hki) ?_
    refine sAs (v := nv _) rfl ?_
    refine sNil (kSeqN ?_)
    refine cSeq ?_
    refine cRegion ?_
    refine sMv (v := nv _) rfl ?_
    refine sBin rfl rfl (aInt_shl (a := 1) (by omega)) ?_
    refine sAs (v := nv _) rfl ?_
    refine sNil (kSeqN ?_)
    refine cSeq ?_
    refine cSeq ?_
    refine cRegion ?_
    refine sLdAll A85 S85 rfl (by simp (disch := first | omega | (simp only [Array.size_push, Array.size_setIfInBounds]; done) | (simp only [Array.size_push, Array.size_setIfInBounds]; omega)) only [gP, gPn, gS, gSn, f1]; try rfl) (by simp [htlen]) ?_
    refine sMv (v := nv _) rfl ?_
    obtain ⟨v27, m27, h27, k27, k27e⟩ := spec_led (m := m') (n := n) (lead := true) (hG.ext hE') htlen hn
    refine sCall3 rfl call96 rfl rfl rfl h27 ?_
    have hI27 := k27.ints
    obtain ⟨q27, c27, rfl⟩ := hI27.lenN
    have f2 := k27e.cells f1
    have hGl := ledM_length t n true
    refine sLen T22 rfl ?_
    refine sMv (v := nv 0) rfl ?_
    refine sNil (kSeqN ?_)
    refine cBlock ?_
    refine wpC_loop (fun k ρ m2 => ∃ j, k = (ledM t n true).length - j ∧ j ≤ (ledM t n true).length ∧ m2 = m27 ∧ Has ρ [(1, nv n), (5, .pointer (some ⟨m14.size, 0, none⟩)), (6, .slice qv (List.map (fun k => rowN t k (ledM t n true)) (List.take i (ledM t n false))).length cv), (8, nv kk), (9, nv (rowN t kk ((ledM t n true).take j))), (17, .slice (some ⟨b1, o1, some 1⟩) (ledM t n false).length c17), (18, nv (ledM t n false).length), (19, nv i), (27, .slice q27 (ledM t n true).length c27), (28, nv (ledM t n true).length), (29, nv j)]) ⟨0, rfl, by omega, rfl, rfl, rfl, rfl, rfl, rfl, rfl, rfl, rfl, rfl, rfl, rfl, trivial⟩ ?_
    rintro k2 ρ _ ⟨j, rfl, hj, rfl, hh⟩
    rw [hh.env]; clear hh
    refine cSeq ?_
    refine cRegion ?_
    refine sBin rfl rfl (aInt_lss) ?_
    refine sNil (kSeqN ?_)
    refine cSeq ?_   -- seq 13
    refine cCond rfl (fun c1 => ?_) (fun c1 => ?_)
    ·
      obtain ⟨b2, o2, p2, r2, c2, e2, gl2, x2⟩ := hI27.atN (by omega)
      cases e2
      have hji : (ledM t n true)[j]? = some (ledM t n true)[j] := List.getElem?_eq_getElem c1
      have hjn := ledM_lt (List.getElem_mem c1)
      have htk : (ledM t n true).take (j + 1) = (ledM t n true).take j ++ [(ledM t n true)[j]] := List.take_succ_eq_append_getElem c1
      have hrl := rowN_lt (t := t) (n := 24) (k := kk) (by omega) ((ledM t n true).take j) fun x hx => by have := ledM_lt (List.mem_of_mem_take hx); omega
      generalize hjj : (ledM t n true)[j] = jj at *
      have h2j : 2 ^ jj < 2 ^ 24 := Nat.pow_lt_pow_right (by omega) (by omega)
      have hbt := bit_le (t.getD jj 0) kk jj
      have htj := htb jj
      have hsh := Nat.shiftRight_le (t.getD jj 0) kk
      have ha1 : t.getD jj 0 >>> kk &&& 1 ≤ 1 := Nat.and_le_right
      have hmul := Nat.mul_le_mul_right (2 ^ jj) ha1
      have hgj : (cellsN t)[0 + jj * 1]? = some (nv (t.getD jj 0)) := by
        rw [Nat.zero_add, Nat.mul_one]; refine cellsN_get ?_
        rw [List.getD_eq_getElem?_getD, List.getElem?_eq_getElem (by omega)]; rfl
      refine cSkip (kSeqN ?_)
      refine cSeq ?_
      refine cBlock ?_
      refine cSeq ?_
      refine cRegion ?_
      refine sIx T22 S3 rfl rfl (by omega) ?_
      refine sLd (v := nv jj) A3 rfl gl2 (x2 j jj hji) ?_
      refine sAs (v := nv _) rfl ?_
      refine sNil (kSeqN ?_)
      refine cRegion ?_
      refine sMv (v := nv _) rfl ?_
      refine sMv (v := nv _) rfl ?_
      refine sIxA T85 S3 rfl rfl (by omega) ?_
      refine sLd (v := nv (t.getD jj 0)) A3 rfl (by simp (disch := first | omega | (simp only [Array.size_push, Array.size_setIfInBounds]; done) | (simp only [Array.size_push, Array.size_setIfInBounds]; omega)) only [gP, gPn, gS, gSn, f2]; try rfl) hgj ?_
      refine sMv (v := nv _) rfl ?_
      refine sBin rfl rfl (aInt_shr (by omega)) ?_
      refine sBin rfl rfl (aInt_and (b := 1) (by omega)) ?_
      refine sMv (v := nv _) rfl ?_
      refine sBin rfl rfl (aInt_shl (by omega)) ?_
      refine sBin rfl rfl (aInt_or (by omega)) ?_
      refine sAs (v := nv _) rfl ?_
      refine sNil (kBlkN (kSeqN ?_))
      refine cRegion ?_
      refine sBin rfl rfl (aInt_add (b := 1) (by omega)) ?_
      refine sMv (v := nv _) rfl ?_
      refine sNil (kSeqN ?_)
      refine ⟨_, ?_, j + 1, rfl, by omega, rfl, rfl, rfl, rfl, rfl, ?_, rfl, rfl, rfl, rfl, rfl, rfl, trivial⟩
      · omega
      · rw [htk, rowN_snoc]; rfl
    ·
      obtain rfl : j = (ledM t n true).length := by omega
      rw [List.take_length]
      refine cExit (kSeqE (kSeqE (kBlkS (kSeqN ?_))))
      refine cRegion ?_
      refine sMv (v := .slice _ _ _) rfl ?_
      refine sMv (v := nv _) rfl ?_
      refine sBuildS T22 S3 Z3 (by decide) (by decide) (by decide) (by kernel_rfl) fill1 rfl ?_
      refine sApp App22 rfl rfl ((hO.ext k27e).ext (.push _ _)) one_ints (by have := k27e.1; simp; omega) (by simp; omega) fun v3 m3 hO3 hL3 => ?_
      have hO4 : OwnF m17.size m3 v3 (ofs (((ledM t n false).take (i + 1)).map fun k => rowN t k (ledM t n true))) := by
        rw [List.take_succ_eq_append_getElem c0, List.map_append, ofs_append, hkk]; exact hO3
      obtain ⟨q3, cp3, rfl⟩ := hO4.ints.lenN
      refine sAs (v := .slice _ _ _) rfl ?_
      refine sNil (kBlkN (kSeqN ?_))
      refine cRegion ?_
      refine sBin rfl rfl (aInt_add (b := 1) (by omega)) ?_
      refine sMv (v := nv _) rfl ?_
      refine sNil (kSeqN ?_)
      refine ⟨_, ?_, i + 1, _, rfl, by omega, (hL.trans_ext (k27e.push' _) (by omega)).trans hL3, hO4, rfl, rfl, rfl, rfl, rfl, rfl, trivial⟩
      omega
  ·
    obtain rfl : i = (ledM t n false).length := by omega
    rw [List.take_length] at *
    refine cExit (kSeqE (kSeqE (kBlkS (kSeqN ?_))))
    refine cSeq ?_
    refine cRegion ?_
    refine sMv (v := .slice _ _ _) rfl ?_
    obtain ⟨v50, m50, h50, k50, k50e⟩ := spec_reduced hO.ints (by simp; omega) (fun x hx => by
      have := nullRows_lt (t := t) (n := n) hx
      exact Nat.lt_of_lt_of_le this (Nat.pow_le_pow_right (by omega) hn))
    obtain ⟨q50, c50, rfl⟩ := k50.ints.len
    refine sCall1 rfl call83 rfl h50 ?_
    refine sAs (v := .slice _ _ _) rfl ?_
    refine sNil (kSeqN ?_)
    refine cRet ?_
    exact ⟨.inr rfl, _, rfl, k50.mono (Nat.le_trans hE'.1 (Nat.le_refl _)), hE'.trans k50e⟩

end Go.AM

/-! ### E14 -/
namespace Go.AM
open Go.Proofs
set_option maxRecDepth 100000
set_option linter.unusedVariables false
set_option linter.unusedSimpArgs false
def nats (l : List Int) : List Nat := l.map Int.toNat
@[simp] theorem nats_ofs (l : List Nat) : nats (ofs l) = l := by
  simp only [nats, ofs, List.map_map]
  exact (List.map_congr_left fun x _ => rfl).trans (List.map_id l)
/-- Which rows give a row: the number, and whether there are such. -/
def whichM (l : List Nat) (row : Nat) : Nat × Nat := splitM (sysM l) 24 (row, 0)
def ifOk {α : Type} (e : Nat) (x y : α) : α := if e = 0 then x else y
/-- The error of 'which rows give a row'. -/
def whichE (l : List Int) (n row : Int) : Nat := if oneF l n row = 0 ∧ ¬ (whichM (nats l) row.toNat).1 = 0 then 6 else oneF l n row
theorem oneF_ok {l : List Int} {n row : Int} (h : oneF l n row = 0) : checkF l n = 0 ∧ 0 ≤ row ∧ row < 2 ^ n.toNat := by
  unfold oneF at h
  split at h
  · cases h
  · rename_i h1
    refine ⟨h, ?_⟩
    by_cases h2 : 0 ≤ row ∧ row < 2 ^ n.toNat
    · exact h2
    · exact absurd ⟨h, h2⟩ h1
theorem row_nat {row : Int} {N : Nat} (h : 0 ≤ row ∧ row < 2 ^ (Int.ofNat N).toNat) (hN : N ≤ 24) : ∃ r : Nat, row = Int.ofNat r ∧ r < 2 ^ 24 := by
  refine ⟨row.toNat, by simp; omega, ?_⟩
  have h1 : row < ((2 ^ N : Nat) : Int) := by exact_mod_cast h.2
  have h2 : 2 ^ N ≤ 2 ^ 24 := Nat.pow_le_pow_right (by omega) hN
  omega
theorem ifOk_0 {α : Type} {e : Nat} (h : e = 0) (x y : α) : ifOk e x y = x := if_pos h
theorem ifOk_n {α : Type} {e : Nat} (h : e ≠ 0) (x y : α) : ifOk e x y = y := if_neg h

theorem okf40 : okF Tryd.prog H0 40 16 = true := by kernel_rfl
theorem spec_Rank {m : Mem} {a : Value} {l : List Int} {n : Int} (ha : IntsAt m a l) (hl : l.length < 4611686018427387904) : ∃ v m', ACalls Tryd.prog 40 #[a, .int .i64 n] m v m' ∧ (v = .tuple #[nv (ifOk (checkF l n) (redM (nats l)).length 0), nv (checkF l n)] ∧ Ext m m') := by
  obtain ⟨m9, h9, k9⟩ := spec_Check (n := n) ha hl
  obtain ⟨q, cap, rfl⟩ := ha.len
  refine wpF (args := [_, _]) mixed okf40 (fn := Tryd.f40) rfl rfl rfl (by simp) ?_
  refine cSeq ?_
  refine cRegion ?_
  refine sAs (v := nv 0) rfl ?_
  refine sAs (v := nv 0) rfl ?_
  refine sNil (kSeqN ?_)
  refine cSeq ?_
  refine cSeq ?_
  refine cRegion ?_
  refine sMv (v := .slice _ _ _) rfl ?_
  refine sMv (v := .int _ _) rfl ?_
  refine sCall2 rfl call60 rfl rfl h9 ?_
  refine sAs (v := nv _) rfl ?_
  refine sNil (kSeqN ?_)
  refine cSeq ?_
  refine cRegion ?_
  refine sMv (v := nv _) rfl ?_
  refine sBin (a := checkF l n) rfl rfl (aInt_neq (b := 0)) ?_
  refine sNil (kSeqN ?_)
  refine cCond rfl (fun c0 => ?_) (fun c0 => ?_)
  ·
    refine cSeq ?_
    refine cRegion ?_
    refine sMv (v := nv _) rfl ?_
    refine sAs (v := nv 0) rfl ?_
    refine sAs (v := nv _) rfl ?_
    refine sNil (kSeqN ?_)
    refine cRet (kSeqR ?_)
    exact ⟨.inr rfl, _, rfl, by rw [ifOk_n c0]; rfl, k9⟩
  ·
    have h0 := Decidable.not_not.1 c0
    obtain ⟨N, L, rfl, rfl, hN1, hN2, hL1, hL2⟩ := checkF_nat h0
    have hL3 : ∀ x ∈ L, x < 2 ^ 24 := fun x hx => Nat.lt_of_lt_of_le (hL2 x hx) (Nat.pow_le_pow_right (by omega) (by omega))
    refine cSkip (kSeqN ?_)
    refine cSeq ?_
    refine cRegion ?_
    refine sMv (v := .slice _ _ _) rfl ?_
    obtain ⟨v14, m14, h14, k14, k14e⟩ := spec_reduced (ha.ext k9) (by omega) hL3
    obtain ⟨q14, c14, rfl⟩ := k14.ints.lenN
    refine sCall1 rfl call83 rfl h14 ?_
    refine sLen T22 rfl ?_
    refine sAs (v := nv _) rfl ?_
    refine sAs (v := nv 0) rfl ?_
    refine sNil (kSeqN ?_)
    refine cRet ?_
    exact ⟨.inr rfl, _, rfl, by rw [ifOk_0 h0, nats_ofs, h0]; rfl, k9.trans k14e⟩

theorem okf43 : okF Tryd.prog H0 43 15 = true := by kernel_rfl
theorem spec_Reduce {m : Mem} {a : Value} {l : List Int} {n : Int} (ha : IntsAt m a l) (hl : l.length < 4611686018427387904) : ∃ v m', ACalls Tryd.prog 43 #[a, .int .i64 n] m v m' ∧ (∃ w, v = .tuple #[w, nv (checkF l n)] ∧ OwnF m.size m' w (ofs (ifOk (checkF l n) (redM (nats l)) [])) ∧ Ext m m') := by
  obtain ⟨m9, h9, k9⟩ := spec_Check (n := n) ha hl
  obtain ⟨q, cap, rfl⟩ := ha.len
  refine wpF (args := [_, _]) mixed okf43 (fn := Tryd.f43) rfl rfl rfl (by simp) ?_
  refine cSeq ?_
  refine cRegion ?_
  refine sAs (v := .slice _ _ _) rfl ?_
  refine sAs (v := nv 0) rfl ?_
  refine sNil (kSeqN ?_)
  refine cSeq ?_
  refine cSeq ?_
  refine cRegion ?_
  refine sMv (v := .slice _ _ _) rfl ?_
  refine sMv (v := .int _ _) rfl ?_
  refine sCall2 rfl call60 rfl rfl h9 ?_
  refine sAs (v := nv _) rfl ?_
  refine sNil (kSeqN ?_)
  refine cSeq ?_
  refine cRegion ?_
  refine sMv (v := nv _) rfl ?_
  refine sBin (a := checkF l n) rfl rfl (aInt_neq (b := 0)) ?_
  refine sNil (kSeqN ?_)
  refine cCond rfl (fun c0 => ?_) (fun c0 => ?_)
  ·
    refine cSeq ?_
    refine cRegion ?_
    refine sMv (v := nv _) rfl ?_
    refine sAs (v := .slice _ _ _) rfl ?_
    refine sAs (v := nv _) rfl ?_
    refine sNil (kSeqN ?_)
    refine cRet (kSeqR ?_)
    exact ⟨.inr rfl, _, rfl, _, rfl, by rw [ifOk_n c0]; exact .nil _ _, k9⟩
  ·
    have h0 := Decidable.not_not.1 c0
    obtain ⟨N, L, rfl, rfl, hN1, hN2, hL1, hL2⟩ := checkF_nat h0
    have hL3 : ∀ x ∈ L, x < 2 ^ 24 := fun x hx => Nat.lt_of_lt_of_le (hL2 x hx) (Nat.pow_le_pow_right (by omega) (by omega))
    refine cSkip (kSeqN ?_)
    refine cSeq ?_
    refine cRegion ?_
    refine sMv (v := .slice _ _ _) rfl ?_
    obtain ⟨v14, m14, h14, k14, k14e⟩ := spec_reduced (ha.ext k9) (by omega) hL3
    obtain ⟨q14, c14, rfl⟩ := k14.ints.lenN
    refine sCall1 rfl call83 rfl h14 ?_
    refine sAs (v := .slice _ _ _) rfl ?_
    refine sAs (v := nv 0) rfl ?_
    refine sNil (kSeqN ?_)
    refine cRet ?_
    exact ⟨.inr rfl, _, rfl, _, by rw [h0]; rfl, by rw [ifOk_0 h0, nats_ofs]; exact k14.mono k9.1, k9.trans k14e⟩

theorem okf39 : okF Tryd.prog H0 39 16 = true := by kernel_rfl
theorem spec_Null {m : Mem} {a : Value} {l : List Int} {n : Int} (hG : Glob m) (ha : IntsAt m a l) (hl : l.length < 4611686018427387904) : ∃ v m', ACalls Tryd.prog 39 #[a, .int .i64 n] m v m' ∧ (∃ w, v = .tuple #[w, nv (checkF l n)] ∧ OwnF m.size m' w (ofs (ifOk (checkF l n) (nullM (nats l) n.toNat) [])) ∧ Ext m m') := by
  obtain ⟨m9, h9, k9⟩ := spec_Check (n := n) ha hl
  obtain ⟨q, cap, rfl⟩ := ha.len
  refine wpF (args := [_, _]) mixed okf39 (fn := Tryd.f39) rfl rfl rfl (by simp) ?_
  refine cSeq ?_
  refine cRegion ?_
  refine sAs (v := .slice _ _ _) rfl ?_
  refine sAs (v := nv 0) rfl ?_
  refine sNil (kSeqN ?_)
  refine cSeq ?_
  refine cSeq ?_
  refine cRegion ?_
  refine sMv (v := .slice _ _ _) rfl ?_
  refine sMv (v := .int _ _) rfl ?_
  refine sCall2 rfl call60 rfl rfl h9 ?_
  refine sAs (v := nv _) rfl ?_
  refine sNil (kSeqN ?_)
  refine cSeq ?_
  refine cRegion ?_
  refine sMv (v := nv _) rfl ?_
  refine sBin (a := checkF l n) rfl rfl (aInt_neq (b := 0)) ?_
  refine sNil (kSeqN ?_)
  refine cCond rfl (fun c0 => ?_) (fun c0 => ?_)
  ·
    refine cSeq ?_
    refine cRegion ?_
    refine sMv (v := nv _) rfl ?_
    refine sAs (v := .slice _ _ _) rfl ?_
    refine sAs (v := nv _) rfl ?_
    refine sNil (kSeqN ?_)
    refine cRet (kSeqR ?_)
    exact ⟨.inr rfl, _, rfl, _, rfl, by rw [ifOk_n c0]; exact .nil _ _, k9⟩
  ·
    have h0 := Decidable.not_not.1 c0
    obtain ⟨N, L, rfl, rfl, hN1, hN2, hL1, hL2⟩ := checkF_nat h0
    have hL3 : ∀ x ∈ L, x < 2 ^ 24 := fun x hx => Nat.lt_of_lt_of_le (hL2 x hx) (Nat.pow_le_pow_right (by omega) (by omega))
    refine cSkip (kSeqN ?_)
    refine cSeq ?_
    refine cRegion ?_
    refine sMv (v := .slice _ _ _) rfl ?_
    refine sMv (v := nv N) rfl ?_
    obtain ⟨v14, m14, h14, k14, k14e⟩ := spec_null (n := N) (hG.ext k9) (ha.ext k9) (by omega) hL3 (by omega)
    obtain ⟨q14, c14, rfl⟩ := k14.ints.lenN
    refine sCall2 rfl call86 rfl rfl h14 ?_
    refine sAs (v := .slice _ _ _) rfl ?_
    refine sAs (v := nv 0) rfl ?_
    refine sNil (kSeqN ?_)
    refine cRet ?_
    exact ⟨.inr rfl, _, rfl, _, by rw [h0]; rfl, by rw [ifOk_0 h0, nats_ofs]; exact k14.mono k9.1, k9.trans k14e⟩

theorem okf59 : okF Tryd.prog H0 59 18 = true := by kernel_rfl
theorem spec_Free {m : Mem} {a : Value} {l : List Int} {n : Int} (hG : Glob m) (ha : IntsAt m a l) (hl : l.length < 4611686018427387904) : ∃ v m', ACalls Tryd.prog 59 #[a, .int .i64 n] m v m' ∧ (∃ w, v = .tuple #[w, nv (checkF l n)] ∧ OwnF m.size m' w (ofs (ifOk (checkF l n) (ledM (tableM (nats l)) n.toNat false) [])) ∧ Ext m m') := by
  obtain ⟨m9, h9, k9⟩ := spec_Check (n := n) ha hl
  obtain ⟨q, cap, rfl⟩ := ha.len
  refine wpF (args := [_, _]) mixed okf59 (fn := Tryd.f59) rfl rfl rfl (by simp) ?_
  refine cSeq ?_
  refine cRegion ?_
  refine sAs (v := .slice _ _ _) rfl ?_
  refine sAs (v := nv 0) rfl ?_
  refine sNil (kSeqN ?_)
  refine cSeq ?_
  refine cSeq ?_
  refine cRegion ?_
  refine sMv (v := .slice _ _ _) rfl ?_
  refine sMv (v := .int _ _) rfl ?_
  refine sCall2 rfl call60 rfl rfl h9 ?_
  refine sAs (v := nv _) rfl ?_
  refine sNil (kSeqN ?_)
  refine cSeq ?_
  refine cRegion ?_
  refine sMv (v := nv _) rfl ?_
  refine sBin (a := checkF l n) rfl rfl (aInt_neq (b := 0)) ?_
  refine sNil (kSeqN ?_)
  refine cCond rfl (fun c0 => ?_) (fun c0 => ?_)
  ·
    refine cSeq ?_
    refine cRegion ?_
    refine sMv (v := nv _) rfl ?_
    refine sAs (v := .slice _ _ _) rfl ?_
    refine sAs (v := nv _) rfl ?_
    refine sNil (kSeqN ?_)
    refine cRet (kSeqR ?_)
    exact ⟨.inr rfl, _, rfl, _, rfl, by rw [ifOk_n c0]; exact .nil _ _, k9⟩
  ·
    have h0 := Decidable.not_not.1 c0
    obtain ⟨N, L, rfl, rfl, hN1, hN2, hL1, hL2⟩ := checkF_nat h0
    have hL3 : ∀ x ∈ L, x < 2 ^ 24 := fun x hx => Nat.lt_of_lt_of_le (hL2 x hx) (Nat.pow_le_pow_right (by omega) (by omega))
    refine cSkip (kSeqN ?_)
    refine cSeq ?_
    refine cRegion ?_
    refine sMv (v := .slice _ _ _) rfl ?_
    obtain ⟨v14, m14, h14, rfl, k14, k14o, k14e⟩ := spec_spanned (ha.ext k9) (by omega) hL3
    obtain ⟨v15, m15, h15, rfl, k15⟩ := spec_sysReduced k14 k14o
    refine sCall1 rfl call97 rfl h14 ?_
    refine sCall1 rfl call98 rfl h15 ?_
    refine sMv (v := nv N) rfl ?_
    obtain ⟨v17, m17, h17, k17, k17e⟩ := spec_led (m := m15) (t := tableM L) (n := N) (lead := false) (hG.ext ((k9.trans k14e).trans k15)) (tableM_length L) (by omega)
    obtain ⟨q17, c17, rfl⟩ := k17.ints.lenN
    refine sCall3 rfl call96 rfl rfl rfl h17 ?_
    refine sAs (v := .slice _ _ _) rfl ?_
    refine sAs (v := nv 0) rfl ?_
    refine sNil (kSeqN ?_)
    refine cRet ?_
    exact ⟨.inr rfl, _, rfl, _, by rw [h0]; rfl, by rw [ifOk_0 h0, nats_ofs]; exact k17.mono ((k9.trans k14e).trans k15).1, ((k9.trans k14e).trans k15).trans k17e⟩

theorem okf46 : okF Tryd.prog H0 46 25 = true := by kernel_rfl
theorem spec_Member {m : Mem} {a : Value} {l : List Int} {n row : Int} (ha : IntsAt m a l) (hl : l.length < 4611686018427387904) : ∃ v m', ACalls Tryd.prog 46 #[a, .int .i64 n, .int .i64 row] m v m' ∧ (v = .tuple #[.bool (ifOk (oneF l n row) (decide ((whichM (nats l) row.toNat).1 = 0)) false), nv (oneF l n row)] ∧ Ext m m') := by
  obtain ⟨v9, m9, h9, rfl, k9⟩ := spec_one (n := n) (row := row) ha hl
  obtain ⟨q, cap, rfl⟩ := ha.len
  refine wpF (args := [_, _, _]) mixed okf46 (fn := Tryd.f46) rfl rfl rfl (by simp) ?_
  refine cSeq ?_
  refine cRegion ?_
  refine sAs (v := .bool _) rfl ?_
  refine sAs (v := nv 0) rfl ?_
  refine sNil (kSeqN ?_)
  refine cSeq ?_
  refine cSeq ?_
  refine cRegion ?_
  refine sMv (v := .slice _ _ _) rfl ?_
  refine sMv (v := .int _ _) rfl ?_
  refine sMv (v := .int _ _) rfl ?_
  refine sCall3 rfl call76 rfl rfl rfl h9 ?_
  refine sAs (v := nv _) rfl ?_
  refine sNil (kSeqN ?_)
  refine cSeq ?_
  refine cRegion ?_
  refine sMv (v := nv _) rfl ?_
  refine sBin (a := oneF l n row) rfl rfl (aInt_neq (b := 0)) ?_
  refine sNil (kSeqN ?_)
  refine cCond rfl (fun c0 => ?_) (fun c0 => ?_)
  ·
    refine cSeq ?_
    refine cRegion ?_
    refine sMv (v := nv _) rfl ?_
    refine sAs (v := .bool _) rfl ?_
    refine sAs (v := nv _) rfl ?_
    refine sNil (kSeqN ?_)
    refine cRet (kSeqR ?_)
    exact ⟨.inr rfl, _, rfl, by rw [ifOk_n c0]; rfl, k9⟩
  ·
    obtain ⟨hc, hr⟩ := oneF_ok (Decidable.not_not.1 c0)
    obtain ⟨N, L, rfl, rfl, hN1, hN2, hL1, hL2⟩ := checkF_nat hc
    have hL3 : ∀ x ∈ L, x < 2 ^ 24 := fun x hx => Nat.lt_of_lt_of_le (hL2 x hx) (Nat.pow_le_pow_right (by omega) (by omega))
    obtain ⟨r, rfl, hr2⟩ := row_nat hr (by omega)
    refine cSkip (kSeqN ?_)
    refine cSeq ?_
    refine cRegion ?_
    refine sMv (v := .slice _ _ _) rfl ?_
    refine sMv (v := nv r) rfl ?_
    obtain ⟨v21, m21, h21, rfl, k21⟩ := spec_which (row := r) (ha.ext k9) (by omega) hL3 (by omega)
    refine sCall2 rfl call74 rfl rfl h21 ?_
    refine sMv (v := .tuple _) rfl ?_
    refine sP (v := nv _) rfl ?_   -- extract ['t18', '0']
    refine sP (v := .bool _) rfl ?_   -- extract ['t18', '1']
    refine sAs (v := nv _) rfl ?_
    refine sAs (v := .bool _) rfl ?_
    refine sNil (kSeqN ?_)
    refine cSeq ?_
    refine cRegion ?_
    refine sMv (v := .bool _) rfl ?_
    refine sAs (v := .bool _) rfl ?_
    refine sAs (v := nv 0) rfl ?_
    refine sNil (kSeqN ?_)
    refine cRet ?_
    exact ⟨.inr rfl, _, rfl, by rw [ifOk_0 (Decidable.not_not.1 c0), nats_ofs, Decidable.not_not.1 c0]; rfl, k9.trans k21⟩

theorem okf38 : okF Tryd.prog H0 38 27 = true := by kernel_rfl
theorem spec_Which {m : Mem} {a : Value} {l : List Int} {n row : Int} (ha : IntsAt m a l) (hl : l.length < 4611686018427387904) : ∃ v m', ACalls Tryd.prog 38 #[a, .int .i64 n, .int .i64 row] m v m' ∧ (v = .tuple #[nv (ifOk (whichE l n row) (whichM (nats l) row.toNat).2 0), nv (whichE l n row)] ∧ Ext m m') := by
  obtain ⟨v9, m9, h9, rfl, k9⟩ := spec_one (n := n) (row := row) ha hl
  obtain ⟨q, cap, rfl⟩ := ha.len
  unfold whichE
  refine wpF (args := [_, _, _]) mixed okf38 (fn := Tryd.f38) rfl rfl rfl (by simp) ?_
  refine cSeq ?_
  refine cRegion ?_
  refine sAs (v := nv 0) rfl ?_
  refine sAs (v := nv 0) rfl ?_
  refine sNil (kSeqN ?_)
  refine cSeq ?_
  refine cSeq ?_
  refine cRegion ?_
  refine sMv (v := .slice _ _ _) rfl ?_
  refine sMv (v := .int _ _) rfl ?_
  refine sMv (v := .int _ _) rfl ?_
  refine sCall3 rfl call76 rfl rfl rfl h9 ?_
  refine sAs (v := nv _) rfl ?_
  refine sNil (kSeqN ?_)
  refine cSeq ?_
  refine cRegion ?_
  refine sMv (v := nv _) rfl ?_
  refine sBin (a := oneF l n row) rfl rfl (aInt_neq (b := 0)) ?_
  refine sNil (kSeqN ?_)
  refine cCond rfl (fun c0 => ?_) (fun c0 => ?_)
  ·
    refine cSeq ?_
    refine cRegion ?_
    refine sMv (v := nv _) rfl ?_
    refine sAs (v := nv 0) rfl ?_
    refine sAs (v := nv _) rfl ?_
    refine sNil (kSeqN ?_)
    refine cRet (kSeqR ?_)
    exact ⟨.inr rfl, _, rfl, by rw [if_neg (fun h => c0 h.1), ifOk_n c0]; rfl, k9⟩
  ·
    have h0 := Decidable.not_not.1 c0
    obtain ⟨hc, hr⟩ := oneF_ok h0
    obtain ⟨N, L, rfl, rfl, hN1, hN2, hL1, hL2⟩ := checkF_nat hc
    have hL3 : ∀ x ∈ L, x < 2 ^ 24 := fun x hx => Nat.lt_of_lt_of_le (hL2 x hx) (Nat.pow_le_pow_right (by omega) (by omega))
    obtain ⟨r, rfl, hr2⟩ := row_nat hr (by omega)
    refine cSkip (kSeqN ?_)
    refine cSeq ?_
    refine cRegion ?_
    refine sMv (v := .slice _ _ _) rfl ?_
    refine sMv (v := nv r) rfl ?_
    obtain ⟨v21, m21, h21, rfl, k21⟩ := spec_which (row := r) (ha.ext k9) (by omega) hL3 (by omega)
    refine sCall2 rfl call74 rfl rfl h21 ?_
    refine sMv (v := .tuple _) rfl ?_
    refine sP (v := nv _) rfl ?_   -- extract ['t18', '0']
    refine sP (v := .bool _) rfl ?_   -- extract ['t18', '1']
    refine sAs (v := nv _) rfl ?_
    refine sAs (v := .bool _) rfl ?_
    refine sNil (kSeqN ?_)
    refine cSeq ?_   -- seq 6
    refine cSeq ?_
    refine cRegion ?_
    refine sMv (v := .bool _) rfl ?_
    refine sP (v := .bool (!decide ((splitM (sysM L) 24 (r, 0)).1 = 0))) rfl ?_
    refine sNil (kSeqN ?_)
    refine cCond (p := ¬ (splitM (sysM L) 24 (r, 0)).1 = 0) (by show Value.bool (!decide _) = _; rw [← decide_not]) (fun c1 => ?_) (fun c1 => ?_)
    ·
      refine cSeq ?_
      refine cRegion ?_
      refine sAs (v := nv 0) rfl ?_
      refine sAs (v := nv 6) rfl ?_
      refine sNil (kSeqN ?_)
      refine cRet (kSeqR ?_)
      exact ⟨.inr rfl, _, rfl, by rw [nats_ofs, if_pos ⟨h0, c1⟩]; rfl, k9.trans k21⟩
    ·
      refine cSkip (kSeqN ?_)
      refine cSeq ?_
      refine cRegion ?_
      refine sMv (v := nv _) rfl ?_
      refine sAs (v := nv _) rfl ?_
      refine sAs (v := nv 0) rfl ?_
      refine sNil (kSeqN ?_)
      refine cRet ?_
      exact ⟨.inr rfl, _, rfl, by rw [nats_ofs, if_neg (fun h => h.2 (Decidable.not_not.1 c1)), ifOk_0 h0, h0]; rfl, k9.trans k21⟩

theorem okf22 : okF Tryd.prog H0 22 21 = true := by kernel_rfl
theorem spec_Apply {m : Mem} {a : Value} {l : List Int} {n row : Int} (ha : IntsAt m a l) (hl : l.length < 4611686018427387904) : ∃ v m', ACalls Tryd.prog 22 #[a, .int .i64 n, .int .i64 row] m v m' ∧ (v = .tuple #[nv (ifOk (oneF l n row) (total (turnedM (nats l) n.toNat) row.toNat) 0), nv (oneF l n row)] ∧ Ext m m') := by
  obtain ⟨v9, m9, h9, rfl, k9⟩ := spec_one (n := n) (row := row) ha hl
  obtain ⟨q, cap, rfl⟩ := ha.len
  refine wpF (args := [_, _, _]) mixed okf22 (fn := Tryd.f22) rfl rfl rfl (by simp) ?_
  refine cSeq ?_
  refine cRegion ?_
  refine sAs (v := nv 0) rfl ?_
  refine sAs (v := nv 0) rfl ?_
  refine sNil (kSeqN ?_)
  refine cSeq ?_
  refine cSeq ?_
  refine cRegion ?_
  refine sMv (v := .slice _ _ _) rfl ?_
  refine sMv (v := .int _ _) rfl ?_
  refine sMv (v := .int _ _) rfl ?_
  refine sCall3 rfl call76 rfl rfl rfl h9 ?_
  refine sAs (v := nv _) rfl ?_
  refine sNil (kSeqN ?_)
  refine cSeq ?_
  refine cRegion ?_
  refine sMv (v := nv _) rfl ?_
  refine sBin (a := oneF l n row) rfl rfl (aInt_neq (b := 0)) ?_
  refine sNil (kSeqN ?_)
  refine cCond rfl (fun c0 => ?_) (fun c0 => ?_)
  ·
    refine cSeq ?_
    refine cRegion ?_
    refine sMv (v := nv _) rfl ?_
    refine sAs (v := nv 0) rfl ?_
    refine sAs (v := nv _) rfl ?_
    refine sNil (kSeqN ?_)
    refine cRet (kSeqR ?_)
    exact ⟨.inr rfl, _, rfl, by rw [ifOk_n c0]; rfl, k9⟩
  ·
    have h0 := Decidable.not_not.1 c0
    obtain ⟨hc, hr⟩ := oneF_ok h0
    obtain ⟨N, L, rfl, rfl, hN1, hN2, hL1, hL2⟩ := checkF_nat hc
    obtain ⟨r, rfl, hr2⟩ := row_nat hr (by omega)
    refine cSkip (kSeqN ?_)
    refine cSeq ?_
    refine cRegion ?_
    refine sMv (v := nv r) rfl ?_
    refine sMv (v := .slice _ _ _) rfl ?_
    refine sMv (v := nv N) rfl ?_
    obtain ⟨v19, m19, h19, k19, k19e⟩ := spec_turned (n := N) (ha.ext k9) (by omega) (fun x hx => Nat.lt_of_lt_of_le (hL2 x hx) (Nat.pow_le_pow_right (by omega) (by omega))) (by omega)
    have hI := k19.ints
    obtain ⟨q19, c19, rfl⟩ := hI.lenN
    refine sCall2 rfl call75 rfl rfl h19 ?_
    obtain ⟨v20, m20, h20, rfl, k20⟩ := spec_product (w := r) hI (by rw [turnedM_length]; omega) (fun x hx => by
      obtain ⟨k, hk, rfl⟩ := List.mem_iff_getElem.1 hx
      rw [turnedM_length] at hk
      have := turnedM_getD L N k hk
      rw [List.getD_eq_getElem?_getD, List.getElem?_eq_getElem (by rw [turnedM_length]; exact hk)] at this
      rw [show (turnedM L N)[k] = colP L k L.length from this]
      exact Nat.lt_of_lt_of_le (colP_lt L k L.length) (Nat.pow_le_pow_right (by omega) (by omega))) (by omega)
    subst k20
    refine sCall2 rfl call77 rfl rfl h20 ?_
    refine sAs (v := nv _) rfl ?_
    refine sAs (v := nv 0) rfl ?_
    refine sNil (kSeqN ?_)
    refine cRet ?_
    exact ⟨.inr rfl, _, rfl, by rw [ifOk_0 h0, nats_ofs, h0]; rfl, k9.trans k19e⟩

end Go.AM

/-! ### E15 -/
namespace Go.AM
open Go.Proofs
set_option maxRecDepth 100000
set_option linter.unusedVariables false
set_option linter.unusedSimpArgs false
theorem call18 : callable Tryd.prog 18 = true := by kernel_rfl
theorem eq22 {q : Option Addr} {n c : Nat} : aBin Tryd.prog .eql 22 (.slice q n c) (.slice none 0 0) = some (.bool (decide (q = none))) := by
  cases q <;> kernel_rfl
/-- The error of equations. -/
def solveE (l : List Int) (n b : Int) : Nat :=
  if checkF l n = 0 then (if ¬ (0 ≤ b ∧ b < 2 ^ l.length) then 4 else if ¬ (whichM (turnedM (nats l) n.toNat) b.toNat).1 = 0 then 6 else 0) else checkF l n
def turnE (l : List Int) (n : Int) : Nat := if checkF l n = 0 then (if l.length = 0 ∨ 16 < l.length then 7 else 0) else checkF l n
def mulE (a : List Int) (m : Int) (b : List Int) (n : Int) : Nat := if checkF a m = 0 then (if checkF b n = 0 then (if Int.ofNat b.length ≠ m then 7 else 0) else checkF b n) else checkF a m
theorem turnedM_lt {L : List Nat} {n x : Nat} (h : x ∈ turnedM L n) : x < 2 ^ L.length := by
  obtain ⟨k, hk, rfl⟩ := List.mem_map.1 h
  exact colP_lt L k L.length

theorem okf18 : okF Tryd.prog H0 18 8 = true := by kernel_rfl
theorem spec_Clone {m : Mem} {a : Value} {l : List Int} (ha : IntsAt m a l) (hl : l.length ≤ 1000000) : ∃ v m', ACalls Tryd.prog 18 #[a] m v m' ∧ (OwnF m.size m' v l ∧ Ext m m') := by
  obtain ⟨q, cap, rfl⟩ := ha.len
  refine wpF (args := [_]) mixed okf18 (fn := Tryd.f18) rfl rfl rfl (by simp) ?_
  refine cSeq ?_
  refine cRegion ?_
  refine sAs (v := .slice _ _ _) rfl ?_
  refine sNil (kSeqN ?_)
  refine cSeq ?_   -- seq 1
  refine cSeq ?_
  refine cRegion ?_
  refine sMv (v := .slice _ _ _) rfl ?_
  refine sP (v := .bool (decide (q = none))) eq22 ?_
  refine sNil (kSeqN ?_)
  refine cCond rfl (fun c0 => ?_) (fun c0 => ?_)
  ·
    refine cSeq ?_
    refine cRegion ?_
    refine sAs (v := .slice _ _ _) rfl ?_
    refine sNil (kSeqN ?_)
    refine cRet (kSeqR ?_)
    subst c0
    have : l = [] := by
      rcases ha with ⟨h, _⟩ | ⟨b, o, cp, r, c, h, _⟩
      · exact h
      · cases h
    subst this
    exact ⟨.inr rfl, _, rfl, .nil _ _, .refl _⟩
  ·
    refine cSkip (kSeqN ?_)
    refine cSeq ?_
    refine cRegion ?_
    refine sBuildS (c := #[]) T22 S3 Z3 (by decide) (by decide) (by decide) (by kernel_rfl) rfl rfl ?_
    refine sMv (v := .slice _ _ _) rfl ?_
    refine sApp App22 rfl rfl (N := m.size) (p := []) (.inr ⟨m.size, 0, #[], rfl, Nat.le_refl _, gP rfl, by simp, by simp, by simp⟩) (ha.ext (.push _ _)) (by simp) (by simp; omega) fun v3 m3 hO3 hL3 => ?_
    rw [List.nil_append] at hO3
    obtain ⟨q3, cp3, rfl⟩ := hO3.ints.len
    refine sAs (v := .slice _ _ _) rfl ?_
    refine sNil (kSeqN ?_)
    refine cRet ?_
    exact ⟨.inr rfl, _, rfl, hO3, hL3.to_ext (.push _ _) (Nat.le_refl _)⟩

theorem okf21 : okF Tryd.prog H0 21 35 = true := by kernel_rfl
theorem spec_Solve {m : Mem} {a : Value} {l : List Int} {n b : Int} (ha : IntsAt m a l) (hl : l.length < 4611686018427387904) : ∃ v m', ACalls Tryd.prog 21 #[a, .int .i64 n, .int .i64 b] m v m' ∧ (v = .tuple #[nv (ifOk (solveE l n b) (whichM (turnedM (nats l) n.toNat) b.toNat).2 0), nv (solveE l n b)] ∧ Ext m m') := by
  obtain ⟨m9, h9, k9⟩ := spec_Check (n := n) ha hl
  obtain ⟨q, cap, rfl⟩ := ha.len
  unfold solveE
  refine wpF (args := [_, _, _]) mixed okf21 (fn := Tryd.f21) rfl rfl rfl (by simp) ?_
  refine cSeq ?_
  refine cRegion ?_
  refine sAs (v := nv 0) rfl ?_
  refine sAs (v := nv 0) rfl ?_
  refine sNil (kSeqN ?_)
  refine cSeq ?_
  refine cRegion ?_
  refine sMv (v := .slice _ _ _) rfl ?_
  refine sMv (v := .int _ _) rfl ?_
  refine sCall2 rfl call60 rfl rfl h9 ?_
  refine sAs (v := nv _) rfl ?_
  refine sNil (kSeqN ?_)
  refine cSeq ?_
  refine cBlock ?_
  refine cSeq ?_
  refine cRegion ?_
  refine sMv (v := nv _) rfl ?_
  refine sBin (a := checkF l n) rfl rfl (aInt_neq (b := 0)) ?_
  refine sAs (v := .bool _) rfl ?_
  refine sNil (kSeqN ?_)
  refine cCond rfl (fun c0 => ?_) (fun c0 => ?_)
  ·
    refine cSeq ?_
    refine cRegion ?_
    refine sMv (v := nv _) rfl ?_
    refine sAs (v := nv 0) rfl ?_
    refine sAs (v := nv _) rfl ?_
    refine sNil (kSeqN ?_)
    refine cRet (kBlkR (kSeqR ?_))
    exact ⟨.inr rfl, _, rfl, by rw [if_neg c0, ifOk_n c0]; rfl, k9⟩
  ·
    have h0 := Decidable.not_not.1 c0
    rw [if_pos h0]
    obtain ⟨N, L, rfl, rfl, hN1, hN2, hL1, hL2⟩ := checkF_nat h0
    refine cSeq ?_
    refine cRegion ?_
    refine sMv (v := .int _ _) rfl ?_
    refine sMv (v := .slice _ _ _) rfl ?_
    refine sLen T22 rfl ?_
    refine sCall2 (v := .bool (decide (0 ≤ b ∧ b < 2 ^ (ofs L).length))) rfl call73 rfl rfl (spec_fits (by rw [ofs_length]; omega)) ?_
    refine sP (v := .bool (!decide (0 ≤ b ∧ b < 2 ^ (ofs L).length))) rfl ?_
    refine sAs (v := .bool _) rfl ?_
    refine sNil (kSeqN ?_)
    refine cCond (p := ¬ (0 ≤ b ∧ b < 2 ^ (ofs L).length)) (by show Value.bool (!decide _) = _; rw [← decide_not]) (fun c1 => ?_) (fun c1 => ?_)
    ·
      refine cSeq ?_
      refine cRegion ?_
      refine sAs (v := nv 0) rfl ?_
      refine sAs (v := nv 4) rfl ?_
      refine sNil (kSeqN ?_)
      refine cRet (kBlkR (kSeqR ?_))
      exact ⟨.inr rfl, _, rfl, by rw [if_pos c1]; rfl, k9⟩
    ·
      have hr := Decidable.not_not.1 c1
      rw [if_neg c1, nats_ofs]
      obtain ⟨r, rfl, hr2⟩ := row_nat (N := (ofs L).length) hr (by rw [ofs_length]; omega)
      refine cSkip (kBlkN (kSeqN ?_))
      refine cSeq ?_
      refine cRegion ?_
      refine sMv (v := .slice _ _ _) rfl ?_
      refine sMv (v := nv N) rfl ?_
      obtain ⟨v27, m27, h27, k27, k27e⟩ := spec_turned (n := N) (ha.ext k9) (by omega) (fun x hx => Nat.lt_of_lt_of_le (hL2 x hx) (Nat.pow_le_pow_right (by omega) (by omega))) (by omega)
      have hI := k27.ints
      obtain ⟨q27, c27, rfl⟩ := hI.lenN
      refine sCall2 rfl call75 rfl rfl h27 ?_
      refine sMv (v := nv r) rfl ?_
      obtain ⟨v29, m29, h29, rfl, k29⟩ := spec_which (row := r) hI (by rw [turnedM_length]; omega) (fun x hx => Nat.lt_of_lt_of_le (turnedM_lt hx) (Nat.pow_le_pow_right (by omega) (by omega))) (by omega)
      refine sCall2 rfl call74 rfl rfl h29 ?_
      refine sMv (v := .tuple _) rfl ?_
      refine sP (v := nv _) rfl ?_   -- extract ['t24', '0']
      refine sP (v := .bool _) rfl ?_   -- extract ['t24', '1']
      refine sAs (v := nv _) rfl ?_
      refine sAs (v := .bool _) rfl ?_
      refine sNil (kSeqN ?_)
      refine cSeq ?_   -- seq 8
      refine cSeq ?_
      refine cRegion ?_
      refine sMv (v := .bool _) rfl ?_
      refine sP (v := .bool (!decide ((splitM (sysM (turnedM L N)) 24 (r, 0)).1 = 0))) rfl ?_
      refine sNil (kSeqN ?_)
      refine cCond (p := ¬ (splitM (sysM (turnedM L N)) 24 (r, 0)).1 = 0) (by show Value.bool (!decide _) = _; rw [← decide_not]) (fun c2 => ?_) (fun c2 => ?_)
      ·
        refine cSeq ?_
        refine cRegion ?_
        refine sAs (v := nv 0) rfl ?_
        refine sAs (v := nv 6) rfl ?_
        refine sNil (kSeqN ?_)
        refine cRet (kSeqR ?_)
        exact ⟨.inr rfl, _, rfl, by rw [if_pos (show ¬ (whichM (turnedM L (Int.ofNat N).toNat) (Int.ofNat r).toNat).1 = 0 from c2)]; rfl, (k9.trans k27e).trans k29⟩
      ·
        refine cSkip (kSeqN ?_)
        refine cSeq ?_
        refine cRegion ?_
        refine sMv (v := nv _) rfl ?_
        refine sAs (v := nv _) rfl ?_
        refine sAs (v := nv 0) rfl ?_
        refine sNil (kSeqN ?_)
        refine cRet ?_
        exact ⟨.inr rfl, _, rfl, by rw [if_neg (show ¬ ¬ (whichM (turnedM L (Int.ofNat N).toNat) (Int.ofNat r).toNat).1 = 0 from c2)]; rfl, (k9.trans k27e).trans k29⟩

theorem okf52 : okF Tryd.prog H0 52 26 = true := by kernel_rfl
theorem spec_Transpose {m : Mem} {a : Value} {l : List Int} {n : Int} (ha : IntsAt m a l) (hl : l.length < 4611686018427387904) : ∃ v m', ACalls Tryd.prog 52 #[a, .int .i64 n] m v m' ∧ (∃ w, v = .tuple #[w, nv (turnE l n)] ∧ OwnF m.size m' w (ofs (ifOk (turnE l n) (turnedM (nats l) n.toNat) [])) ∧ Ext m m') := by
  obtain ⟨m9, h9, k9⟩ := spec_Check (n := n) ha hl
  obtain ⟨q, cap, rfl⟩ := ha.len
  unfold turnE
  refine wpF (args := [_, _]) mixed okf52 (fn := Tryd.f52) rfl rfl rfl (by simp) ?_
  refine cSeq ?_
  refine cRegion ?_
  refine sAs (v := .slice _ _ _) rfl ?_
  refine sAs (v := nv 0) rfl ?_
  refine sNil (kSeqN ?_)
  refine cSeq ?_
  refine cRegion ?_
  refine sMv (v := .slice _ _ _) rfl ?_
  refine sMv (v := .int _ _) rfl ?_
  refine sCall2 rfl call60 rfl rfl h9 ?_
  refine sAs (v := nv _) rfl ?_
  refine sNil (kSeqN ?_)
  refine cSeq ?_
  refine cBlock ?_
  refine cSeq ?_
  refine cRegion ?_
  refine sMv (v := nv _) rfl ?_
  refine sBin (a := checkF l n) rfl rfl (aInt_neq (b := 0)) ?_
  refine sAs (v := .bool _) rfl ?_
  refine sNil (kSeqN ?_)
  refine cCond rfl (fun c0 => ?_) (fun c0 => ?_)
  ·
    refine cSeq ?_
    refine cRegion ?_
    refine sMv (v := nv _) rfl ?_
    refine sAs (v := .slice _ _ _) rfl ?_
    refine sAs (v := nv _) rfl ?_
    refine sNil (kSeqN ?_)
    refine cRet (kBlkR (kSeqR ?_))
    exact ⟨.inr rfl, _, rfl, _, by rw [if_neg c0]; rfl, by rw [if_neg c0, ifOk_n c0]; exact .nil _ _, k9⟩
  ·
    have h0 := Decidable.not_not.1 c0
    rw [if_pos h0]
    refine cSeq ?_
    refine cRegion ?_
    refine sMv (v := .slice _ _ _) rfl ?_
    refine sLen T22 rfl ?_
    refine sBin rfl rfl (aInt_eql (b := 0)) ?_
    refine sMv (v := .bool _) rfl ?_
    by_cases h1 : l.length = 0
    ·
      rw [decide_eq_true h1]
      refine sGno (q' := true) rfl rfl (by simp) ?_
      refine sGno (q' := true) rfl rfl (by simp) ?_
      refine sGno (q' := true) rfl rfl (by simp) ?_
      refine sP (v := .bool _) rfl ?_
      refine sAs (v := .bool _) rfl ?_
      refine sNil (kSeqN ?_)
      refine cCondT rfl ?_
      refine cSeq ?_
      refine cRegion ?_
      refine sAs (v := .slice _ _ _) rfl ?_
      refine sAs (v := nv 7) rfl ?_
      refine sNil (kSeqN ?_)
      refine cRet (kBlkR (kSeqR ?_))
      exact ⟨.inr rfl, _, rfl, _, by rw [if_pos (.inl h1)]; rfl, by rw [if_pos (.inl h1), ifOk_n (by decide)]; exact .nil _ _, k9⟩
    ·
      rw [decide_eq_false h1]
      refine sG rfl rfl ?_
      refine sMv (v := .slice _ _ _) rfl ?_
      refine sG rfl rfl ?_
      refine sLen T22 rfl ?_
      refine sG rfl rfl ?_
      refine sBin rfl rfl (aInt_gtr (b := 16)) ?_
      refine sP (v := .bool _) rfl ?_
      refine sAs (v := .bool _) rfl ?_
      refine sNil (kSeqN ?_)
      refine cCond rfl (fun c2 => ?_) (fun c2 => ?_)
      ·
        refine cSeq ?_
        refine cRegion ?_
        refine sAs (v := .slice _ _ _) rfl ?_
        refine sAs (v := nv 7) rfl ?_
        refine sNil (kSeqN ?_)
        refine cRet (kBlkR (kSeqR ?_))
        exact ⟨.inr rfl, _, rfl, _, by rw [if_pos (.inr c2)]; rfl, by rw [if_pos (.inr c2), ifOk_n (by decide)]; exact .nil _ _, k9⟩
      ·
        rw [if_neg (by omega)]
        obtain ⟨N, L, rfl, rfl, hN1, hN2, hL1, hL2⟩ := checkF_nat h0
        refine cSkip (kBlkN (kSeqN ?_))
        refine cSeq ?_
        refine cRegion ?_
        refine sMv (v := .slice _ _ _) rfl ?_
        refine sMv (v := nv N) rfl ?_
        obtain ⟨v27, m27, h27, k27, k27e⟩ := spec_turned (n := N) (ha.ext k9) (by omega) (fun x hx => Nat.lt_of_lt_of_le (hL2 x hx) (Nat.pow_le_pow_right (by omega) (by omega))) (by omega)
        obtain ⟨q27, c27, rfl⟩ := k27.ints.lenN
        refine sCall2 rfl call75 rfl rfl h27 ?_
        refine sAs (v := .slice _ _ _) rfl ?_
        refine sAs (v := nv 0) rfl ?_
        refine sNil (kSeqN ?_)
        refine cRet ?_
        exact ⟨.inr rfl, _, rfl, _, rfl, by rw [ifOk_0 rfl, nats_ofs]; exact k27.mono k9.1, k9.trans k27e⟩

end Go.AM

/-! ### E16 -/
namespace Go.AM
open Go.Proofs
set_option maxRecDepth 100000
set_option linter.unusedVariables false
set_option linter.unusedSimpArgs false
def oneM (n : Nat) : List Nat := (List.range n).map fun k => 2 ^ k
def identE (n : Int) : Nat := if n < 1 ∨ 16 < n then 3 else 0
def oneAt (n k : Nat) : List Nat := (List.range k).map (fun k => 2 ^ k) ++ List.replicate (n - k) 0
theorem oneAt_length {n k : Nat} (h : k ≤ n) : (oneAt n k).length = n := by simp [oneAt]; omega
theorem oneAt_set {n k : Nat} (h : k < n) : (oneAt n k).set k (2 ^ k) = oneAt n (k + 1) := by
  unfold oneAt
  rw [List.set_append_right _ _ (by simp), List.range_succ, List.map_append]
  obtain ⟨d, hd⟩ : ∃ d, n - k = d + 1 := ⟨n - k - 1, by omega⟩
  rw [hd, show n - (k + 1) = d by omega, List.replicate_succ]
  simp
theorem oneAt_last (n : Nat) : oneAt n n = oneM n := by simp [oneAt, oneM]
def mulM (a b : List Nat) : List Nat := a.map (total b)
def invOk (L : List Nat) (n : Nat) : Bool := (List.range n).all fun k => decide ((whichM L (2 ^ k)).1 = 0)
def invL (L : List Nat) (n : Nat) : List Nat := (List.range n).map fun k => (whichM L (2 ^ k)).2
def invE (l : List Int) (n : Int) : Nat := if checkF l n = 0 then (if Int.ofNat l.length ≠ n then 7 else if invOk (nats l) n.toNat then 0 else 6) else checkF l n
theorem eqElems {k : Nat} : ∀ (i : Nat) (t t' : List Nat), t.length = i + k → t'.length = i + k →
    aEqElems (aEq Tryd.prog 5) Tryd.prog 3 1 k i (cellsN t) (cellsN t') = some (decide (t.drop i = t'.drop i)) := by
  have hI : undOf Tryd.prog 3 = some (.int .i64) := by kernel_rfl
  induction k with
  | zero =>
    intro i t t' h h'
    rw [List.drop_of_length_le (by omega), List.drop_of_length_le (by omega)]; rfl
  | succ k ih =>
    intro i t t' h h'
    have e1 : (cellsN t)[i * 1]? = some (nv (t[i]'(by omega))) := by rw [Nat.mul_one]; exact cellsN_get (List.getElem?_eq_getElem _)
    have e2 : (cellsN t')[i * 1]? = some (nv (t'[i]'(by omega))) := by rw [Nat.mul_one]; exact cellsN_get (List.getElem?_eq_getElem _)
    have e3 : aEq0 (.int .i64) (nv (t[i]'(by omega))) (nv (t'[i]'(by omega))) = some (Int.ofNat (t[i]'(by omega)) == Int.ofNat (t'[i]'(by omega))) := rfl
    have e4 : aEq Tryd.prog 5 3 (nv (t[i]'(by omega))) (nv (t'[i]'(by omega))) = some (decide (t[i]'(by omega) = t'[i]'(by omega))) := by
      rw [← beqI, ← e3]
      simp only [aEq, hI, nv]
    simp only [aEqElems, aPart, A3, e1, e2, e4]
    have d1 := List.drop_eq_getElem_cons (l := t) (i := i) (by omega)
    have d2 := List.drop_eq_getElem_cons (l := t') (i := i) (by omega)
    by_cases hh : t[i]'(by omega) = t'[i]'(by omega)
    · rw [decide_eq_true hh, ih (i + 1) t t' (by omega) (by omega), d1, d2]
      refine congrArg some (decide_eq_decide.2 ⟨fun h => by rw [h, hh], fun h => (List.cons.inj h).2⟩)
    · rw [decide_eq_false hh, d1, d2]
      exact congrArg some (decide_eq_false fun h => hh (List.cons.inj h).1).symm
theorem eq85 {t t' : List Nat} (h : t.length = 24) (h' : t'.length = 24) : aBin Tryd.prog .eql 85 (.agg (cellsN t)) (.agg (cellsN t')) = some (.bool (decide (t = t'))) := by
  have hG : Tryd.prog.eqGuardType Tryd.prog.depth 85 = false := by kernel_rfl
  have := eqElems (k := 24) 0 t t' (by omega) (by omega)
  simp only [List.drop_zero] at this
  have e : aEq Tryd.prog (5 + 1) 85 (.agg (cellsN t)) (.agg (cellsN t')) = aEqElems (aEq Tryd.prog 5) Tryd.prog 3 1 24 0 (cellsN t) (cellsN t') := by
    rw [aEq.eq_def]; simp only [T85, S3]
  simp only [aBin, eqAble, hG]
  rw [show eqDepth = 5 + 1 from rfl, e, this]; rfl

theorem okf54 : okF Tryd.prog H0 54 25 = true := by kernel_rfl
theorem spec_Identity {m : Mem} {n : Int} : ∃ v m', ACalls Tryd.prog 54 #[.int .i64 n] m v m' ∧ (∃ w, v = .tuple #[w, nv (identE n)] ∧ OwnF m.size m' w (ofs (ifOk (identE n) (oneM n.toNat) [])) ∧ Ext m m') := by
  unfold identE
  refine wpF (args := [_]) mixed okf54 (fn := Tryd.f54) rfl rfl rfl (by simp) ?_
  refine cSeq ?_
  refine cRegion ?_
  refine sAs (v := .slice _ _ _) rfl ?_
  refine sAs (v := nv 0) rfl ?_
  refine sNil (kSeqN ?_)
  refine cSeq ?_   -- seq 1
  refine cSeq ?_
  refine cRegion ?_
  refine sMv (v := .int _ _) rfl ?_
  refine sBinI (v := .bool (decide (n < 1))) rfl rfl rfl ?_
  refine sMv (v := .bool _) rfl ?_
  by_cases h1 : n < 1
  ·
    rw [decide_eq_true h1]
    refine sGno (q' := true) rfl rfl (by simp) ?_
    refine sGno (q' := true) rfl rfl (by simp) ?_
    refine sP (v := .bool _) rfl ?_
    refine sNil (kSeqN ?_)
    refine cCondT rfl ?_
    refine cSeq ?_
    refine cRegion ?_
    refine sAs (v := .slice _ _ _) rfl ?_
    refine sAs (v := nv 3) rfl ?_
    refine sNil (kSeqN ?_)
    refine cRet (kSeqR ?_)
    exact ⟨.inr rfl, _, rfl, _, by rw [if_pos (.inl h1)]; rfl, by rw [if_pos (.inl h1), ifOk_n (by decide)]; exact .nil _ _, .refl _⟩
  ·
    rw [decide_eq_false h1]
    refine sG rfl rfl ?_
    refine sMv (v := .int _ _) rfl ?_
    refine sG rfl rfl ?_
    refine sBinI (v := .bool (decide (n > 16))) rfl rfl rfl ?_
    refine sP (v := .bool _) rfl ?_
    refine sNil (kSeqN ?_)
    refine cCond (p := n > 16) rfl (fun c1 => ?_) (fun c1 => ?_)
    ·
      refine cSeq ?_
      refine cRegion ?_
      refine sAs (v := .slice _ _ _) rfl ?_
      refine sAs (v := nv 3) rfl ?_
      refine sNil (kSeqN ?_)
      refine cRet (kSeqR ?_)
      exact ⟨.inr rfl, _, rfl, _, by rw [if_pos (.inr c1)]; rfl, by rw [if_pos (.inr c1), ifOk_n (by decide)]; exact .nil _ _, .refl _⟩
    ·
      rw [if_neg (by omega), ifOk_0 rfl]
      obtain ⟨N, rfl⟩ : ∃ N : Nat, n = Int.ofNat N := ⟨n.toNat, by simp; omega⟩
      have hN : N ≤ 16 := by simp at c1; omega
      refine cSkip (kSeqN ?_)
      refine cSeq ?_
      refine cRegion ?_
      refine sMv (v := nv N) rfl ?_
      refine sMkN T22 S3 Z3 bytes3 rfl rfl (by omega) ?_
      refine sAs (v := .slice _ _ _) rfl ?_
      refine sNil (kSeqN ?_)
      refine cSeq ?_
      refine cSeq ?_
      refine cRegion ?_
      refine sMv (v := nv N) rfl ?_
      refine sMv (v := nv 0) rfl ?_
      refine sNil (kSeqN ?_)
      refine cBlock ?_
      refine wpC_loop (fun k ρ m' => ∃ i, k = N - i ∧ i ≤ N ∧ Ext m m' ∧ m.size + 1 ≤ m'.size ∧ Mem.get m' m.size = .cells true (cellsN (oneAt N i)) ∧ Has ρ [(4, .slice (some ⟨m.size, 0, some 1⟩) N N), (14, nv N), (15, nv i)]) ⟨0, rfl, by omega, .push _ _, by simp, by rw [gP rfl]; simp [oneAt], rfl, rfl, rfl, trivial⟩ ?_
      rintro k ρ m' ⟨i, rfl, hi, he, hz, g1, hh⟩
      rw [hh.env]; clear hh
      refine cSeq ?_
      refine cRegion ?_
      refine sBin rfl rfl (aInt_lss) ?_
      refine sNil (kSeqN ?_)
      refine cSeq ?_   -- seq 9
      refine cCond rfl (fun c2 => ?_) (fun c2 => ?_)
      ·
        have h2i : 2 ^ i ≤ 2 ^ 16 := Nat.pow_le_pow_right (by omega) (by omega)
        refine cSkip (kSeqN ?_)
        refine cSeq ?_
        refine cBlock ?_
        refine cSeq ?_
        refine cRegion ?_
        refine sMv (v := nv _) rfl ?_
        refine sAs (v := nv _) rfl ?_
        refine sNil (kSeqN ?_)
        refine cRegion ?_
        refine sMv (v := .slice _ _ _) rfl ?_
        refine sMv (v := nv _) rfl ?_
        refine sMv (v := nv _) rfl ?_
        refine sBin rfl rfl (aInt_shl (a := 1) (by omega)) ?_
        refine sIx T22 S3 rfl rfl (by omega) ?_
        refine sSt (v := nv _) S3 rfl rfl (by simp (disch := first | omega | (simp only [Array.size_push, Array.size_setIfInBounds]; done) | (simp only [Array.size_push, Array.size_setIfInBounds]; omega)) only [gP, gPn, gS, gSn, g1]; try rfl) (by simp [oneAt_length hi]; omega) rfl rfl ?_
        rw [cellsN_set, Nat.zero_add, Nat.mul_one]
        refine sNil (kBlkN (kSeqN ?_))
        refine cRegion ?_
        refine sBin rfl rfl (aInt_add (b := 1) (by omega)) ?_
        refine sMv (v := nv _) rfl ?_
        refine sNil (kSeqN ?_)
        refine ⟨_, ?_, i + 1, rfl, by omega, he.set (by omega) _, by simpa using hz, ?_, rfl, rfl, rfl, trivial⟩
        · omega
        · rw [gS rfl (by omega), Nat.shiftLeft_eq, Nat.one_mul, oneAt_set c2]
      ·
        refine cExit (kSeqE (kSeqE (kBlkS (kSeqN ?_))))
        refine cSeq ?_
        refine cRegion ?_
        refine sMv (v := .slice _ _ _) rfl ?_
        refine sAs (v := .slice _ _ _) rfl ?_
        refine sAs (v := nv 0) rfl ?_
        refine sNil (kSeqN ?_)
        refine cRet ?_
        obtain rfl : i = N := by omega
        refine ⟨.inr rfl, _, rfl, _, rfl, ?_, he⟩
        rw [oneAt_last] at g1
        have := OwnF.ofCells (N := m.size) (r := []) (Nat.le_refl _) (by rw [List.append_nil]; exact g1)
        rw [List.append_nil, show (oneM i).length = i by simp [oneM]] at this
        exact this

theorem okf62 : okF Tryd.prog H0 62 23 = true := by kernel_rfl
theorem spec_Same {m : Mem} {a b : Value} {l r : List Int} {n : Int} (ha : IntsAt m a l) (hb : IntsAt m b r) (hl : l.length < 4611686018427387904) (hr : r.length < 4611686018427387904) : ∃ v m', ACalls Tryd.prog 62 #[a, b, .int .i64 n] m v m' ∧ (v = .tuple #[.bool (ifOk (bothF l r n) (decide (tableM (nats l) = tableM (nats r))) false), nv (bothF l r n)] ∧ Ext m m') := by
  obtain ⟨v9, m9, h9, rfl, k9⟩ := spec_both (n := n) ha hb hl hr
  obtain ⟨q, cap, rfl⟩ := ha.len
  obtain ⟨q2, cap2, rfl⟩ := hb.len
  refine wpF (args := [_, _, _]) mixed okf62 (fn := Tryd.f62) rfl rfl rfl (by simp) ?_
  refine cSeq ?_
  refine cRegion ?_
  refine sAs (v := .bool _) rfl ?_
  refine sAs (v := nv 0) rfl ?_
  refine sNil (kSeqN ?_)
  refine cSeq ?_
  refine cSeq ?_
  refine cRegion ?_
  refine sMv (v := .slice _ _ _) rfl ?_
  refine sMv (v := .slice _ _ _) rfl ?_
  refine sMv (v := .int _ _) rfl ?_
  refine sCall3 rfl call101 rfl rfl rfl h9 ?_
  refine sAs (v := nv _) rfl ?_
  refine sNil (kSeqN ?_)
  refine cSeq ?_
  refine cRegion ?_
  refine sMv (v := nv _) rfl ?_
  refine sBin (a := bothF l r n) rfl rfl (aInt_neq (b := 0)) ?_
  refine sNil (kSeqN ?_)
  refine cCond rfl (fun c0 => ?_) (fun c0 => ?_)
  ·
    refine cSeq ?_
    refine cRegion ?_
    refine sMv (v := nv _) rfl ?_
    refine sAs (v := .bool _) rfl ?_
    refine sAs (v := nv _) rfl ?_
    refine sNil (kSeqN ?_)
    refine cRet (kSeqR ?_)
    exact ⟨.inr rfl, _, rfl, by rw [ifOk_n c0]; rfl, k9⟩
  ·
    have h0 := Decidable.not_not.1 c0
    have hcl : checkF l n = 0 ∧ checkF r n = 0 := by
      unfold bothF at h0; split at h0
      · exact ⟨by assumption, h0⟩
      · exact absurd h0 (by assumption)
    obtain ⟨N, L, rfl, rfl, hN1, hN2, hL1, hL2⟩ := checkF_nat hcl.1
    obtain ⟨N', R, hNN, rfl, _, _, hR1, hR2⟩ := checkF_nat hcl.2
    obtain rfl : N' = N := by have := Int.ofNat.inj hNN; omega
    have hL3 : ∀ x ∈ L, x < 2 ^ 24 := fun x hx => Nat.lt_of_lt_of_le (hL2 x hx) (Nat.pow_le_pow_right (by omega) (by omega))
    have hR3 : ∀ x ∈ R, x < 2 ^ 24 := fun x hx => Nat.lt_of_lt_of_le (hR2 x hx) (Nat.pow_le_pow_right (by omega) (by omega))
    refine cSkip (kSeqN ?_)
    refine cSeq ?_
    refine cRegion ?_
    refine sMv (v := .slice _ _ _) rfl ?_
    obtain ⟨v17, m17, h17, rfl, k17, k17o, k17e⟩ := spec_spanned (ha.ext k9) (by omega) hL3
    obtain ⟨v18, m18, h18, rfl, k18⟩ := spec_sysReduced k17 k17o
    obtain ⟨v20, m20, h20, rfl, k20, k20o, k20e⟩ := spec_spanned (hb.ext ((k9.trans k17e).trans k18)) (by omega) hR3
    obtain ⟨v21, m21, h21, rfl, k21⟩ := spec_sysReduced k20 k20o
    rw [show reducedM (sysM L) 24 = tableM L from rfl] at h18
    rw [show reducedM (sysM R) 24 = tableM R from rfl] at h21
    refine sCall1 rfl call97 rfl h17 ?_
    refine sCall1 rfl call98 rfl h18 ?_
    refine sMv (v := .slice _ _ _) rfl ?_
    refine sCall1 rfl call97 rfl h20 ?_
    refine sCall1 rfl call98 rfl h21 ?_
    refine sBinA (a := .agg (cellsN (tableM L))) (b := .agg (cellsN (tableM R))) rfl rfl (eq85 (tableM_length L) (tableM_length R)) ?_
    refine sAs (v := .bool _) rfl ?_
    refine sAs (v := nv 0) rfl ?_
    refine sNil (kSeqN ?_)
    refine cRet ?_
    exact ⟨.inr rfl, _, rfl, by rw [ifOk_0 h0, nats_ofs, nats_ofs, h0]; rfl, (((k9.trans k17e).trans k18).trans k20e).trans k21⟩

end Go.AM

/-! ### E17 -/
namespace Go.AM
open Go.Proofs
set_option maxRecDepth 100000
set_option linter.unusedVariables false
set_option linter.unusedSimpArgs false

theorem okf51 : okF Tryd.prog H0 51 48 = true := by kernel_rfl
theorem spec_Mul {m : Mem} {a b : Value} {l r : List Int} {n k : Int} (ha : IntsAt m a l) (hb : IntsAt m b r) (hl : l.length < 4611686018427387904) (hr : r.length < 4611686018427387904) : ∃ v m', ACalls Tryd.prog 51 #[a, .int .i64 n, b, .int .i64 k] m v m' ∧ (∃ w, v = .tuple #[w, nv (mulE l n r k)] ∧ OwnF m.size m' w (ofs (ifOk (mulE l n r k) (mulM (nats l) (nats r)) [])) ∧ Ext m m') := by
  obtain ⟨m9, h9, k9⟩ := spec_Check (n := n) ha hl
  obtain ⟨m23, h23, k23⟩ := spec_Check (n := k) (hb.ext k9) hr
  obtain ⟨q, cap, rfl⟩ := ha.len
  obtain ⟨q2, cap2, rfl⟩ := hb.len
  unfold mulE
  refine wpF (args := [_, _, _, _]) mixed okf51 (fn := Tryd.f51) rfl rfl rfl (by simp) ?_
  refine cSeq ?_
  refine cRegion ?_
  refine sAs (v := .slice _ _ _) rfl ?_
  refine sAs (v := nv 0) rfl ?_
  refine sNil (kSeqN ?_)
  refine cSeq ?_
  refine cSeq ?_
  refine cRegion ?_
  refine sMv (v := .slice _ _ _) rfl ?_
  refine sMv (v := .int _ _) rfl ?_
  refine sCall2 rfl call60 rfl rfl h9 ?_
  refine sAs (v := nv _) rfl ?_
  refine sNil (kSeqN ?_)
  refine cSeq ?_
  refine cRegion ?_
  refine sMv (v := nv _) rfl ?_
  refine sBin (a := checkF l n) rfl rfl (aInt_neq (b := 0)) ?_
  refine sNil (kSeqN ?_)
  refine cCond rfl (fun c0 => ?_) (fun c0 => ?_)
  ·
    refine cSeq ?_
    refine cRegion ?_
    refine sMv (v := nv _) rfl ?_
    refine sAs (v := .slice _ _ _) rfl ?_
    refine sAs (v := nv _) rfl ?_
    refine sNil (kSeqN ?_)
    refine cRet (kSeqR ?_)
    exact ⟨.inr rfl, _, rfl, _, by rw [if_neg c0]; rfl, by rw [if_neg c0, ifOk_n c0]; exact .nil _ _, k9⟩
  ·
    refine cSkip (kSeqN ?_)
    refine cSeq ?_
    refine cSeq ?_
    refine cRegion ?_
    refine sMv (v := .slice _ _ _) rfl ?_
    refine sMv (v := .int _ _) rfl ?_
    refine sCall2 rfl call60 rfl rfl h23 ?_
    refine sAs (v := nv _) rfl ?_
    refine sNil (kSeqN ?_)
    refine cSeq ?_
    refine cRegion ?_
    refine sMv (v := nv _) rfl ?_
    refine sBin (a := checkF r k) rfl rfl (aInt_neq (b := 0)) ?_
    refine sNil (kSeqN ?_)
    refine cCond rfl (fun c1 => ?_) (fun c1 => ?_)
    ·
      refine cSeq ?_
      refine cRegion ?_
      refine sMv (v := nv _) rfl ?_
      refine sAs (v := .slice _ _ _) rfl ?_
      refine sAs (v := nv _) rfl ?_
      refine sNil (kSeqN ?_)
      refine cRet (kSeqR ?_)
      exact ⟨.inr rfl, _, rfl, _, by rw [if_pos (Decidable.not_not.1 c0), if_neg c1]; rfl, by rw [if_pos (Decidable.not_not.1 c0), if_neg c1, ifOk_n c1]; exact .nil _ _, k9.trans k23⟩
    ·
      rw [if_pos (Decidable.not_not.1 c0), if_pos (Decidable.not_not.1 c1)]
      refine cSkip (kSeqN ?_)
      refine cSeq ?_   -- seq 9
      refine cSeq ?_
      refine cRegion ?_
      refine sMv (v := .slice _ _ _) rfl ?_
      refine sLen T22 rfl ?_
      refine sMv (v := .int _ _) rfl ?_
      refine sBinI (a := Int.ofNat r.length) rfl rfl aInt_neqI ?_
      refine sNil (kSeqN ?_)
      refine cCond (p := Int.ofNat r.length ≠ n) rfl (fun c2 => ?_) (fun c2 => ?_)
      ·
        refine cSeq ?_
        refine cRegion ?_
        refine sAs (v := .slice _ _ _) rfl ?_
        refine sAs (v := nv 7) rfl ?_
        refine sNil (kSeqN ?_)
        refine cRet (kSeqR ?_)
        exact ⟨.inr rfl, _, rfl, _, by rw [if_pos c2]; rfl, by rw [if_pos c2, ifOk_n (by decide)]; exact .nil _ _, k9.trans k23⟩
      ·
        rw [if_neg c2, ifOk_0 rfl]
        obtain ⟨N, L, rfl, rfl, hN1, hN2, hL1, hL2⟩ := checkF_nat (Decidable.not_not.1 c0)
        obtain ⟨N', R, rfl, rfl, hN1', hN2', hR1, hR2⟩ := checkF_nat (Decidable.not_not.1 c1)
        rw [nats_ofs, nats_ofs]
        have hE := k9.trans k23
        refine cSkip (kSeqN ?_)
        refine cSeq ?_
        refine cRegion ?_
        refine sMv (v := .slice _ _ _) rfl ?_
        obtain ⟨v32, m32, h32, k32, k32e⟩ := spec_Clone (ha.ext hE) (by rw [ofs_length]; omega)
        obtain ⟨q32, c32, rfl⟩ := k32.ints.lenN
        refine sCall1 rfl call18 rfl h32 ?_
        refine sAs (v := .slice _ _ _) rfl ?_
        refine sNil (kSeqN ?_)
        refine cSeq ?_
        refine cSeq ?_
        refine cRegion ?_
        refine sMv (v := .slice _ _ _) rfl ?_
        refine sLen T22 rfl ?_
        refine sMv (v := nv 0) rfl ?_
        refine sNil (kSeqN ?_)
        refine cBlock ?_
        refine wpC_loop (fun k ρ m' => ∃ i, k = L.length - i ∧ i ≤ L.length ∧ Low m23.size m32 m' ∧ OwnF m23.size m' (.slice q32 L.length c32) (ofs ((L.take i).map (total R) ++ L.drop i)) ∧ Has ρ [(2, .slice q2 (ofs R).length cap2), (12, .slice q32 L.length c32), (33, .slice q32 L.length c32), (34, nv L.length), (35, nv i)]) ⟨0, rfl, by omega, .refl _ _, k32, rfl, rfl, rfl, rfl, rfl, trivial⟩ ?_
        rintro k ρ m' ⟨i, rfl, hi, hLo, hO, hh⟩
        rw [hh.env]; clear hh
        refine cSeq ?_
        refine cRegion ?_
        refine sBin rfl rfl (aInt_lss) ?_
        refine sNil (kSeqN ?_)
        refine cSeq ?_   -- seq 16
        refine cCond rfl (fun c3 => ?_) (fun c3 => ?_)
        ·
          have htot : ((L.take i).map (total R) ++ L.drop i).length = L.length := by simp; omega
          obtain ⟨b1, cp1, c1', e1, hb1, g1, hsz1, x1, hset⟩ := hO.at (by rw [ofs_length, htot]; omega)
          rw [ofs_length, htot] at hset hsz1 e1
          cases e1
          have hget : ((L.take i).map (total R) ++ L.drop i)[i]? = some L[i] := by
            rw [List.getElem?_append_right (by simp; omega)]
            simp; rw [show i - min i L.length = 0 by omega, Nat.add_zero, List.getElem?_eq_getElem c3]
          have hLi := hL2 L[i] (List.getElem_mem c3)
          have h16 : 2 ^ N ≤ 2 ^ 16 := Nat.pow_le_pow_right (by omega) hN2
          refine cSkip (kSeqN ?_)
          refine cSeq ?_
          refine cBlock ?_
          refine cSeq ?_
          refine cRegion ?_
          refine sMv (v := nv _) rfl ?_
          refine sIx T22 S3 rfl rfl (by omega) ?_
          refine sLd (v := nv L[i]) A3 rfl g1 (x1 i (Int.ofNat L[i]) (ofs_get hget)) ?_
          refine sAs (v := nv _) rfl ?_
          refine sAs (v := nv _) rfl ?_
          refine sNil (kSeqN ?_)
          refine cRegion ?_
          refine sMv (v := .slice _ _ _) rfl ?_
          refine sMv (v := nv _) rfl ?_
          refine sMv (v := nv _) rfl ?_
          refine sMv (v := .slice _ _ _) rfl ?_
          obtain ⟨v44, m44, h44, rfl, k44⟩ := spec_product (w := L[i]) ((hb.ext hE).ext (hLo.to_ext k32e (Nat.le_refl _))) (by omega) (fun x hx => Nat.lt_of_lt_of_le (hR2 x hx) (Nat.pow_le_pow_right (by omega) (by omega))) (by omega)
          subst k44
          refine sCall2 rfl call77 rfl rfl h44 ?_
          refine sIx T22 S3 rfl rfl (by omega) ?_
          refine sSt (v := nv _) S3 rfl rfl g1 (by omega) rfl rfl ?_
          refine sNil (kBlkN (kSeqN ?_))
          refine cRegion ?_
          refine sBin rfl rfl (aInt_add (b := 1) (by omega)) ?_
          refine sMv (v := nv _) rfl ?_
          refine sNil (kSeqN ?_)
          refine ⟨_, ?_, i + 1, rfl, by omega, hLo.set' hb1 _, ?_, rfl, rfl, rfl, rfl, rfl, trivial⟩
          · omega
          · have := hset i (Int.ofNat (total R L[i])) c3
            rw [← ofs_set] at this
            have e2 : ((L.take i).map (total R) ++ L.drop i).set i (total R L[i]) = (L.take (i + 1)).map (total R) ++ L.drop (i + 1) := by
              rw [List.set_append_right _ _ (by simp; omega), List.take_succ_eq_append_getElem c3, List.map_append, List.append_assoc]
              congr 1
              rw [show i - (List.map (total R) (List.take i L)).length = 0 by simp; omega, List.drop_eq_getElem_cons c3]
              rfl
            rw [e2] at this
            exact this
        ·
          refine cExit (kSeqE (kSeqE (kBlkS (kSeqN ?_))))
          refine cSeq ?_
          refine cRegion ?_
          refine sMv (v := .slice _ _ _) rfl ?_
          refine sAs (v := .slice _ _ _) rfl ?_
          refine sAs (v := nv 0) rfl ?_
          refine sNil (kSeqN ?_)
          refine cRet ?_
          obtain rfl : i = L.length := by omega
          rw [List.take_length, List.drop_length, List.append_nil] at hO
          refine ⟨.inr rfl, _, rfl, _, rfl, ?_, hE.trans (hLo.to_ext k32e (Nat.le_refl _))⟩
          exact hO.mono hE.1

theorem okf53 : okF Tryd.prog H0 53 45 = true := by kernel_rfl
theorem spec_Invert {m : Mem} {a : Value} {l : List Int} {n : Int} (ha : IntsAt m a l) (hl : l.length < 4611686018427387904) : ∃ v m', ACalls Tryd.prog 53 #[a, .int .i64 n] m v m' ∧ (∃ w, v = .tuple #[w, nv (invE l n)] ∧ OwnF m.size m' w (ofs (ifOk (invE l n) (invL (nats l) n.toNat) [])) ∧ Ext m m') := by
  obtain ⟨m9, h9, k9⟩ := spec_Check (n := n) ha hl
  obtain ⟨q, cap, rfl⟩ := ha.len
  unfold invE
  refine wpF (args := [_, _]) mixed okf53 (fn := Tryd.f53) rfl rfl rfl (by simp) ?_
  refine cSeq ?_
  refine cRegion ?_
  refine sAs (v := .slice _ _ _) rfl ?_
  refine sAs (v := nv 0) rfl ?_
  refine sNil (kSeqN ?_)
  refine cScope ?_
  refine cSeq ?_
  refine cRegion ?_
  refine sMv (v := .slice _ _ _) rfl ?_
  refine sMv (v := .int _ _) rfl ?_
  refine sCall2 rfl call60 rfl rfl h9 ?_
  refine sAs (v := nv _) rfl ?_
  refine sNil (kSeqN ?_)
  refine cSeq ?_
  refine cBlock ?_
  refine cSeq ?_
  refine cRegion ?_
  refine sMv (v := nv _) rfl ?_
  refine sBin (a := checkF l n) rfl rfl (aInt_neq (b := 0)) ?_
  refine sAs (v := .bool _) rfl ?_
  refine sNil (kSeqN ?_)
  refine cCond rfl (fun c0 => ?_) (fun c0 => ?_)
  ·
    refine cSeq ?_
    refine cRegion ?_
    refine sMv (v := nv _) rfl ?_
    refine sAs (v := .slice _ _ _) rfl ?_
    refine sAs (v := nv _) rfl ?_
    refine sNil (kSeqN ?_)
    refine cRet (kBlkR (kSeqR ?_))
    exact ⟨.inr rfl, _, rfl, _, by rw [if_neg c0]; rfl, by rw [if_neg c0, ifOk_n c0]; exact .nil _ _, k9⟩
  ·
    have h0 := Decidable.not_not.1 c0
    rw [if_pos h0]
    refine cSeq ?_
    refine cRegion ?_
    refine sMv (v := .slice _ _ _) rfl ?_
    refine sLen T22 rfl ?_
    refine sMv (v := .int _ _) rfl ?_
    refine sBinI (a := Int.ofNat l.length) rfl rfl aInt_neqI ?_
    refine sAs (v := .bool _) rfl ?_
    refine sNil (kSeqN ?_)
    refine cCond (p := Int.ofNat l.length ≠ n) rfl (fun c1 => ?_) (fun c1 => ?_)
    ·
      refine cSeq ?_
      refine cRegion ?_
      refine sAs (v := .slice _ _ _) rfl ?_
      refine sAs (v := nv 7) rfl ?_
      refine sNil (kSeqN ?_)
      refine cRet (kBlkR (kSeqR ?_))
      exact ⟨.inr rfl, _, rfl, _, by rw [if_pos c1]; rfl, by rw [if_pos c1, ifOk_n (by decide)]; exact .nil _ _, k9⟩
    ·
      rw [if_neg c1]
      obtain ⟨N, L, rfl, rfl, hN1, hN2, hL1, hL2⟩ := checkF_nat h0
      have hL3 : ∀ x ∈ L, x < 2 ^ 24 := fun x hx => Nat.lt_of_lt_of_le (hL2 x hx) (Nat.pow_le_pow_right (by omega) (by omega))
      rw [nats_ofs, show (Int.ofNat N).toNat = N from rfl]
      refine cSkip (kBlkN (kSeqN ?_))
      refine cSeq ?_
      refine cRegion ?_
      refine sAs (v := .slice _ _ _) rfl ?_
      refine sNil (kSeqN ?_)
      refine cSeq ?_
      refine cLabel (kSeqN ?_)
      refine cSeq ?_
      refine cSeq ?_
      refine cRegion ?_
      refine sMv (v := nv N) rfl ?_
      refine sMv (v := nv 0) rfl ?_
      refine sNil (kSeqN ?_)
      refine cBlock ?_
      refine wpC_loop (fun k ρ m' => ∃ i v, k = N - i ∧ i ≤ N ∧ (∀ j, j < i → (whichM L (2 ^ j)).1 = 0) ∧ Low m9.size m9 m' ∧ OwnF m9.size m' v (ofs ((List.range i).map fun k => (whichM L (2 ^ k)).2)) ∧ Has ρ [(0, .slice q (ofs L).length cap), (1, nv N), (7, v), (23, nv N), (24, nv i)]) ⟨0, _, rfl, by omega, by omega, .refl _ _, .nil _ _, rfl, rfl, rfl, rfl, rfl, trivial⟩ ?_
      rintro k ρ m' ⟨i, v, rfl, hi, hall, hLo, hO, hh⟩
      obtain ⟨qv, cv, rfl⟩ := hO.ints.len
      rw [hh.env]; clear hh
      refine cSeq ?_
      refine cRegion ?_
      refine sBin rfl rfl (aInt_lss) ?_
      refine sNil (kSeqN ?_)
      refine cSeq ?_   -- seq 12
      refine cCond rfl (fun c2 => ?_) (fun c2 => ?_)
      ·
        have h2i : 2 ^ i ≤ 2 ^ 15 := Nat.pow_le_pow_right (by omega) (by omega)
        obtain ⟨v31, m31, h31, rfl, k31⟩ := spec_which (row := 1 <<< i) ((ha.ext k9).ext (hLo.to_ext (.refl _) (Nat.le_refl _))) (by omega) hL3 (by rw [Nat.shiftLeft_eq]; omega)
        rw [show 1 <<< i = 2 ^ i by rw [Nat.shiftLeft_eq, Nat.one_mul]] at h31
        refine cSkip (kSeqN ?_)
        refine cSeq ?_
        refine cBlock ?_
        refine cSeq ?_
        refine cRegion ?_
        refine sMv (v := nv _) rfl ?_
        refine sAs (v := nv _) rfl ?_
        refine sNil (kSeqN ?_)
        refine cSeq ?_
        refine cRegion ?_
        refine sMv (v := .slice _ _ _) rfl ?_
        refine sMv (v := nv _) rfl ?_
        refine sBin (v := nv (2 ^ i)) rfl rfl (by rw [← show 1 <<< i = 2 ^ i by rw [Nat.shiftLeft_eq, Nat.one_mul]]; exact aInt_shl (a := 1) (by omega)) ?_
        refine sCall2 rfl call74 rfl rfl h31 ?_
        refine sMv (v := .tuple _) rfl ?_
        refine sP (v := nv _) rfl ?_   -- extract ['t27', '0']
        refine sP (v := .bool _) rfl ?_   -- extract ['t27', '1']
        refine sAs (v := nv _) rfl ?_
        refine sAs (v := .bool _) rfl ?_
        refine sNil (kSeqN ?_)
        refine cSeq ?_   -- seq 16
        refine cSeq ?_
        refine cRegion ?_
        refine sMv (v := .bool _) rfl ?_
        refine sP (v := .bool (!decide ((splitM (sysM L) 24 (2 ^ i, 0)).1 = 0))) rfl ?_
        refine sNil (kSeqN ?_)
        refine cCond (p := ¬ (splitM (sysM L) 24 (2 ^ i, 0)).1 = 0) (by show Value.bool (!decide _) = _; rw [← decide_not]) (fun c3 => ?_) (fun c3 => ?_)
        ·
          refine cSeq ?_
          refine cRegion ?_
          refine sAs (v := .slice _ _ _) rfl ?_
          refine sNil (kSeqN ?_)
          refine cExit (kSeqE (kBlkE (by decide) (kSeqE (kSeqE (kBlkS (kSeqN ?_))))))
          refine cSeq ?_   -- seq 19
          refine cSeq ?_
          refine cRegion ?_
          refine sMv (v := .slice _ _ _) rfl ?_
          refine sLen T22 rfl ?_
          refine sBin rfl rfl (aInt_eql (b := 0)) ?_
          refine sNil (kSeqN ?_)
          refine cCondT' rfl rfl ?_
          refine cSeq ?_
          refine cRegion ?_
          refine sAs (v := .slice _ _ _) rfl ?_
          refine sAs (v := nv 6) rfl ?_
          refine sNil (kSeqN ?_)
          refine cRet (kSeqR ?_)
          have hno : invOk L N = false := by
            rw [invOk, List.all_eq_false]
            exact ⟨i, List.mem_range.2 c2, fun h => c3 (of_decide_eq_true h)⟩
          exact ⟨.inr rfl, _, rfl, _, by rw [hno]; rfl, by rw [hno]; exact .nil _ _, (k9.trans (hLo.to_ext (.refl _) (Nat.le_refl _))).trans k31⟩
        ·
          refine cSkip (kSeqN ?_)
          refine cRegion ?_
          refine sMv (v := .slice _ _ _) rfl ?_
          refine sMv (v := nv _) rfl ?_
          refine sBuildS T22 S3 Z3 (by decide) (by decide) (by decide) (by kernel_rfl) fill1 rfl ?_
          refine sApp App22 rfl rfl ((hO.ext k31).ext (.push _ _)) one_ints (by have := hLo.1; have := k31.1; simp; omega) (by simp; omega) fun v3 m3 hO3 hL3' => ?_
          have hO4 : OwnF m9.size m3 v3 (ofs ((List.range (i + 1)).map fun k => (whichM L (2 ^ k)).2)) := by
            rw [List.range_succ, List.map_append, ofs_append]; exact hO3
          obtain ⟨q3, cp3, rfl⟩ := hO4.ints.len
          refine sAs (v := .slice _ _ _) rfl ?_
          refine sNil (kBlkN (kSeqN ?_))
          refine cRegion ?_
          refine sBin rfl rfl (aInt_add (b := 1) (by omega)) ?_
          refine sMv (v := nv _) rfl ?_
          refine sNil (kSeqN ?_)
          refine ⟨_, ?_, i + 1, _, rfl, by omega, ?_, (hLo.trans_ext (k31.push' _) hLo.1).trans hL3', hO4, rfl, rfl, rfl, rfl, rfl, trivial⟩
          · omega
          · intro j hj
            by_cases hji : j < i
            · exact hall j hji
            · obtain rfl : j = i := by omega
              exact Decidable.not_not.1 c3
      ·
        obtain rfl : i = N := by omega
        have hyes : invOk L i = true := by
          rw [invOk, List.all_eq_true]
          intro j hj
          simpa using hall j (by simpa using hj)
        rw [hyes]
        refine cExit (kSeqE (kSeqE (kBlkS (kSeqN ?_))))
        refine cSeq ?_   -- seq 22
        refine cSeq ?_
        refine cRegion ?_
        refine sMv (v := .slice _ _ _) rfl ?_
        refine sLen T22 rfl ?_
        refine sBin rfl rfl (aInt_eql (b := 0)) ?_
        refine sNil (kSeqN ?_)
        refine cCond rfl (fun c5 => ?_) (fun c5 => ?_)
        ·
          refine cSeq ?_
          refine cRegion ?_
          refine sAs (v := .slice _ _ _) rfl ?_
          refine sAs (v := nv 6) rfl ?_
          refine sNil (kSeqN ?_)
          refine cRet (kSeqR ?_)
          exact absurd c5 (by simp; omega)
        ·
          refine cSkip (kSeqN ?_)
          refine cSeq ?_
          refine cRegion ?_
          refine sMv (v := .slice _ _ _) rfl ?_
          refine sAs (v := .slice _ _ _) rfl ?_
          refine sAs (v := nv 0) rfl ?_
          refine sNil (kSeqN ?_)
          refine cRet ?_
          exact ⟨.inr rfl, _, rfl, _, rfl, hO.mono k9.1, k9.trans (hLo.to_ext (.refl _) (Nat.le_refl _))⟩

end Go.AM
