/- Contracts of the package bits (part 3 of 3), and the examples that each statement checks. -/
import Derived.Test.YtgiidbomifmcaaaDoorBitsB
import Derived.Test.YtgiidbomifmcaaaDoorPlain
import Derived.Test.YtgiidbomifmcaaaDoorWalks
import Derived.Test.YtgiidbomifmcaaaDoorFacts
set_option linter.unusedVariables false
set_option linter.unusedSimpArgs false
/-! ### E18 -/
namespace Go.AM
open Go.Proofs
set_option maxRecDepth 100000
set_option linter.unusedVariables false
set_option linter.unusedSimpArgs false
theorem conv98_3 {a : Nat} (h : a < 9223372036854775808) : aConv Tryd.prog 98 3 (.int .u64 (Int.ofNat a)) = some (nv a) := by
  have h1 : undOf Tryd.prog 98 = some (.int .u64) := by kernel_rfl
  have h2 : undOf Tryd.prog 3 = some (.int .i64) := by kernel_rfl
  simp only [aConv, h1, h2]
  rw [wrapN (by omega)]
theorem call81 : callable Tryd.prog 81 = true := by kernel_rfl
theorem call108 : callable Tryd.prog 108 = true := by kernel_rfl
theorem call110 : callable Tryd.prog 110 = true := by kernel_rfl
theorem call117 : callable Tryd.prog 117 = true := by kernel_rfl
theorem sumU {x : Nat} (h : s1 x < 2 ^ 64) : (x >>> 1 &&& 6148914691236517205) + (x &&& 6148914691236517205) < 18446744073709551616 := h
theorem sumU2 {x : Nat} (h : s2 x < 2 ^ 64) : (x >>> 2 &&& 3689348814741910323) + (x &&& 3689348814741910323) < 18446744073709551616 := h

theorem okf108 : okF Tryd.prog H0 108 35 = true := by kernel_rfl
theorem spec_Ones64 {m : Mem} {x : Nat} (hx : x < 2 ^ 64) : ∃ v m', ACalls Tryd.prog 108 #[.int .u64 (Int.ofNat x)] m v m' ∧ (v = nv (popc x) ∧ m' = m) := by
  obtain ⟨a, b, c, d, e, f, g, h, hs, ha, hb, hc, hd, he, hf, hg, hh, hsum, l1, l2, l3⟩ := s123 hx
  obtain ⟨y1, y2, y3, e1, e2, e3, b1, b2, b3, hand⟩ := s456 ha hb hc hd he hf hg hh
  rw [← hs] at e1
  have hx1 := Nat.shiftRight_le x 1
  have hs1 := Nat.shiftRight_le (s1 x) 2
  have hs2 := Nat.shiftRight_le (s2 (s1 x)) 4
  have hs3 := Nat.shiftRight_le (s3 (s2 (s1 x))) 8
  have hs4 := Nat.shiftRight_le y1 16
  have hs5 := Nat.shiftRight_le y2 32
  have hm3 : s3 (s2 (s1 x)) < 2 ^ 64 := Nat.lt_of_le_of_lt Nat.and_le_left l3
  refine wpF (args := [_]) mixed okf108 (fn := Tryd.f108) rfl rfl rfl (by simp) ?_
  refine cSeq ?_
  refine cRegion ?_
  refine sAs (v := nv 0) rfl ?_
  refine sNil (kSeqN ?_)
  refine cSeq ?_
  refine cRegion ?_
  refine sMv (v := .int _ _) rfl ?_
  refine sBinI (a := Int.ofNat x) (b := Int.ofNat 1) rfl rfl (aInt_shrU (by omega)) ?_
  refine sBinI (a := Int.ofNat (x >>> 1)) (b := Int.ofNat 6148914691236517205) rfl rfl (aInt_andU (by omega)) ?_
  refine sMv (v := .int _ _) rfl ?_
  refine sBinI (a := Int.ofNat x) (b := Int.ofNat 6148914691236517205) rfl rfl (aInt_andU (by omega)) ?_
  refine sBinI (v := .int .u64 (Int.ofNat (s1 x))) rfl rfl (aInt_addU (sumU l1)) ?_
  refine sAs (v := .int _ _) rfl ?_
  refine sNil (kSeqN ?_)
  refine cSeq ?_
  refine cRegion ?_
  refine sMv (v := .int _ _) rfl ?_
  refine sBinI (a := Int.ofNat (s1 x)) (b := Int.ofNat 2) rfl rfl (aInt_shrU (by omega)) ?_
  refine sBinI (a := Int.ofNat (s1 x >>> 2)) (b := Int.ofNat 3689348814741910323) rfl rfl (aInt_andU (by omega)) ?_
  refine sMv (v := .int _ _) rfl ?_
  refine sBinI (a := Int.ofNat (s1 x)) (b := Int.ofNat 3689348814741910323) rfl rfl (aInt_andU (by omega)) ?_
  refine sBinI (v := .int .u64 (Int.ofNat (s2 (s1 x)))) rfl rfl (aInt_addU (sumU2 l2)) ?_
  refine sAs (v := .int _ _) rfl ?_
  refine sNil (kSeqN ?_)
  refine cSeq ?_
  refine cRegion ?_
  refine sMv (v := .int _ _) rfl ?_
  refine sBinI (a := Int.ofNat (s2 (s1 x))) (b := Int.ofNat 4) rfl rfl (aInt_shrU (by omega)) ?_
  refine sMv (v := .int _ _) rfl ?_
  refine sBinI (a := Int.ofNat (s2 (s1 x) >>> 4)) (b := Int.ofNat (s2 (s1 x))) rfl rfl (aInt_addU l3) ?_
  refine sBinI (v := .int .u64 (Int.ofNat (s3 (s2 (s1 x))))) (a := Int.ofNat (s2 (s1 x) >>> 4 + s2 (s1 x))) (b := Int.ofNat 1085102592571150095) rfl rfl (aInt_andU ⟨l3, by omega⟩) ?_
  refine sAs (v := .int _ _) rfl ?_
  refine sNil (kSeqN ?_)
  refine cSeq ?_
  refine cRegion ?_
  refine sMv (v := .int _ _) rfl ?_
  refine sMv (v := .int _ _) rfl ?_
  refine sBinI (a := Int.ofNat (s3 (s2 (s1 x)))) (b := Int.ofNat 8) rfl rfl (aInt_shrU hm3) ?_
  refine sBinI (a := Int.ofNat (s3 (s2 (s1 x)))) (b := Int.ofNat (s3 (s2 (s1 x)) >>> 8)) rfl rfl (aInt_addU (by omega)) ?_
  rw [e1]
  refine sAs (v := .int _ _) rfl ?_
  refine sNil (kSeqN ?_)
  refine cSeq ?_
  refine cRegion ?_
  refine sMv (v := .int _ _) rfl ?_
  refine sMv (v := .int _ _) rfl ?_
  refine sBinI (a := Int.ofNat y1) (b := Int.ofNat 16) rfl rfl (aInt_shrU (by omega)) ?_
  refine sBinI (a := Int.ofNat y1) (b := Int.ofNat (y1 >>> 16)) rfl rfl (aInt_addU (by omega)) ?_
  rw [e2]
  refine sAs (v := .int _ _) rfl ?_
  refine sNil (kSeqN ?_)
  refine cSeq ?_
  refine cRegion ?_
  refine sMv (v := .int _ _) rfl ?_
  refine sMv (v := .int _ _) rfl ?_
  refine sBinI (a := Int.ofNat y2) (b := Int.ofNat 32) rfl rfl (aInt_shrU (by omega)) ?_
  refine sBinI (a := Int.ofNat y2) (b := Int.ofNat (y2 >>> 32)) rfl rfl (aInt_addU (by omega)) ?_
  rw [e3]
  refine sAs (v := .int _ _) rfl ?_
  refine sNil (kSeqN ?_)
  refine cSeq ?_
  refine cRegion ?_
  refine sMv (v := .int _ _) rfl ?_
  refine sP (v := nv y3) (conv98_3 (by omega)) ?_
  refine sBin (b := 127) rfl rfl (aInt_and (by omega)) ?_
  rw [hand, hsum]
  refine sAs (v := nv _) rfl ?_
  refine sNil (kSeqN ?_)
  refine cRet ?_
  exact ⟨.inr rfl, _, rfl, rfl, rfl⟩

theorem okf81 : okF Tryd.prog H0 81 8 = true := by kernel_rfl
theorem spec_OnesCount {m : Mem} {x : Nat} (hx : x < 2 ^ 64) : ∃ v m', ACalls Tryd.prog 81 #[.int .u64 (Int.ofNat x)] m v m' ∧ (v = nv (popc x) ∧ m' = m) := by
  refine wpF (args := [_]) mixed okf81 (fn := Tryd.f81) rfl rfl rfl (by simp) ?_
  refine cSeq ?_
  refine cRegion ?_
  refine sAs (v := nv 0) rfl ?_
  refine sNil (kSeqN ?_)
  refine cSeq ?_   -- seq 1
  refine cCondF rfl ?_
  refine cSkip (kSeqN ?_)
  refine cSeq ?_
  refine cRegion ?_
  refine sMv (v := .int _ _) rfl ?_
  obtain ⟨v7, m7, h7, rfl, k7⟩ := spec_Ones64 (m := m) hx
  refine sCall1 rfl call108 rfl h7 ?_
  refine sAs (v := nv _) rfl ?_
  refine sNil (kSeqN ?_)
  refine cRet ?_
  exact ⟨.inr rfl, _, rfl, rfl, k7⟩

theorem okf117 : okF Tryd.prog H0 117 14 = true := by kernel_rfl
theorem spec_TZ64 {m : Mem} {x : Nat} (hG : Glob m) (h0 : x ≠ 0) (hx : x < 2 ^ 64) : ∃ v m', ACalls Tryd.prog 117 #[.int .u64 (Int.ofNat x)] m v m' ∧ (v = nv (tzF 64 x) ∧ m' = m) := by
  obtain ⟨t1, t2⟩ := tz_ok h0 hx
  obtain ⟨_, r2, hdeb⟩ := hG
  obtain ⟨_, htz⟩ := low_bit 64 x h0 hx
  have hT114 : undOf Tryd.prog 114 = some (.array 64 5) := T114
  refine wpF (args := [_]) mixed okf117 (fn := Tryd.f117) rfl rfl rfl (by simp) ?_
  refine cSeq ?_
  refine cRegion ?_
  refine sAs (v := nv 0) rfl ?_
  refine sNil (kSeqN ?_)
  refine cSeq ?_   -- seq 1
  refine cSeq ?_
  refine cRegion ?_
  refine sMv (v := .int _ _) rfl ?_
  refine sBinI (a := Int.ofNat x) (b := Int.ofNat 0) rfl rfl aInt_eqlI ?_
  refine sNil (kSeqN ?_)
  refine cCondF' rfl (by simp; omega) ?_
  refine cSkip (kSeqN ?_)
  refine cSeq ?_
  refine cRegion ?_
  refine sMv (v := .int _ _) rfl ?_
  refine sMv (v := .int _ _) rfl ?_
  refine sP (v := .int .u64 (Int.ofNat (18446744073709551616 - x))) (by show some (Value.int .u64 (IntKind.u64.wrap (0 - Int.ofNat x))) = _; congr 2; simp [IntKind.wrap, IntKind.bits, IntKind.signed]; omega) ?_
  refine sBinI (a := Int.ofNat x) (b := Int.ofNat (18446744073709551616 - x)) rfl rfl (aInt_andU (by omega)) ?_
  refine sBinI (a := Int.ofNat (x &&& (18446744073709551616 - x))) (b := Int.ofNat 285870213051353865) rfl rfl aInt_mulU ?_
  refine sBinI (v := .int .u64 (Int.ofNat (tzIx x))) (a := Int.ofNat ((x &&& (18446744073709551616 - x)) * 285870213051353865 % 18446744073709551616)) (b := Int.ofNat 58) rfl rfl (aInt_shrU (Nat.mod_lt _ (by decide))) ?_
  refine sIxAK (i := tzIx x) hT114 S5 rfl rfl t1 ?_
  refine sLd (v := .int .u8 (Int.ofNat (tzF 64 x))) A5 rfl hdeb (by rw [Nat.zero_add, Nat.mul_one]; simp only [cellsB, List.getElem?_toArray, List.getElem?_map]; rw [show deB = deBL from rfl, t2]; rfl) ?_
  refine sP (v := nv (tzF 64 x)) (conv5_3 (by omega)) ?_
  refine sAs (v := nv _) rfl ?_
  refine sNil (kSeqN ?_)
  refine cRet ?_
  exact ⟨.inr rfl, _, rfl, rfl, rfl⟩

theorem okf110 : okF Tryd.prog H0 110 8 = true := by kernel_rfl
theorem spec_TZ {m : Mem} {x : Nat} (hG : Glob m) (h0 : x ≠ 0) (hx : x < 2 ^ 64) : ∃ v m', ACalls Tryd.prog 110 #[.int .u64 (Int.ofNat x)] m v m' ∧ (v = nv (tzF 64 x) ∧ m' = m) := by
  refine wpF (args := [_]) mixed okf110 (fn := Tryd.f110) rfl rfl rfl (by simp) ?_
  refine cSeq ?_
  refine cRegion ?_
  refine sAs (v := nv 0) rfl ?_
  refine sNil (kSeqN ?_)
  refine cSeq ?_   -- seq 1
  refine cCondF rfl ?_
  refine cSkip (kSeqN ?_)
  refine cSeq ?_
  refine cRegion ?_
  refine sMv (v := .int _ _) rfl ?_
  obtain ⟨v7, m7, h7, rfl, k7⟩ := spec_TZ64 hG h0 hx
  refine sCall1 rfl call117 rfl h7 ?_
  refine sAs (v := nv _) rfl ?_
  refine sNil (kSeqN ?_)
  refine cRet ?_
  exact ⟨.inr rfl, _, rfl, rfl, k7⟩

theorem okf27 : okF Tryd.prog H0 27 9 = true := by kernel_rfl
theorem spec_Weight {m : Mem} {x : Int} (hx : x < 9223372036854775808) : ∃ v m', ACalls Tryd.prog 27 #[.int .i64 x] m v m' ∧ (v = .tuple #[nv (if x < 0 then 0 else popc x.toNat), nv (if x < 0 then 3 else 0)] ∧ m' = m) := by
  refine wpF (args := [_]) mixed okf27 (fn := Tryd.f27) rfl rfl rfl (by simp) ?_
  refine cSeq ?_
  refine cRegion ?_
  refine sAs (v := nv 0) rfl ?_
  refine sAs (v := nv 0) rfl ?_
  refine sNil (kSeqN ?_)
  refine cSeq ?_   -- seq 1
  refine cSeq ?_
  refine cRegion ?_
  refine sMv (v := .int _ _) rfl ?_
  refine sBinI (v := .bool (decide (x < 0))) rfl rfl rfl ?_
  refine sNil (kSeqN ?_)
  refine cCond rfl (fun c0 => ?_) (fun c0 => ?_)
  ·
    refine cSeq ?_
    refine cRegion ?_
    refine sAs (v := nv 0) rfl ?_
    refine sAs (v := nv 3) rfl ?_
    refine sNil (kSeqN ?_)
    refine cRet (kSeqR ?_)
    exact ⟨.inr rfl, _, rfl, by rw [if_pos c0, if_pos c0]; rfl, rfl⟩
  ·
    obtain ⟨y, rfl⟩ : ∃ y : Nat, x = Int.ofNat y := ⟨x.toNat, by simp; omega⟩
    have hy : y < 9223372036854775808 := by simp at hx; omega
    rw [if_neg c0, if_neg c0]
    refine cSkip (kSeqN ?_)
    refine cSeq ?_
    refine cRegion ?_
    refine sMv (v := nv y) rfl ?_
    refine sP (v := .int .u64 (Int.ofNat y)) (conv3_55 (by omega)) ?_
    obtain ⟨v8, m8, h8, rfl, k8⟩ := spec_OnesCount (m := m) (x := y) (by omega)
    refine sCall1 rfl call81 rfl h8 ?_
    refine sAs (v := nv _) rfl ?_
    refine sAs (v := nv 0) rfl ?_
    refine sNil (kSeqN ?_)
    refine cRet ?_
    exact ⟨.inr rfl, _, rfl, rfl, k8⟩

end Go.AM

/-! ### E19 -/
namespace Go.AM
open Go.Proofs
set_option maxRecDepth 100000
set_option linter.unusedVariables false
set_option linter.unusedSimpArgs false
/-- From one sum to the next one a single row comes or goes. -/
def rowG (L : List Nat) (r0 : Nat) : Nat → Nat
  | 0 => r0
  | i + 1 => rowG L r0 i ^^^ L.getD (tzF 64 (i + 1)) 0
theorem rowG_lt {L : List Nat} {r0 n : Nat} (h0 : r0 < 2 ^ n) (hL : ∀ x ∈ L, x < 2 ^ n) : ∀ i, rowG L r0 i < 2 ^ n
  | 0 => h0
  | i + 1 => by
    rw [rowG]
    refine Nat.xor_lt_two_pow (rowG_lt h0 hL i) ?_
    by_cases hj : tzF 64 (i + 1) < L.length
    · exact hL _ (getD_mem hj)
    · rw [getD_out (by omega)]; exact Nat.two_pow_pos n
theorem tz_lt {i k : Nat} (h0 : i ≠ 0) (h : i < 2 ^ k) (hk : k ≤ 64) : tzF 64 i < k := by
  have h64 : i < 2 ^ 64 := Nat.lt_of_lt_of_le h (Nat.pow_le_pow_right (by omega) hk)
  obtain ⟨h1, h2⟩ := low_bit 64 i h0 h64
  have h3 : 2 ^ tzF 64 i ≤ i := by rw [← h1]; exact Nat.and_le_left
  exact (Nat.pow_lt_pow_iff_right (by omega)).1 (Nat.lt_of_le_of_lt h3 h)
theorem call82 : callable Tryd.prog 82 = true := by kernel_rfl
theorem call109 : callable Tryd.prog 109 = true := by kernel_rfl

def H109 : Nat → List (Nat × Nat) := fun id => if id = 4 then [(0, 5), (1, 5)] else []
theorem okf109 : okF Tryd.prog H109 109 26 = true := by kernel_rfl
theorem spec_members1 {m : Mem} {lp pl prow r0 : Nat} {L : List Nat} {sl : Value} {rl : Bool} {J : Nat → Mem → Prop} (hL : L.length ≤ 24) (hLx : ∀ x ∈ L, x < 2 ^ 62) (hr0x : r0 < 2 ^ 62)
      (hview : ∀ i m', J i m' → Glob m' ∧ Mem.get m' pl = .cells rl #[sl] ∧ IntsAt m' sl (ofs L))
      (hst : ∀ i m' v, J i m' → J i (m'.setIfInBounds prow (.cells true #[v]))) (hpl : pl ≠ prow)
      (hJ : ∀ i m', i < 2 ^ L.length → J i m' → Mem.get m' prow = .cells true #[nv (rowG L r0 i)] → ∃ m'', ARound Tryd.prog lp #[nv (rowG L r0 i)] m' (.bool true) m'' ∧ J (i + 1) m'' ∧ Mem.get m'' prow = .cells true #[nv (rowG L r0 i)])
      (h0 : J 0 m) (hrow : Mem.get m prow = .cells true #[nv r0]) :
      ∃ v m', ACalls Tryd.prog 109 #[.func (.yield lp) #[] #[], .pointer (some ⟨pl, 0, none⟩), .pointer (some ⟨prow, 0, none⟩)] m v m' ∧ J (2 ^ L.length) m' := by
  have h2 : 2 ^ L.length ≤ 2 ^ 24 := Nat.pow_le_pow_right (by omega) hL
  obtain ⟨hG, gpl, hI⟩ := hview 0 m h0
  obtain ⟨qs, cs, rfl⟩ := hI.lenN
  refine wpF (args := [_, _, _]) mixed okf109 (fn := Tryd.f109) rfl rfl rfl (by simp) ?_
  refine cSeq ?_
  refine cRegion ?_
  refine sLd A22 rfl (by simp (disch := first | omega | (simp only [Array.size_push, Array.size_setIfInBounds]; done) | (simp only [Array.size_push, Array.size_setIfInBounds]; omega)) only [gP, gPn, gS, gSn, gpl]; try rfl) rfl ?_
  refine sLen T22 rfl ?_
  refine sBin rfl rfl (aInt_shl (a := 1) (by omega)) ?_
  rw [Nat.shiftLeft_eq, Nat.one_mul]
  refine sMv (v := nv 0) rfl ?_
  refine sNil (kSeqN ?_)
  refine cBlock ?_
  refine wpC_loop (fun k ρ m' => ∃ i, k = 2 ^ L.length - i ∧ i ≤ 2 ^ L.length ∧ J i m' ∧ Mem.get m' prow = .cells true #[nv (rowG L r0 (i - 1))] ∧ Has ρ [(0, .func (.yield lp) #[] #[]), (1, .pointer (some ⟨pl, 0, none⟩)), (2, .pointer (some ⟨prow, 0, none⟩)), (7, nv (2 ^ L.length)), (8, nv i)]) ⟨0, rfl, Nat.zero_le _, h0, hrow, rfl, rfl, rfl, rfl, rfl, trivial⟩ ?_
  rintro k ρ m' ⟨i, rfl, hi, hJi, g1, hh⟩
  rw [hh.env]; clear hh
  obtain ⟨hG', gpl', hI'⟩ := hview i m' hJi
  have hlt := rowG_lt hr0x hLx (i - 1)
  have hpm := live g1
  refine cSeq ?_
  refine cRegion ?_
  refine sBin rfl rfl (aInt_lss) ?_
  refine sNil (kSeqN ?_)
  refine cSeq ?_   -- seq 2
  refine cCond rfl (fun c0 => ?_) (fun c0 => ?_)
  ·
    refine cSkip (kSeqN ?_)
    refine cSeq ?_
    refine cBlock ?_
    refine cSeq ?_
    refine cRegion ?_
    refine sMv (v := nv _) rfl ?_
    refine sAs (v := nv _) rfl ?_
    refine sNil (kSeqN ?_)
    refine cCut (fun ρ m2 => J i m2 ∧ Mem.get m2 prow = .cells true #[nv (rowG L r0 i)] ∧ Has ρ [(0, .func (.yield lp) #[] #[]), (1, .pointer (some ⟨pl, 0, none⟩)), (2, .pointer (some ⟨prow, 0, none⟩)), (7, nv (2 ^ L.length)), (8, nv i)]) ?_ ?_
    ·
      refine cSeq ?_
      refine cRegion ?_
      refine sMv (v := nv _) rfl ?_
      refine sBin rfl rfl (aInt_gtr (b := 0)) ?_
      refine sNil (kSeqN ?_)
      refine cCond rfl (fun c1 => ?_) (fun c1 => ?_)
      ·
        obtain ⟨j, rfl⟩ : ∃ j, i = j + 1 := ⟨i - 1, by omega⟩
        rw [Nat.add_sub_cancel] at *
        have htz := tz_lt (i := j + 1) (k := L.length) (by omega) c0 (by omega)
        obtain ⟨b1, o1, p1, r1, c1', e1', gl, x1⟩ := hI'.atN (by omega)
        cases e1'
        have hg : L[tzF 64 (j + 1)]? = some (L.getD (tzF 64 (j + 1)) 0) := by rw [List.getD_eq_getElem?_getD, List.getElem?_eq_getElem htz]; rfl
        have hLj := hLx _ (getD_mem htz)
        refine cDrawH (hs := [(0, 5), (1, 5)]) rfl (by decide) ?_
        refine lStepLd (v := nv (rowG L r0 j)) A3 rfl (by simp (disch := first | omega | (simp only [Array.size_push, Array.size_setIfInBounds]; done) | (simp only [Array.size_push, Array.size_setIfInBounds]; omega)) only [gP, gPn, gS, gSn, g1, gpl']; try rfl) rfl fun e0 hm0 hv0 hr0 => ?_
        refine lStepLd (v := .slice (some ⟨b1, o1, some 1⟩) L.length cs) A22 rfl (by simp (disch := first | omega | (simp only [Array.size_push, Array.size_setIfInBounds]; done) | (simp only [Array.size_push, Array.size_setIfInBounds]; omega)) only [gP, gPn, gS, gSn, g1, gpl']; try rfl) rfl fun e1 hm1 hv1 hr1 => ?_
        refine lStepO (sMv (v := nv _) rfl (sNil fun e2 hm2 => ?_))
        refine lStepO (sP (v := .int .u64 (Int.ofNat (j + 1))) (conv3_55 (by omega)) (sNil fun e3 hm3 => ?_))
        obtain ⟨v17, m17, h17, rfl, k17⟩ := spec_TZ hG' (x := j + 1) (by omega) (by omega)
        subst k17
        refine lStepO (sCall1 rfl call110 rfl h17 (sNil fun e4 hm4 => ?_))
        refine lStepO (sIx T22 S3 rfl rfl htz (sNil fun e5 hm5 => ?_))
        refine lStepLd A3 rfl gl (x1 _ _ hg) fun e6 hm6 hv6 hr6 => ?_
        refine lStepO (sBin rfl rfl (aInt_xor (by omega)) (sNil fun e7 hm7 => ?_))
        refine lStepO (sSt (v := nv (rowG L r0 (j + 1))) S3 rfl rfl (by simp (disch := first | omega | (simp only [Array.size_push, Array.size_setIfInBounds]; done) | (simp only [Array.size_push, Array.size_setIfInBounds]; omega)) only [gP, gPn, gS, gSn, g1, gpl']; try rfl) (by simp) rfl rfl (sNil fun e8 hm8 => ?_))
        refine ⟨?_, (kSeqN ?_)⟩
        ·
          refine obl_atE (e := e0) (e' := e5) (by simp) (by rfl) (by simp) ((hr0 e5.m _ _ (by rw [hm5]; simp (disch := first | omega | (simp only [Array.size_push, Array.size_setIfInBounds]; done) | (simp only [Array.size_push, Array.size_setIfInBounds]; omega)) only [gP, gPn, gS, gSn, g1, gpl']; try rfl) (by rfl)).trans (congrArg some hv0.symm)) ?_
          refine obl_atE (e := e1) (e' := e5) (by simp) (by rfl) (by simp) ((hr1 e5.m _ _ (by rw [hm5]; simp (disch := first | omega | (simp only [Array.size_push, Array.size_setIfInBounds]; done) | (simp only [Array.size_push, Array.size_setIfInBounds]; omega)) only [gP, gPn, gS, gSn, g1, gpl']; try rfl) (by rfl)).trans (congrArg some hv1.symm)) ?_
          trivial
        exact ⟨hst _ _ _ hJi, gS rfl hpm, rfl, rfl, rfl, rfl, rfl, trivial⟩
      ·
        obtain rfl : i = 0 := by omega
        refine cSkip (kSeqN ?_)
        exact ⟨hJi, g1, rfl, rfl, rfl, rfl, rfl, trivial⟩
    rintro ρ m2 ⟨hJ2, g2, hh⟩
    rw [hh.env]; clear hh
    refine cSeq ?_
    refine cRegion ?_
    refine sMv (v := .func _ _ _) rfl ?_
    refine sLd (v := nv (rowG L r0 i)) A3 rfl (by simp (disch := first | omega | (simp only [Array.size_push, Array.size_setIfInBounds]; done) | (simp only [Array.size_push, Array.size_setIfInBounds]; omega)) only [gP, gPn, gS, gSn, g2]; try rfl) rfl ?_
    obtain ⟨m3, hR3, hJ3, g3⟩ := hJ i m2 c0 hJ2 g2
    refine sYield1 rfl rfl hR3 ?_
    refine sP (v := .bool false) rfl ?_
    refine sNil (kSeqN ?_)
    refine cCondF rfl ?_
    refine cSkip (kBlkN (kSeqN ?_))
    refine cRegion ?_
    refine sBin rfl rfl (aInt_add (b := 1) (by omega)) ?_
    refine sMv (v := nv _) rfl ?_
    refine sNil (kSeqN ?_)
    refine ⟨_, ?_, i + 1, rfl, by omega, hJ3, g3, rfl, rfl, rfl, rfl, rfl, trivial⟩
    omega
  ·
    refine cExit (kSeqE (kSeqE (kBlkS ?_)))
    obtain rfl : i = 2 ^ L.length := by omega
    exact ⟨.inl rfl, _, rfl, hJi⟩

end Go.AM

/-! ### E20 -/
namespace Go.AM
open Go.Proofs
set_option maxRecDepth 100000
set_option linter.unusedVariables false
set_option linter.unusedSimpArgs false
theorem popc_bits : ∀ (n x : Nat), x < 2 ^ n → popc x ≤ n
  | 0, x, h => by obtain rfl : x = 0 := by omega
                  simp [popc]
  | n + 1, x, h => by
    have h1 := popc_double (x / 2) (x % 2) (by omega)
    rw [show x % 2 + 2 * (x / 2) = x by omega] at h1
    have := popc_bits n (x / 2) (by rw [Nat.pow_succ] at h; omega)
    omega
theorem redM_length (l : List Nat) : (redM l).length ≤ 24 := by
  unfold redM fallingM
  rw [List.length_reverse]
  have := List.length_filter_le (fun x => decide (x ≠ 0)) (tableM l)
  rw [tableM_length] at this; exact this
theorem redM_lt {l : List Nat} {n : Nat} (hn : n ≤ 24) (hl : ∀ x ∈ l, x < 2 ^ n) : ∀ x ∈ redM l, x < 2 ^ n := by
  have h := redM_rref (l := l) fun x hx => Nat.lt_of_lt_of_le (hl x hx) (Nat.pow_le_pow_right (by omega) hn)
  exact fun x hx => ((h.2 x).1 (.mem hx)).lt hl
/-- How many members, of the first so many, have each weight. -/
def cntG (L : List Nat) (n : Nat) : Nat → List Nat
  | 0 => List.replicate (n + 1) 0
  | i + 1 => (cntG L n i).set (popc (rowG L 0 i)) ((cntG L n i).getD (popc (rowG L 0 i)) 0 + 1)
theorem cntG_length (L : List Nat) (n : Nat) : ∀ i, (cntG L n i).length = n + 1
  | 0 => by simp [cntG]
  | i + 1 => by rw [cntG, List.length_set, cntG_length L n i]
theorem cntG_le (L : List Nat) (n : Nat) : ∀ i k, (cntG L n i).getD k 0 ≤ i
  | 0, k => by
    simp only [cntG, List.getD_eq_getElem?_getD, List.getElem?_replicate]
    split <;> simp
  | i + 1, k => by
    rw [cntG]
    have h1 := cntG_le L n i k
    have h2 := cntG_le L n i (popc (rowG L 0 i))
    rw [List.getD_eq_getElem?_getD, List.getElem?_set]
    split
    · split
      · simp only [Option.getD_some]; omega
      · simp
    · rw [← List.getD_eq_getElem?_getD]; omega
def weightsM (l : List Nat) (n : Nat) : List Nat := cntG (redM l) n (2 ^ (redM l).length)
theorem S22' : szOf Tryd.prog 22 = some 1 := S22

theorem okf82 : okF Tryd.prog H0 82 6 = true := by kernel_rfl
theorem spec_members {m : Mem} {r0 : Nat} {q : Option Addr} {n c : Nat} : ∃ v m', ACalls Tryd.prog 82 #[nv r0, .slice q n c] m v m' ∧ (v = .func (.func 109) #[] #[.pointer (some ⟨m.size + 1, 0, none⟩), .pointer (some ⟨m.size, 0, none⟩)] ∧ m' = (m.push (.cells true #[nv r0])).push (.cells true #[.slice q n c])) := by
  refine wpF (args := [_, _]) mixed okf82 (fn := Tryd.f82) rfl rfl rfl (by simp) ?_
  refine cSeq ?_
  refine cRegion ?_
  refine sBoxB (bl := m.size) (v := nv r0) rfl rfl ?_
  refine sBoxB (bl := m.size + 1) (v := .slice q n c) (by simp [Value.cells]) rfl ?_
  refine sAs (v := .nilFunc) rfl ?_
  refine sNil (kSeqN ?_)
  refine cSeq ?_
  refine cRegion ?_
  refine sMFc2 rfl rfl ?_
  refine sAs (v := .func _ _ _) rfl ?_
  refine sNil (kSeqN ?_)
  refine cRet ?_
  exact ⟨.inr rfl, _, rfl, rfl, rfl⟩

def H28 : Nat → List (Nat × Nat) := fun id => if id = 7 then [(0, 4)] else []
theorem okf28 : okF Tryd.prog H28 28 31 = true := by kernel_rfl
theorem spec_Weights {m : Mem} {a : Value} {l : List Int} {n : Int} (hG : Glob m) (ha : IntsAt m a l) (hl : l.length < 4611686018427387904) : ∃ v m', ACalls Tryd.prog 28 #[a, .int .i64 n] m v m' ∧ (∃ w, v = .tuple #[w, nv (checkF l n)] ∧ OwnF m.size m' w (ofs (ifOk (checkF l n) (weightsM (nats l) n.toNat) [])) ∧ Ext m m') := by
  obtain ⟨m11, h11, k11⟩ := spec_Check (n := n) ha hl
  obtain ⟨q, cap, rfl⟩ := ha.len
  refine wpF (args := [_, _]) mixed okf28 (fn := Tryd.f28) rfl rfl rfl (by simp) ?_
  refine cSeq ?_
  refine cRegion ?_
  refine sAs (v := .slice _ _ _) rfl ?_
  refine sAs (v := nv 0) rfl ?_
  refine sNil (kSeqN ?_)
  refine cSeq ?_
  refine cSeq ?_
  refine cRegion ?_
  refine sMv (v := .slice _ _ _) rfl ?_
  refine sMv (v := .int _ _) rfl ?_
  refine sCall2 rfl call60 rfl rfl h11 ?_
  refine sAs (v := nv _) rfl ?_
  refine sNil (kSeqN ?_)
  refine cSeq ?_
  refine cRegion ?_
  refine sMv (v := nv _) rfl ?_
  refine sBin (a := checkF l n) rfl rfl (aInt_neq (b := 0)) ?_
  refine sNil (kSeqN ?_)
  refine cCond rfl (fun c0 => ?_) (fun c0 => ?_)
  ·
    refine cSeq ?_
    refine cRegion ?_
    refine sMv (v := nv _) rfl ?_
    refine sAs (v := .slice _ _ _) rfl ?_
    refine sAs (v := nv _) rfl ?_
    refine sNil (kSeqN ?_)
    refine cRet (kSeqR ?_)
    exact ⟨.inr rfl, _, rfl, _, rfl, by rw [ifOk_n c0]; exact .nil _ _, k11⟩
  ·
    have h0 := Decidable.not_not.1 c0
    obtain ⟨N, L, rfl, rfl, hN1, hN2, hL1, hL2⟩ := checkF_nat h0
    have hL3 : ∀ x ∈ L, x < 2 ^ 24 := fun x hx => Nat.lt_of_lt_of_le (hL2 x hx) (Nat.pow_le_pow_right (by omega) (by omega))
    refine cSkip (kSeqN ?_)
    refine cSeq ?_
    refine cRegion ?_
    refine sMv (v := nv N) rfl ?_
    refine sBin rfl rfl (aInt_add (b := 1) (by omega)) ?_
    refine sMkN T22 S3 Z3 bytes3 rfl rfl (by omega) ?_
    refine sAllocB (bl := m11.size + 1) (by simp) Z22 (by kernel_rfl) ?_
    refine sStNB (v := .slice _ _ _) (by simp) S22 rfl rfl rfl rfl rfl ?_
    refine sNil (kSeqN ?_)
    refine cSeq ?_
    refine cSeq ?_
    refine cRegion ?_
    refine sMv (v := .slice _ _ _) rfl ?_
    obtain ⟨v19, m19, h19, k19, k19e⟩ := spec_reduced ((ha.ext k11).ext ((Ext.push m11 (.cells true (cellsN (List.replicate (N + 1) 0)))).push' (.cells true #[.slice (some ⟨m11.size, 0, some 1⟩) (N + 1) (N + 1)]))) (by omega) hL3
    have hI19 := k19.ints
    obtain ⟨q19, c19, rfl⟩ := hI19.lenN
    refine sCall1 rfl call83 rfl h19 ?_
    have hz19 := k19e.1
    simp only [Array.size_push] at hz19 k19
    have g0 := k19e.cells (b := m11.size) ((by simp (disch := first | omega | (simp only [Array.size_push, Array.size_setIfInBounds]; done) | (simp only [Array.size_push, Array.size_setIfInBounds]; omega)) only [gP, gPn, gS, gSn]; try rfl) : Mem.get _ _ = .cells true (cellsN (List.replicate (N + 1) 0)))
    have g1 := k19e.cells (b := m11.size + 1) ((by simp (disch := first | omega | (simp only [Array.size_push, Array.size_setIfInBounds]; done) | (simp only [Array.size_push, Array.size_setIfInBounds]; omega)) only [gP, gPn, gS, gSn]; try rfl) : Mem.get _ _ = .cells true #[.slice (some ⟨m11.size, 0, some 1⟩) (N + 1) (N + 1)])
    have hE19 : Ext m11 m19 := ((Ext.push _ _).push' _).trans k19e
    have hRl := redM_length L
    have hRx := redM_lt (n := N) (by omega) hL2
    obtain ⟨v20, m20, h20, rfl, e20⟩ := spec_members (m := m19) (r0 := 0) (q := q19) (n := (redM L).length) (c := c19)
    refine sCall2 rfl call82 rfl rfl h20 ?_
    have hz20 : m20.size = m19.size + 2 := by rw [e20]; simp
    have gp : Mem.get m20 m19.size = .cells true #[nv 0] := by rw [e20]; simp (disch := first | omega | (simp only [Array.size_push, Array.size_setIfInBounds]; done) | (simp only [Array.size_push, Array.size_setIfInBounds]; omega)) only [gP, gPn, gS, gSn]; try rfl
    have gl : Mem.get m20 (m19.size + 1) = .cells true #[.slice q19 (redM L).length c19] := by rw [e20]; simp (disch := first | omega | (simp only [Array.size_push, Array.size_setIfInBounds]; done) | (simp only [Array.size_push, Array.size_setIfInBounds]; omega)) only [gP, gPn, gS, gSn]; try rfl
    have hE20 : Ext m19 m20 := by rw [e20]; exact (Ext.push _ _).push' _
    refine sNil (kSeqN ?_)
    refine cBlock ?_
    refine cRangeJ (by kernel_rfl) mixed (by kernel_rfl) rfl call109 ?_
    intro R B hround
    rw [hz20]
    rw [hz20] at hround
    have hview : ∀ m', (∀ b, b < m19.size + 2 → b ≠ m11.size → b ≠ m19.size → Mem.get m' b = Mem.get m20 b) → m19.size + 3 ≤ m'.size → Glob m' ∧ Mem.get m' (m19.size + 1) = .cells true #[.slice q19 (redM L).length c19] ∧ IntsAt m' (.slice q19 (redM L).length c19) (ofs (redM L)) ∧ Mem.get m' (m11.size + 1) = .cells true #[.slice (some ⟨m11.size, 0, some 1⟩) (N + 1) (N + 1)] ∧ Ext m11 m' := by
      intro m' hb hsz
      have hE : Ext m11 m' := ⟨by omega, fun b h => by rw [hb b (by omega) (by omega) (by omega), hE20.2 b (by omega), hE19.2 b h]⟩
      refine ⟨hG.ext (k11.trans hE), by rw [hb _ (by omega) (by omega) (by omega)]; exact gl, (k19.up fun b h1 h2 => by rw [hb b (by omega) (by omega) (by omega), hE20.2 b h2]).ints, ?_, hE⟩
      rw [hb _ (by omega) (by omega) (by omega), hE20.2 _ (by omega)]; exact g1
    have hJ : ∀ i m', i < 2 ^ (redM L).length → (m19.size + 3 ≤ m'.size ∧ (∀ b, b < m19.size + 2 → b ≠ m11.size → b ≠ m19.size → Mem.get m' b = Mem.get m20 b) ∧ Mem.get m' m11.size = .cells true (cellsN (cntG (redM L) N i)) ∧ Mem.get m' (m19.size + 2) = .loop R) → Mem.get m' m19.size = .cells true #[nv (rowG (redM L) 0 i)] →
        ∃ m'', ARound Tryd.prog (m19.size + 2) #[nv (rowG (redM L) 0 i)] m' (.bool true) m'' ∧ (m19.size + 3 ≤ m''.size ∧ (∀ b, b < m19.size + 2 → b ≠ m11.size → b ≠ m19.size → Mem.get m'' b = Mem.get m20 b) ∧ Mem.get m'' m11.size = .cells true (cellsN (cntG (redM L) N (i + 1))) ∧ Mem.get m'' (m19.size + 2) = .loop R) ∧ Mem.get m'' m19.size = .cells true #[nv (rowG (redM L) 0 i)] := by
      rintro i m' hi ⟨hsz, hfr, hcnt, hrec⟩ hrow
      refine hround m' _ _ hrec ?_
      obtain ⟨_, _, _, g7, _⟩ := hview m' hfr hsz
      have hg := rowG_lt (n := N) (Nat.two_pow_pos N) hRx i
      have h16 : 2 ^ N ≤ 2 ^ 16 := Nat.pow_le_pow_right (by omega) hN2
      have hpb := popc_bits N _ hg
      have hcl := cntG_length (redM L) N i
      have hcle := cntG_le (redM L) N i (popc (rowG (redM L) 0 i))
      have h2r : 2 ^ (redM L).length ≤ 2 ^ 24 := Nat.pow_le_pow_right (by omega) hRl
      refine cRegion ?_
      refine sAs (v := nv (rowG (redM L) 0 i)) rfl ?_
      refine sNil ?_
      refine ⟨rfl, hrec, ?_⟩
      refine cBlock ?_
      refine cDrawH (hs := [(0, 4)]) rfl (by decide) ?_
      refine lStepLd (v := .slice (some ⟨m11.size, 0, some 1⟩) (N + 1) (N + 1)) A22 rfl (by simp (disch := first | omega | (simp only [Array.size_push, Array.size_setIfInBounds]; done) | (simp only [Array.size_push, Array.size_setIfInBounds]; omega)) only [gP, gPn, gS, gSn, g7, hcnt, hrec]; try rfl) rfl fun e0 hm0 hv0 hr0 => ?_
      refine lStepO (sMv (v := nv (rowG (redM L) 0 i)) rfl (sNil fun e1 hm1 => ?_))
      refine lStepO (sP (v := .int .u64 (Int.ofNat (rowG (redM L) 0 i))) (conv3_55 (by omega)) (sNil fun e2 hm2 => ?_))
      obtain ⟨v25, m25, h25, rfl, k25⟩ := spec_OnesCount (m := m'.setIfInBounds (m19.size + 2) (.loop B)) (x := rowG (redM L) 0 i) (by omega)
      subst k25
      refine lStepO (sCall1 rfl call81 rfl h25 (sNil fun e3 hm3 => ?_))
      refine lStepO (sIx T22 S3 rfl rfl (by omega) (sNil fun e4 hm4 => ?_))
      refine lStepLd (v := nv ((cntG (redM L) N i).getD (popc (rowG (redM L) 0 i)) 0)) A3 rfl (by simp (disch := first | omega | (simp only [Array.size_push, Array.size_setIfInBounds]; done) | (simp only [Array.size_push, Array.size_setIfInBounds]; omega)) only [gP, gPn, gS, gSn, g7, hcnt, hrec]; try rfl) (by rw [Nat.zero_add, Nat.mul_one]; refine cellsN_get ?_; rw [List.getD_eq_getElem?_getD, List.getElem?_eq_getElem (by omega)]; rfl) fun e5 hm5 hv5 hr5 => ?_
      refine lStepO (sBin rfl rfl (aInt_add (b := 1) (by omega)) (sNil fun e6 hm6 => ?_))
      refine lStepO (sIx T22 S3 rfl rfl (by omega) (sNil fun e7 hm7 => ?_))
      refine lStepO (sSt (v := nv _) S3 rfl rfl (by simp (disch := first | omega | (simp only [Array.size_push, Array.size_setIfInBounds]; done) | (simp only [Array.size_push, Array.size_setIfInBounds]; omega)) only [gP, gPn, gS, gSn, g7, hcnt, hrec]; try rfl) (by simp; omega) rfl rfl (sNil fun e8 hm8 => ?_))
      refine ⟨?_, (kBlkN ?_)⟩
      ·
        refine obl_atE (e := e0) (e' := e4) (by simp) (by rfl) (by simp) ((hr0 e4.m _ _ (by rw [hm4]; simp (disch := first | omega | (simp only [Array.size_push, Array.size_setIfInBounds]; done) | (simp only [Array.size_push, Array.size_setIfInBounds]; omega)) only [gP, gPn, gS, gSn, g7, hcnt, hrec]; try rfl) (by rfl)).trans (congrArg some hv0.symm)) ?_
        trivial
      refine ⟨rfl, by rw [gSn (by omega)]; exact gS rfl (by omega), ⟨(by simp only [Array.size_push, Array.size_setIfInBounds]; omega), fun b h1 h2 h3 => ?_, ?_, ?_⟩, ?_⟩
      · rw [gSn (by omega), gSn (by omega), gSn (by omega)]; exact hfr b h1 h2 h3
      · rw [gSn (by omega), gS rfl (by simp only [Array.size_push, Array.size_setIfInBounds]; omega), cellsN_set, Nat.zero_add, Nat.mul_one]; rfl
      · exact gS rfl (by simp only [Array.size_push, Array.size_setIfInBounds]; omega)
      · rw [gSn (by omega), gSn (by omega), gSn (by omega)]; exact hrow
    obtain ⟨v2, m2, h2, hz2, hfr2, hcnt2, hrec2⟩ := spec_members1 (m := m20.push (.loop R)) (lp := m19.size + 2) (pl := m19.size + 1) (prow := m19.size) (r0 := 0) (L := redM L) (sl := .slice q19 (redM L).length c19) (rl := true)
      (J := fun i m' => m19.size + 3 ≤ m'.size ∧ (∀ b, b < m19.size + 2 → b ≠ m11.size → b ≠ m19.size → Mem.get m' b = Mem.get m20 b) ∧ Mem.get m' m11.size = .cells true (cellsN (cntG (redM L) N i)) ∧ Mem.get m' (m19.size + 2) = .loop R)
      hRl (fun x hx => Nat.lt_of_lt_of_le (hRx x hx) (Nat.pow_le_pow_right (by omega) (by omega))) (by decide)
      (fun i m' ⟨h1, h2, h3, h4⟩ => by obtain ⟨a1, a2, a3, _⟩ := hview m' h2 h1; exact ⟨a1, a2, a3⟩)
      (fun i m' v ⟨h1, h2, h3, h4⟩ => ⟨by simpa using h1, fun b e1 e2 e3 => by rw [gSn (by omega)]; exact h2 b e1 e2 e3, by rw [gSn (by omega)]; exact h3, by rw [gSn (by omega)]; exact h4⟩)
      (by omega) hJ ⟨by simp; omega, fun b h1 h2 h3 => gPn (by omega), by rw [gPn (by omega), hE20.2 _ (by omega)]; exact g0, gP (by omega)⟩ (by rw [gPn (by omega)]; exact gp)
    obtain ⟨_, _, _, g7', hE2⟩ := hview m2 hfr2 hz2
    refine ⟨v2, m2, h2, hrec2, (kBlkN (kSeqN ?_))⟩
    refine cSeq ?_
    refine cRegion ?_
    refine sLd (v := .slice (some ⟨m11.size, 0, some 1⟩) (N + 1) (N + 1)) A22 rfl (by rw [gSn (by omega)]; exact g7') rfl ?_
    refine sAs (v := .slice _ _ _) rfl ?_
    refine sAs (v := nv 0) rfl ?_
    refine sNil (kSeqN ?_)
    refine cRet ?_
    refine ⟨.inr rfl, _, rfl, _, by rw [h0]; rfl, ?_, (k11.trans hE2).set (by have := k11.1; omega) _⟩
    rw [ifOk_0 h0, nats_ofs]
    have := OwnF.ofCells (N := m.size) (m := m2.setIfInBounds (m19.size + 2) .dead) (b := m11.size) (l := weightsM L N) (r := []) k11.1 (by rw [List.append_nil, gSn (by omega)]; exact hcnt2)
    rw [List.append_nil, show (weightsM L N).length = N + 1 from cntG_length _ _ _] at this
    exact this

end Go.AM

/-! ### E21 -/
namespace Go.AM
open Go.Proofs
set_option maxRecDepth 100000
set_option linter.unusedVariables false
set_option linter.unusedSimpArgs false
/-- What is lighter, or as light and less. -/
def lighter (x b : Nat) : Nat := if popc x < popc b then x else if popc x = popc b ∧ x < b then x else b
def cosetG (L : List Nat) (row : Nat) : Nat → Nat
  | 0 => row
  | i + 1 => lighter (rowG L row i) (cosetG L row i)
theorem cosetG_lt {L : List Nat} {row n : Nat} (h0 : row < 2 ^ n) (hL : ∀ x ∈ L, x < 2 ^ n) : ∀ i, cosetG L row i < 2 ^ n
  | 0 => h0
  | i + 1 => by
    rw [cosetG, lighter]
    split
    · exact rowG_lt h0 hL i
    · split
      · exact rowG_lt h0 hL i
      · exact cosetG_lt h0 hL i
def cosetM (l : List Nat) (row : Nat) : Nat := cosetG (redM l) row (2 ^ (redM l).length)

def H29 : Nat → List (Nat × Nat) := fun id => if id = 7 then [(3, 0)] else []
theorem okf29 : okF Tryd.prog H29 29 47 = true := by kernel_rfl
theorem spec_Coset {m : Mem} {a : Value} {l : List Int} {n row : Int} (hG : Glob m) (ha : IntsAt m a l) (hl : l.length < 4611686018427387904) : ∃ v m', ACalls Tryd.prog 29 #[a, .int .i64 n, .int .i64 row] m v m' ∧ (v = .tuple #[nv (ifOk (oneF l n row) (cosetM (nats l) row.toNat) 0), nv (oneF l n row)] ∧ Ext m m') := by
  obtain ⟨v11, m11, h11, rfl, k11⟩ := spec_one (n := n) (row := row) ha hl
  obtain ⟨q, cap, rfl⟩ := ha.len
  refine wpF (args := [_, _, _]) mixed okf29 (fn := Tryd.f29) rfl rfl rfl (by simp) ?_
  refine cSeq ?_
  refine cRegion ?_
  refine sAs (v := nv 0) rfl ?_
  refine sAs (v := nv 0) rfl ?_
  refine sNil (kSeqN ?_)
  refine cSeq ?_
  refine cSeq ?_
  refine cRegion ?_
  refine sMv (v := .slice _ _ _) rfl ?_
  refine sMv (v := .int _ _) rfl ?_
  refine sMv (v := .int _ _) rfl ?_
  refine sCall3 rfl call76 rfl rfl rfl h11 ?_
  refine sAs (v := nv _) rfl ?_
  refine sNil (kSeqN ?_)
  refine cSeq ?_
  refine cRegion ?_
  refine sMv (v := nv _) rfl ?_
  refine sBin (a := oneF l n row) rfl rfl (aInt_neq (b := 0)) ?_
  refine sNil (kSeqN ?_)
  refine cCond rfl (fun c0 => ?_) (fun c0 => ?_)
  ·
    refine cSeq ?_
    refine cRegion ?_
    refine sMv (v := nv _) rfl ?_
    refine sAs (v := nv 0) rfl ?_
    refine sAs (v := nv _) rfl ?_
    refine sNil (kSeqN ?_)
    refine cRet (kSeqR ?_)
    exact ⟨.inr rfl, _, rfl, by rw [ifOk_n c0]; rfl, k11⟩
  ·
    have h0 := Decidable.not_not.1 c0
    obtain ⟨hc, hr⟩ := oneF_ok h0
    obtain ⟨N, L, rfl, rfl, hN1, hN2, hL1, hL2⟩ := checkF_nat hc
    have hL3 : ∀ x ∈ L, x < 2 ^ 24 := fun x hx => Nat.lt_of_lt_of_le (hL2 x hx) (Nat.pow_le_pow_right (by omega) (by omega))
    obtain ⟨r, rfl, hr2⟩ := row_nat hr (by omega)
    refine cSkip (kSeqN ?_)
    refine cSeq ?_
    refine cRegion ?_
    refine sMv (v := nv r) rfl ?_
    refine sAlloc Z3 (by kernel_rfl) ?_
    refine sStN (v := nv _) S3 rfl rfl rfl rfl rfl ?_
    refine sNil (kSeqN ?_)
    refine cSeq ?_
    refine cSeq ?_
    refine cRegion ?_
    refine sMv (v := nv r) rfl ?_
    refine sMv (v := .slice _ _ _) rfl ?_
    obtain ⟨v19, m19, h19, k19, k19e⟩ := spec_reduced ((ha.ext k11).ext (Ext.push m11 (.cells true #[nv r]))) (by omega) hL3
    have hI19 := k19.ints
    obtain ⟨q19, c19, rfl⟩ := hI19.lenN
    refine sCall1 rfl call83 rfl h19 ?_
    have hz19 := k19e.1
    simp only [Array.size_push] at hz19 k19
    have g0 := k19e.cells (b := m11.size) ((by simp (disch := first | omega | (simp only [Array.size_push, Array.size_setIfInBounds]; done) | (simp only [Array.size_push, Array.size_setIfInBounds]; omega)) only [gP, gPn, gS, gSn]; try rfl) : Mem.get _ _ = .cells true #[nv r])
    have hE19 : Ext m11 m19 := (Ext.push _ _).trans k19e
    have hRl := redM_length L
    have hRx := redM_lt (n := N) (by omega) hL2
    obtain ⟨v20, m20, h20, rfl, e20⟩ := spec_members (m := m19) (r0 := r) (q := q19) (n := (redM L).length) (c := c19)
    refine sCall2 rfl call82 rfl rfl h20 ?_
    have hz20 : m20.size = m19.size + 2 := by rw [e20]; simp
    have gp : Mem.get m20 m19.size = .cells true #[nv r] := by rw [e20]; simp (disch := first | omega | (simp only [Array.size_push, Array.size_setIfInBounds]; done) | (simp only [Array.size_push, Array.size_setIfInBounds]; omega)) only [gP, gPn, gS, gSn]; try rfl
    have gl : Mem.get m20 (m19.size + 1) = .cells true #[.slice q19 (redM L).length c19] := by rw [e20]; simp (disch := first | omega | (simp only [Array.size_push, Array.size_setIfInBounds]; done) | (simp only [Array.size_push, Array.size_setIfInBounds]; omega)) only [gP, gPn, gS, gSn]; try rfl
    have hE20 : Ext m19 m20 := by rw [e20]; exact (Ext.push _ _).push' _
    have hRx4 : ∀ x ∈ redM L, x < 2 ^ 24 := fun x hx => Nat.lt_of_lt_of_le (hRx x hx) (Nat.pow_le_pow_right (by omega) (by omega))
    refine sNil (kSeqN ?_)
    refine cBlock ?_
    refine cRangeJ (by kernel_rfl) mixed (by kernel_rfl) rfl call109 ?_
    intro R B hround
    rw [hz20]
    rw [hz20] at hround
    have hview : ∀ m', (∀ b, b < m19.size + 2 → b ≠ m11.size → b ≠ m19.size → Mem.get m' b = Mem.get m20 b) → m19.size + 3 ≤ m'.size → Glob m' ∧ Mem.get m' (m19.size + 1) = .cells true #[.slice q19 (redM L).length c19] ∧ IntsAt m' (.slice q19 (redM L).length c19) (ofs (redM L)) ∧ Ext m11 m' := by
      intro m' hb hsz
      have hE : Ext m11 m' := ⟨by omega, fun b h => by rw [hb b (by omega) (by omega) (by omega), hE20.2 b (by omega), hE19.2 b h]⟩
      exact ⟨hG.ext (k11.trans hE), by rw [hb _ (by omega) (by omega) (by omega)]; exact gl, (k19.up fun b h1 h2 => by rw [hb b (by omega) (by omega) (by omega), hE20.2 b h2]).ints, hE⟩
    have hJ : ∀ i m', i < 2 ^ (redM L).length → (m19.size + 3 ≤ m'.size ∧ (∀ b, b < m19.size + 2 → b ≠ m11.size → b ≠ m19.size → Mem.get m' b = Mem.get m20 b) ∧ Mem.get m' m11.size = .cells true #[nv (cosetG (redM L) r i)] ∧ Mem.get m' (m19.size + 2) = .loop R) → Mem.get m' m19.size = .cells true #[nv (rowG (redM L) r i)] →
        ∃ m'', ARound Tryd.prog (m19.size + 2) #[nv (rowG (redM L) r i)] m' (.bool true) m'' ∧ (m19.size + 3 ≤ m''.size ∧ (∀ b, b < m19.size + 2 → b ≠ m11.size → b ≠ m19.size → Mem.get m'' b = Mem.get m20 b) ∧ Mem.get m'' m11.size = .cells true #[nv (cosetG (redM L) r (i + 1))] ∧ Mem.get m'' (m19.size + 2) = .loop R) ∧ Mem.get m'' m19.size = .cells true #[nv (rowG (redM L) r i)] := by
      rintro i m' hi ⟨hsz, hfr, hbest, hrec⟩ hrow
      refine hround m' _ _ hrec ?_
      have hg := rowG_lt (n := 24) hr2 hRx4 i
      have hc1 := cosetG_lt (n := 24) hr2 hRx4 i
      rw [cosetG, lighter]
      generalize rowG (redM L) r i = x at *
      generalize cosetG (redM L) r i = y at *
      refine cRegion ?_
      refine sAs (v := nv x) rfl ?_
      refine sNil ?_
      refine ⟨rfl, hrec, ?_⟩
      refine cBlock ?_
      refine cSeq ?_
      refine cDrawH (hs := [(3, 0)]) rfl (by decide) ?_
      refine lStepO (sMv (v := nv x) rfl (sNil fun e0 hm0 => ?_))
      refine lStepO (sP (v := .int .u64 (Int.ofNat x)) (conv3_55 (by omega)) (sNil fun e1 hm1 => ?_))
      obtain ⟨v28, m28, h28, rfl, k28⟩ := spec_OnesCount (m := m'.setIfInBounds (m19.size + 2) (.loop B)) (x := x) (by omega)
      subst k28
      refine lStepO (sCall1 rfl call81 rfl h28 (sNil fun e2 hm2 => ?_))
      refine lStepLd (v := nv y) A3 rfl (by simp (disch := first | omega | (simp only [Array.size_push, Array.size_setIfInBounds]; done) | (simp only [Array.size_push, Array.size_setIfInBounds]; omega)) only [gP, gPn, gS, gSn, hbest, hrec]; try rfl) rfl fun e3 hm3 hv3 hr3 => ?_
      refine lStepO (sP (v := .int .u64 (Int.ofNat y)) (conv3_55 (by omega)) (sNil fun e4 hm4 => ?_))
      obtain ⟨v31, m31, h31, rfl, k31⟩ := spec_OnesCount (m := m'.setIfInBounds (m19.size + 2) (.loop B)) (x := y) (by omega)
      subst k31
      refine lStepO (sCall1 rfl call81 rfl h31 (sNil fun e5 hm5 => ?_))
      refine lStepO (sAs (v := nv (popc x)) rfl (sNil fun e6 hm6 => ?_))
      refine lStepO (sAs (v := nv (popc y)) rfl (sNil fun e7 hm7 => ?_))
      refine ⟨?_, (kSeqN ?_)⟩
      ·
        refine obl_atE (e := e3) (e' := e0) (by simp) (by rfl) (by simp) ((hr3 e0.m _ _ (by rw [hm0]; simp (disch := first | omega | (simp only [Array.size_push, Array.size_setIfInBounds]; done) | (simp only [Array.size_push, Array.size_setIfInBounds]; omega)) only [gP, gPn, gS, gSn, hbest, hrec]; try rfl) (by rfl)).trans (congrArg some hv3.symm)) ?_
        trivial
      refine cSeq ?_
      refine cRegion ?_
      refine sMv (v := nv _) rfl ?_
      refine sMv (v := nv _) rfl ?_
      refine sBin rfl rfl (aInt_lss) ?_
      refine sMv (v := .bool _) rfl ?_
      by_cases h1 : popc x < popc y
      ·
        rw [decide_eq_true h1, if_pos h1]
        refine sGno (q' := true) rfl rfl (by simp) ?_
        refine sGno (q' := true) rfl rfl (by simp) ?_
        refine sGno (q' := true) rfl rfl (by simp) ?_
        refine sGno (q' := true) rfl rfl (by simp) ?_
        refine sGnoU rfl rfl ?_
        refine sGnoU rfl rfl ?_
        refine sGnoU rfl rfl ?_
        refine sGno (q' := true) rfl rfl (by simp) ?_
        refine sP (v := .bool _) rfl ?_
        refine sNil (kSeqN ?_)
        refine cCondT rfl ?_
        refine cRegion ?_
        refine sMv (v := nv x) rfl ?_
        refine sSt (v := nv _) S3 rfl rfl (by simp (disch := first | omega | (simp only [Array.size_push, Array.size_setIfInBounds]; done) | (simp only [Array.size_push, Array.size_setIfInBounds]; omega)) only [gP, gPn, gS, gSn, hbest, hrec]; try rfl) (by first | decide | omega | simp) rfl rfl ?_
        refine sNil (kBlkN ?_)
        refine ⟨rfl, by rw [gSn (by omega)]; exact gS rfl (by omega), ⟨(by simp only [Array.size_push, Array.size_setIfInBounds]; omega), fun b h1 h2 h3 => ?_, ?_, ?_⟩, ?_⟩
        · rw [gSn (by omega), gSn (by omega), gSn (by omega)]; exact hfr b h1 h2 h3
        · rw [gSn (by omega), gS rfl (by simp only [Array.size_push, Array.size_setIfInBounds]; omega)]; rfl
        · exact gS rfl (by simp only [Array.size_push, Array.size_setIfInBounds]; omega)
        · rw [gSn (by omega), gSn (by omega), gSn (by omega)]; exact hrow
      ·
        rw [decide_eq_false h1, if_neg h1]
        refine sG rfl rfl ?_
        refine sMv (v := nv _) rfl ?_
        refine sG rfl rfl ?_
        refine sMv (v := nv _) rfl ?_
        refine sG rfl rfl ?_
        refine sBin rfl rfl (aInt_eql) ?_
        refine sG rfl rfl ?_
        refine sMv (v := .bool _) rfl ?_
        by_cases h2 : popc x = popc y
        ·
          rw [decide_eq_true h2]
          refine sG rfl rfl ?_
          refine sMv (v := nv x) rfl ?_
          refine sG rfl rfl ?_
          refine sLd (v := nv y) A3 rfl (by simp (disch := first | omega | (simp only [Array.size_push, Array.size_setIfInBounds]; done) | (simp only [Array.size_push, Array.size_setIfInBounds]; omega)) only [gP, gPn, gS, gSn, hbest, hrec]; try rfl) rfl ?_
          refine sG rfl rfl ?_
          refine sBin rfl rfl (aInt_lss) ?_
          refine sG rfl rfl ?_
          refine sP (v := .bool _) rfl ?_
          refine sP (v := .bool _) rfl ?_
          refine sNil (kSeqN ?_)
          refine cCond rfl (fun c2 => ?_) (fun c2 => ?_)
          ·
            rw [if_pos ⟨h2, c2⟩]
            refine cRegion ?_
            refine sMv (v := nv x) rfl ?_
            refine sSt (v := nv _) S3 rfl rfl (by simp (disch := first | omega | (simp only [Array.size_push, Array.size_setIfInBounds]; done) | (simp only [Array.size_push, Array.size_setIfInBounds]; omega)) only [gP, gPn, gS, gSn, hbest, hrec]; try rfl) (by first | decide | omega | simp) rfl rfl ?_
            refine sNil (kBlkN ?_)
            refine ⟨rfl, by rw [gSn (by omega)]; exact gS rfl (by omega), ⟨(by simp only [Array.size_push, Array.size_setIfInBounds]; omega), fun b h1 h2 h3 => ?_, ?_, ?_⟩, ?_⟩
            · rw [gSn (by omega), gSn (by omega), gSn (by omega)]; exact hfr b h1 h2 h3
            · rw [gSn (by omega), gS rfl (by simp only [Array.size_push, Array.size_setIfInBounds]; omega)]; rfl
            · exact gS rfl (by simp only [Array.size_push, Array.size_setIfInBounds]; omega)
            · rw [gSn (by omega), gSn (by omega), gSn (by omega)]; exact hrow
          ·
            rw [if_neg (fun h => c2 h.2)]
            refine cSkip (kBlkN ?_)
            refine ⟨rfl, gS rfl (by omega), ⟨(by simp only [Array.size_push, Array.size_setIfInBounds]; omega), fun b h1 h2 h3 => ?_, ?_, ?_⟩, ?_⟩
            · rw [gSn (by omega), gSn (by omega)]; exact hfr b h1 h2 h3
            · rw [gSn (by omega), gSn (by omega)]; exact hbest
            · exact gS rfl (by simp only [Array.size_push, Array.size_setIfInBounds]; omega)
            · rw [gSn (by omega), gSn (by omega)]; exact hrow
        ·
          rw [decide_eq_false h2, if_neg (fun h => h2 h.1)]
          refine sGno (q' := false) rfl rfl (by simp) ?_
          refine sGno (q' := false) rfl rfl (by simp) ?_
          refine sGno (q' := false) rfl rfl (by simp) ?_
          refine sG rfl rfl ?_
          refine sP (v := .bool _) rfl ?_
          refine sP (v := .bool _) rfl ?_
          refine sNil (kSeqN ?_)
          refine cCondF rfl ?_
          refine cSkip (kBlkN ?_)
          refine ⟨rfl, gS rfl (by omega), ⟨(by simp only [Array.size_push, Array.size_setIfInBounds]; omega), fun b h1 h2 h3 => ?_, ?_, ?_⟩, ?_⟩
          · rw [gSn (by omega), gSn (by omega)]; exact hfr b h1 h2 h3
          · rw [gSn (by omega), gSn (by omega)]; exact hbest
          · exact gS rfl (by simp only [Array.size_push, Array.size_setIfInBounds]; omega)
          · rw [gSn (by omega), gSn (by omega)]; exact hrow
    obtain ⟨v2, m2, h2, hz2, hfr2, hbest2, hrec2⟩ := spec_members1 (m := m20.push (.loop R)) (lp := m19.size + 2) (pl := m19.size + 1) (prow := m19.size) (r0 := r) (L := redM L) (sl := .slice q19 (redM L).length c19) (rl := true)
      (J := fun i m' => m19.size + 3 ≤ m'.size ∧ (∀ b, b < m19.size + 2 → b ≠ m11.size → b ≠ m19.size → Mem.get m' b = Mem.get m20 b) ∧ Mem.get m' m11.size = .cells true #[nv (cosetG (redM L) r i)] ∧ Mem.get m' (m19.size + 2) = .loop R)
      hRl (fun x hx => Nat.lt_of_lt_of_le (hRx x hx) (Nat.pow_le_pow_right (by omega) (by omega))) (by omega)
      (fun i m' ⟨h1, h2, h3, h4⟩ => by obtain ⟨a1, a2, a3, _⟩ := hview m' h2 h1; exact ⟨a1, a2, a3⟩)
      (fun i m' v ⟨h1, h2, h3, h4⟩ => ⟨by simpa using h1, fun b e1 e2 e3 => by rw [gSn (by omega)]; exact h2 b e1 e2 e3, by rw [gSn (by omega)]; exact h3, by rw [gSn (by omega)]; exact h4⟩)
      (by omega) hJ ⟨by simp; omega, fun b h1 h2 h3 => gPn (by omega), by rw [gPn (by omega), hE20.2 _ (by omega)]; exact g0, gP (by omega)⟩ (by rw [gPn (by omega)]; exact gp)
    obtain ⟨_, _, _, hE2⟩ := hview m2 hfr2 hz2
    refine ⟨v2, m2, h2, hrec2, (kBlkN (kSeqN ?_))⟩
    refine cSeq ?_
    refine cRegion ?_
    refine sLd (v := nv (cosetM L r)) A3 rfl (by rw [gSn (by omega)]; exact hbest2) rfl ?_
    refine sAs (v := nv _) rfl ?_
    refine sAs (v := nv 0) rfl ?_
    refine sNil (kSeqN ?_)
    refine cRet ?_
    exact ⟨.inr rfl, _, rfl, by rw [ifOk_0 h0, nats_ofs, h0]; rfl, (k11.trans hE2).set (by have := k11.1; omega) _⟩

end Go.AM

/-! ### E22 -/
namespace Go.AM
open Go.Proofs
set_option maxRecDepth 100000
set_option linter.unusedVariables false
set_option linter.unusedSimpArgs false
theorem call103 : callable Tryd.prog 103 = true := by kernel_rfl
theorem call68 : callable Tryd.prog 68 = true := by kernel_rfl
theorem U3 : undOf Tryd.prog 3 = some (.int .i64) := by kernel_rfl
theorem sCap0 {ρ : Env} {m : Mem} {K : Env → Mem → Prop} {ops : Array Oper} {l : List Oper} {d : Option Nat} {ty : TypeId} {pos : String} {af : Array Edge} {x : Operand}
    (hx : evR ρ x = .slice none 0 0) (hk : wpOps Tryd.prog ops K l (updO ρ d (nv 0)) m) : wpOps Tryd.prog ops K (⟨d, .call ⟨.builtin .cap, ⟨[x]⟩, ⟨[22]⟩⟩, ty, pos, af, none⟩ :: l) ρ m := by
  refine sO (opF_eff rfl rfl ?_) hk
  simp only [aEff, hx, aCapNil, T22]; rfl
theorem sAppN {ρ : Env} {m : Mem} {K : Env → Mem → Prop} {ops : Array Oper} {l : List Oper} {d : Option Nat} {ty : TypeId} {pos : String} {af : Array Edge} {x y : Operand} {n : Nat}
    (hx : evR ρ x = .slice none 0 0) (hy : evR ρ y = nv n) (h0 : 0 < n) (h1 : n ≤ 1048576) (hk : wpOps Tryd.prog ops K l (updO ρ d (.slice (some ⟨m.size, 0, some 1⟩) n n)) (m.push (.cells true (cellsN (List.replicate n 0))))) :
    wpOps Tryd.prog ops K (⟨d, .call ⟨.builtin .append, ⟨[x, y]⟩, ⟨[22, 3]⟩⟩, ty, pos, af, none⟩ :: l) ρ m := by
  refine sO (opF_eff rfl rfl ?_) hk
  have hcl : (nv 0).cells = #[nv 0] := rfl
  have e1 : aAppend Tryd.prog m 22 3 (.slice none 0 0) (nv n) = none := by
    unfold aAppend; simp only [T22, U3, isIntT]
  simp only [aEff, hx, hy, e1]
  unfold aAppendN
  simp only [T22, U3, isIntT, S3, Z3, bytes3, nv]
  rw [if_pos ⟨by decide, by decide, by kernel_rfl, by simpa using h0, by simp; omega, by decide⟩]
  have e2 : ((Array.range ((Int.ofNat n).toNat * (Value.int .i64 (Int.ofNat 0)).cells.size)).map fun x => (Value.int .i64 (Int.ofNat 0)).cells[x % (Value.int .i64 (Int.ofNat 0)).cells.size]!) = cellsN (List.replicate n 0) := by
    apply Array.ext
    · simp [cellsN, Value.cells]
    · intro i h1 h2
      simp [cellsN, Value.cells, Nat.mod_one]
  rw [e2]; rfl
def preM (F : Nat → List Int) : Nat → List Int
  | 0 => []
  | i + 1 => preM F i ++ F i
theorem preM_mono {F : Nat → List Int} {i n : Nat} (h : i ≤ n) : (preM F i).length ≤ (preM F n).length := by
  induction n with
  | zero => obtain rfl : i = 0 := by omega
            exact Nat.le_refl _
  | succ n ih =>
    by_cases e : i = n + 1
    · subst e; exact Nat.le_refl _
    · have := ih (by omega)
      rw [preM, List.length_append]; omega
theorem fall_len : ∀ {r : List Nat} {n : Nat}, Fall r → (∀ a ∈ r, a ≠ 0 ∧ blen a ≤ n) → r.length ≤ n
  | [], n, _, _ => Nat.zero_le _
  | a :: r, n, hf, h => by
    have ha := h a (by simp)
    have hp := blen_pos_iff.2 ha.1
    have := fall_len (r := r) (n := blen a - 1) (List.pairwise_cons.1 hf).2 fun b hb => ⟨(h b (by simp [hb])).1, by have := hf.tail_lt b hb; omega⟩
    rw [List.length_cons]; omega
theorem nullM_lt {l : List Nat} {n : Nat} (hn : n ≤ 24) : ∀ x ∈ nullM l n, x < 2 ^ n := redM_lt hn fun x hx => nullRows_lt hx
/-- Reduced rows are not more than columns. -/
theorem redM_len {l : List Nat} {n : Nat} (hn : n ≤ 24) (hl : ∀ x ∈ l, x < 2 ^ n) : (redM l).length ≤ n := by
  have h := redM_rref (l := l) fun x hx => Nat.lt_of_lt_of_le (hl x hx) (Nat.pow_le_pow_right (by omega) hn)
  exact fall_len h.1.fall fun a ha => ⟨h.1.ne a ha, blen_le_of_lt (redM_lt hn hl a ha)⟩
theorem nullM_len (l : List Nat) (n : Nat) (hn : n ≤ 24 := by omega) : (nullM l n).length ≤ n := redM_len hn fun x hx => nullRows_lt hx
theorem fillS2 {q1 q2 : Option Addr} {n1 n2 c1 c2 : Nat} : Instr.fill (fun i => some (i * 1, 1)) (if 2 * 1 = 0 then #[] else (Array.range (2 * 1)).map ((Value.slice none 0 0).cells[· % (Value.slice none 0 0).cells.size]!)) [(0, .slice q1 n1 c1), (1, .slice q2 n2 c2)] = some #[.slice q1 n1 c1, .slice q2 n2 c2] := by kernel_rfl

theorem okf103 : okF Tryd.prog H0 103 27 = true := by kernel_rfl
theorem spec_Grow {m : Mem} {n : Nat} (hn : n ≤ 1000000) : ∃ v m', ACalls Tryd.prog 103 #[.slice none 0 0, nv n] m v m' ∧ (OwnF m.size m' v [] ∧ Ext m m') := by
  refine wpF (args := [_, _]) mixed okf103 (fn := Tryd.f103) rfl rfl rfl (by simp) ?_
  refine cSeq ?_
  refine cRegion ?_
  refine sAs (v := .slice _ _ _) rfl ?_
  refine sNil (kSeqN ?_)
  refine cSeq ?_   -- seq 1
  refine cSeq ?_
  refine cRegion ?_
  refine sMv (v := nv _) rfl ?_
  refine sBin (b := 0) rfl rfl aInt_lss ?_
  refine sNil (kSeqN ?_)
  refine cCondF' rfl (by omega) ?_
  refine cSkip (kSeqN ?_)
  refine cSeq ?_
  refine cSeq ?_
  refine cRegion ?_
  refine sMv (v := nv _) rfl ?_
  refine sMv (v := .slice _ _ _) rfl ?_
  refine sCap0 rfl ?_
  refine sMv (v := .slice _ _ _) rfl ?_
  refine sLen T22 rfl ?_
  refine sBin rfl rfl (aInt_sub (by omega)) ?_
  refine sBin (v := nv n) rfl rfl (aInt_sub (a := n) (b := 0) (by omega)) ?_
  refine sAs (v := nv n) rfl ?_
  refine sNil (kSeqN ?_)
  refine cSeq ?_
  refine cRegion ?_
  refine sMv (v := nv _) rfl ?_
  refine sBin (a := n) (b := 0) rfl rfl aInt_gtr ?_
  refine sNil (kSeqN ?_)
  refine cCond rfl (fun c1 => ?_) (fun c1 => ?_)
  ·
    refine cRegion ?_
    refine sMv (v := .slice _ _ _) rfl ?_
    refine sMv (v := .slice _ _ _) rfl ?_
    refine sCap0 rfl ?_
    refine sO (v := .slice none 0 0) (opF_read rfl (by kernel_rfl)) ?_
    refine sMv (v := nv n) rfl ?_
    refine sAppN rfl rfl c1 (by omega) ?_
    refine sMv (v := .slice _ _ _) rfl ?_
    refine sLen T22 rfl ?_
    refine sSlHi T22 S3 rfl rfl (by omega) ?_
    refine sAs (v := .slice _ _ _) rfl ?_
    refine sNil (kSeqN ?_)
    refine cSeq ?_
    refine cRegion ?_
    refine sMv (v := .slice _ _ _) rfl ?_
    refine sAs (v := .slice _ _ _) rfl ?_
    refine sNil (kSeqN ?_)
    refine cRet ?_
    exact ⟨.inr rfl, _, rfl, .inr ⟨m.size, n, _, rfl, Nat.le_refl _, gP rfl, by simp, by simp, by simp⟩, .push _ _⟩
  ·
    refine cSkip (kSeqN ?_)
    refine cSeq ?_
    refine cRegion ?_
    refine sMv (v := .slice _ _ _) rfl ?_
    refine sAs (v := .slice _ _ _) rfl ?_
    refine sNil (kSeqN ?_)
    refine cRet ?_
    exact ⟨.inr rfl, _, rfl, .nil _ _, .refl _⟩

theorem okf68 : okF Tryd.prog H0 68 36 = true := by kernel_rfl
theorem spec_Concat {m : Mem} {b n cap : Nat} {r : Bool} {c : Array Value} {S : Nat → Value} {F : Nat → List Int} (hb : Mem.get m b = .cells r c) (hc : ∀ i, i < n → c[0 + i * 1]? = some (S i)) (hS : ∀ i, i < n → IntsAt m (S i) (F i)) (hn : n ≤ 1000) (hlen : (preM F n).length ≤ 1000000) :
      ∃ v m', ACalls Tryd.prog 68 #[.slice (some ⟨b, 0, some 1⟩) n cap] m v m' ∧ (OwnF m.size m' v (preM F n) ∧ Ext m m') := by
  have hbm := live hb
  refine wpF (args := [_]) mixed okf68 (fn := Tryd.f68) rfl rfl rfl (by simp) ?_
  refine cSeq ?_
  refine cRegion ?_
  refine sAs (v := .slice _ _ _) rfl ?_
  refine sNil (kSeqN ?_)
  refine cSeq ?_
  refine cRegion ?_
  refine sAs (v := nv 0) rfl ?_
  refine sNil (kSeqN ?_)
  refine cSeq ?_
  refine cSeq ?_
  refine cRegion ?_
  refine sMv (v := .slice _ _ _) rfl ?_
  refine sLen T90 rfl ?_
  refine sMv (v := nv 0) rfl ?_
  refine sNil (kSeqN ?_)
  refine cBlock ?_
  refine wpC_loop (fun k ρ m' => ∃ i, k = n - i ∧ i ≤ n ∧ m' = m ∧ Has ρ [(0, .slice (some ⟨b, 0, some 1⟩) n cap), (3, nv (preM F i).length), (9, .slice (some ⟨b, 0, some 1⟩) n cap), (10, nv n), (11, nv i)]) ⟨0, rfl, Nat.zero_le _, rfl, rfl, rfl, rfl, rfl, rfl, trivial⟩ ?_
  rintro k ρ m' ⟨i, rfl, hi, hm', hh⟩
  obtain rfl := hm'.symm
  rw [hh.env]; clear hh
  refine cSeq ?_
  refine cRegion ?_
  refine sBin rfl rfl (aInt_lss) ?_
  refine sNil (kSeqN ?_)
  refine cSeq ?_   -- seq 5
  refine cCond rfl (fun c0 => ?_) (fun c0 => ?_)
  ·
    obtain ⟨qs, cs, hqs⟩ := (hS i c0).len
    have hci := hc i c0
    rw [hqs] at hci
    have hm1 := preM_mono (F := F) (i := i + 1) (n := n) (by omega)
    have hl1 : (preM F (i + 1)).length = (preM F i).length + (F i).length := by rw [preM, List.length_append]
    refine cSkip (kSeqN ?_)
    refine cSeq ?_
    refine cBlock ?_
    refine cSeq ?_
    refine cRegion ?_
    refine sIx T90 S22 rfl rfl c0 ?_
    refine sLd (v := .slice qs (F i).length cs) A22 rfl hb hci ?_
    refine sAs (v := .slice _ _ _) rfl ?_
    refine sNil (kSeqN ?_)
    refine cSeq ?_
    refine cRegion ?_
    refine sMv (v := nv _) rfl ?_
    refine sMv (v := .slice _ _ _) rfl ?_
    refine sLen T22 rfl ?_
    refine sBin rfl rfl (aInt_add (by omega)) ?_
    refine sAs (v := nv _) rfl ?_
    refine sNil (kSeqN ?_)
    refine cSeq ?_
    refine cRegion ?_
    refine sMv (v := nv _) rfl ?_
    refine sBin (b := 0) rfl rfl aInt_lss ?_
    refine sNil (kSeqN ?_)
    refine cCondF' rfl (by omega) ?_
    refine cSkip (kBlkN (kSeqN ?_))
    refine cRegion ?_
    refine sBin rfl rfl (aInt_add (b := 1) (by omega)) ?_
    refine sMv (v := nv _) rfl ?_
    refine sNil (kSeqN ?_)
    refine ⟨_, ?_, i + 1, rfl, by omega, rfl, rfl, by rw [hl1]; rfl, rfl, rfl, rfl, trivial⟩
    omega
  ·
    obtain rfl : i = n := by omega
    refine cExit (kSeqE (kSeqE (kBlkS (kSeqN ?_))))
    refine cSeq ?_
    refine cRegion ?_
    refine sMv (v := nv _) rfl ?_
    obtain ⟨v24, m24, h24, k24, k24e⟩ := spec_Grow (m := m) (n := (preM F i).length) (by omega)
    obtain ⟨q24, c24, rfl⟩ := k24.ints.len
    refine sCall2 rfl call103 rfl rfl h24 ?_
    refine sAs (v := .slice _ _ _) rfl ?_
    refine sNil (kSeqN ?_)
    refine cSeq ?_
    refine cSeq ?_
    refine cRegion ?_
    refine sMv (v := .slice _ _ _) rfl ?_
    refine sLen T90 rfl ?_
    refine sMv (v := nv 0) rfl ?_
    refine sNil (kSeqN ?_)
    refine cBlock ?_
    refine wpC_loop (fun k ρ m' => ∃ j v, k = i - j ∧ j ≤ i ∧ Low m.size m m' ∧ OwnF m.size m' v (preM F j) ∧ Has ρ [(6, v), (25, .slice (some ⟨b, 0, some 1⟩) i cap), (26, nv i), (27, nv j)]) ⟨0, _, rfl, Nat.zero_le _, k24e, k24, rfl, rfl, rfl, rfl, trivial⟩ ?_
    rintro k2 ρ m' ⟨j, v, rfl, hj, hLo, hO, hh⟩
    obtain ⟨qv, cv, rfl⟩ := hO.ints.len
    rw [hh.env]; clear hh
    refine cSeq ?_
    refine cRegion ?_
    refine sBin rfl rfl (aInt_lss) ?_
    refine sNil (kSeqN ?_)
    refine cSeq ?_   -- seq 14
    refine cCond rfl (fun c2 => ?_) (fun c2 => ?_)
    ·
      obtain ⟨qs, cs, hqs⟩ := (hS j c2).len
      have hci := hc j c2
      rw [hqs] at hci
      have hm1 := preM_mono (F := F) (i := j + 1) (n := i) (by omega)
      have hl1 : (preM F (j + 1)).length = (preM F j).length + (F j).length := by rw [preM, List.length_append]
      have hIj := (hS j c2).ext (hLo.to_ext (.refl _) (Nat.le_refl _))
      rw [hqs] at hIj
      refine cSkip (kSeqN ?_)
      refine cSeq ?_
      refine cBlock ?_
      refine cSeq ?_
      refine cRegion ?_
      refine sIx T90 S22 rfl rfl c2 ?_
      refine sLd (v := .slice qs (F j).length cs) A22 rfl (hLo.cells hbm hb) hci ?_
      refine sAs (v := .slice _ _ _) rfl ?_
      refine sNil (kSeqN ?_)
      refine cRegion ?_
      refine sMv (v := .slice _ _ _) rfl ?_
      refine sMv (v := .slice _ _ _) rfl ?_
      refine sApp App22 rfl rfl hO hIj hLo.1 (by omega) fun v3 m3 hO3 hL3 => ?_
      obtain ⟨q3, cp3, rfl⟩ := hO3.ints.len
      refine sAs (v := .slice _ _ _) rfl ?_
      refine sNil (kBlkN (kSeqN ?_))
      refine cRegion ?_
      refine sBin rfl rfl (aInt_add (b := 1) (by omega)) ?_
      refine sMv (v := nv _) rfl ?_
      refine sNil (kSeqN ?_)
      refine ⟨_, ?_, j + 1, _, rfl, by omega, hLo.trans hL3, hO3, rfl, rfl, rfl, rfl, trivial⟩
      omega
    ·
      refine cExit (kSeqE (kSeqE (kBlkS (kSeqN ?_))))
      refine cSeq ?_
      refine cRegion ?_
      refine sMv (v := .slice _ _ _) rfl ?_
      refine sAs (v := .slice _ _ _) rfl ?_
      refine sNil (kSeqN ?_)
      refine cRet ?_
      obtain rfl : j = i := by omega
      exact ⟨.inr rfl, _, rfl, hO, hLo⟩

theorem okf67 : okF Tryd.prog H0 67 26 = true := by kernel_rfl
theorem spec_Meet {m : Mem} {a b : Value} {l r : List Int} {n : Int} (hG : Glob m) (ha : IntsAt m a l) (hb : IntsAt m b r) (hl : l.length < 4611686018427387904) (hr : r.length < 4611686018427387904) : ∃ v m', ACalls Tryd.prog 67 #[a, b, .int .i64 n] m v m' ∧
      (∃ w, v = .tuple #[w, nv (bothF l r n)] ∧ OwnF m.size m' w (ofs (ifOk (bothF l r n) (nullM (nullM (nats l) n.toNat ++ nullM (nats r) n.toNat) n.toNat) [])) ∧ Ext m m') := by
  obtain ⟨v9, m9, h9, rfl, k9⟩ := spec_both (n := n) ha hb hl hr
  obtain ⟨q, cap, rfl⟩ := ha.len
  obtain ⟨q2, cap2, rfl⟩ := hb.len
  refine wpF (args := [_, _, _]) mixed okf67 (fn := Tryd.f67) rfl rfl rfl (by simp) ?_
  refine cSeq ?_
  refine cRegion ?_
  refine sAs (v := .slice _ _ _) rfl ?_
  refine sAs (v := nv 0) rfl ?_
  refine sNil (kSeqN ?_)
  refine cSeq ?_
  refine cSeq ?_
  refine cRegion ?_
  refine sMv (v := .slice _ _ _) rfl ?_
  refine sMv (v := .slice _ _ _) rfl ?_
  refine sMv (v := .int _ _) rfl ?_
  refine sCall3 rfl call101 rfl rfl rfl h9 ?_
  refine sAs (v := nv _) rfl ?_
  refine sNil (kSeqN ?_)
  refine cSeq ?_
  refine cRegion ?_
  refine sMv (v := nv _) rfl ?_
  refine sBin (a := bothF l r n) rfl rfl (aInt_neq (b := 0)) ?_
  refine sNil (kSeqN ?_)
  refine cCond rfl (fun c0 => ?_) (fun c0 => ?_)
  ·
    refine cSeq ?_
    refine cRegion ?_
    refine sMv (v := nv _) rfl ?_
    refine sAs (v := .slice _ _ _) rfl ?_
    refine sAs (v := nv _) rfl ?_
    refine sNil (kSeqN ?_)
    refine cRet (kSeqR ?_)
    exact ⟨.inr rfl, _, rfl, _, rfl, by rw [ifOk_n c0]; exact .nil _ _, k9⟩
  ·
    have h0 := Decidable.not_not.1 c0
    have hcl : checkF l n = 0 ∧ checkF r n = 0 := by
      unfold bothF at h0; split at h0
      · exact ⟨by assumption, h0⟩
      · exact absurd h0 (by assumption)
    obtain ⟨N, L, rfl, rfl, hN1, hN2, hL1, hL2⟩ := checkF_nat hcl.1
    obtain ⟨N', R, hNN, rfl, _, _, hR1, hR2⟩ := checkF_nat hcl.2
    obtain rfl : N' = N := by have := Int.ofNat.inj hNN; omega
    have hL3 : ∀ x ∈ L, x < 2 ^ 24 := fun x hx => Nat.lt_of_lt_of_le (hL2 x hx) (Nat.pow_le_pow_right (by omega) (by omega))
    have hR3 : ∀ x ∈ R, x < 2 ^ 24 := fun x hx => Nat.lt_of_lt_of_le (hR2 x hx) (Nat.pow_le_pow_right (by omega) (by omega))
    have hn1 := nullM_len L N'
    have hn2 := nullM_len R N'
    refine cSkip (kSeqN ?_)
    refine cSeq ?_
    refine cRegion ?_
    refine sMv (v := .slice _ _ _) rfl ?_
    refine sMv (v := nv N') rfl ?_
    obtain ⟨v18, m18, h18, k18, k18e⟩ := spec_null (n := N') (hG.ext k9) (ha.ext k9) (by omega) hL3 (by omega)
    have hI18 := k18.ints
    obtain ⟨q18, c18, rfl⟩ := hI18.lenN
    refine sCall2 rfl call86 rfl rfl h18 ?_
    refine sMv (v := .slice _ _ _) rfl ?_
    refine sMv (v := nv N') rfl ?_
    obtain ⟨v21, m21, h21, k21, k21e⟩ := spec_null (n := N') (hG.ext (k9.trans k18e)) (hb.ext (k9.trans k18e)) (by omega) hR3 (by omega)
    have hI21 := k21.ints
    obtain ⟨q21, c21, rfl⟩ := hI21.lenN
    refine sCall2 rfl call86 rfl rfl h21 ?_
    refine sBuildS T90 S22 Z22 (by decide) (by decide) (by decide) (by kernel_rfl) fillS2 rfl ?_
    obtain ⟨v23, m23, h23, k23, k23e⟩ := spec_Concat (m := m21.push (.cells true #[.slice q18 (nullM L N').length c18, .slice q21 (nullM R N').length c21])) (b := m21.size) (n := 2) (cap := 2)
      (S := fun i => if i = 0 then .slice q18 (nullM L N').length c18 else .slice q21 (nullM R N').length c21) (F := fun i => if i = 0 then ofs (nullM L N') else ofs (nullM R N')) (gP rfl)
      (fun i hi => by match i with
        | 0 => rfl
        | 1 => rfl
        | i + 2 => omega)
      (fun i hi => by match i with
        | 0 => exact (hI18.ext k21e).ext (.push _ _)
        | 1 => exact hI21.ext (.push _ _)
        | i + 2 => omega) (by omega) (by simp [preM]; omega)
    have hpre : preM (fun i => if i = 0 then ofs (nullM L N') else ofs (nullM R N')) 2 = ofs (nullM L N' ++ nullM R N') := by simp [preM, ofs_append]
    rw [hpre] at k23
    have hI23 := k23.ints
    obtain ⟨q23, c23, rfl⟩ := hI23.lenN
    refine sCall1 rfl call68 rfl h23 ?_
    refine sMv (v := nv N') rfl ?_
    obtain ⟨v25, m25, h25, k25, k25e⟩ := spec_null (n := N') (hG.ext (((k9.trans k18e).trans k21e).trans ((Ext.push _ _).trans k23e))) hI23 (by rw [List.length_append]; omega) (fun x hx => by
        rcases List.mem_append.1 hx with hx | hx
        · exact Nat.lt_of_lt_of_le (nullM_lt (by omega) x hx) (Nat.pow_le_pow_right (by omega) (by omega))
        · exact Nat.lt_of_lt_of_le (nullM_lt (by omega) x hx) (Nat.pow_le_pow_right (by omega) (by omega))) (by omega)
    obtain ⟨q25, c25, rfl⟩ := k25.ints.lenN
    refine sCall2 rfl call86 rfl rfl h25 ?_
    refine sAs (v := .slice _ _ _) rfl ?_
    refine sAs (v := nv 0) rfl ?_
    refine sNil (kSeqN ?_)
    refine cRet ?_
    have hEE := ((k9.trans k18e).trans k21e).trans ((Ext.push _ _).trans k23e)
    exact ⟨.inr rfl, _, rfl, _, by rw [h0]; rfl, by rw [ifOk_0 h0, nats_ofs, nats_ofs]; exact k25.mono hEE.1, hEE.trans k25e⟩

end Go.AM

/-! ### E23 -/
namespace Go.AM
open Go.Proofs
set_option maxRecDepth 100000
set_option linter.unusedVariables false
set_option linter.unusedSimpArgs false
theorem call17 : callable Tryd.prog 17 = true := by kernel_rfl
theorem call21 : callable Tryd.prog 21 = true := by kernel_rfl
theorem call23 : callable Tryd.prog 23 = true := by kernel_rfl
theorem call28 : callable Tryd.prog 28 = true := by kernel_rfl
theorem call29 : callable Tryd.prog 29 = true := by kernel_rfl
theorem call38 : callable Tryd.prog 38 = true := by kernel_rfl
theorem call39 : callable Tryd.prog 39 = true := by kernel_rfl
theorem call43 : callable Tryd.prog 43 = true := by kernel_rfl
theorem call51 : callable Tryd.prog 51 = true := by kernel_rfl
theorem call52 : callable Tryd.prog 52 = true := by kernel_rfl
theorem call53 : callable Tryd.prog 53 = true := by kernel_rfl
theorem call67 : callable Tryd.prog 67 = true := by kernel_rfl
/-- A new slice of given numbers. -/
theorem new_ints {m : Mem} {l : List Nat} {n : Nat} (h : l.length = n := by rfl) : IntsAt (m.push (.cells true (cellsN l))) (.slice (some ⟨m.size, 0, some 1⟩) n n) (ofs l) := by
  subst h; exact cellsN_ints (gP rfl)
theorem spec_Eq {m : Mem} {a b : Value} {l r : List Nat} (ha : IntsAt m a (ofs l)) (hb : IntsAt m b (ofs r)) (hl : l.length < 1000) : ∃ v m', ACalls Tryd.prog 23 #[a, b] m v m' ∧ (v = .bool (decide (l = r)) ∧ m' = m) := by
  refine ⟨_, _, spec_Equal ha hb (by rw [ofs_length]; omega), ?_, rfl⟩
  congr 1
  exact decide_eq_decide.2 ofs_inj

theorem TA30 : (Value.tuple #[nv (ifOk (whichE (ofs [3, 5, 6]) 4 6) (whichM (nats (ofs [3, 5, 6])) (6 : Int).toNat).2 0), nv (whichE (ofs [3, 5, 6]) 4 6)]) = .tuple #[nv 3, nv 0] := by
  rw [show ifOk (whichE (ofs [3, 5, 6]) 4 6) (whichM (nats (ofs [3, 5, 6])) (6 : Int).toNat).2 0 = 3 by decide +kernel, show whichE (ofs [3, 5, 6]) 4 6 = 0 by decide +kernel]
theorem TA45 : (Value.tuple #[nv (ifOk (solveE (ofs [3, 6]) 3 3) (whichM (turnedM (nats (ofs [3, 6])) (3 : Int).toNat) (3 : Int).toNat).2 0), nv (solveE (ofs [3, 6]) 3 3)]) = .tuple #[nv 2, nv 0] := by
  rw [show ifOk (solveE (ofs [3, 6]) 3 3) (whichM (turnedM (nats (ofs [3, 6])) (3 : Int).toNat) (3 : Int).toNat).2 0 = 2 by decide +kernel, show solveE (ofs [3, 6]) 3 3 = 0 by decide +kernel]
theorem TA66 : (Value.tuple #[nv (ifOk (oneF (ofs [3, 5, 6]) 3 7) (cosetM (nats (ofs [3, 5, 6])) (7 : Int).toNat) 0), nv (oneF (ofs [3, 5, 6]) 3 7)]) = .tuple #[nv 1, nv 0] := by
  rw [show ifOk (oneF (ofs [3, 5, 6]) 3 7) (cosetM (nats (ofs [3, 5, 6])) (7 : Int).toNat) 0 = 1 by decide +kernel, show oneF (ofs [3, 5, 6]) 3 7 = 0 by decide +kernel]
theorem TA25 {w : Value} : (Value.tuple #[w, nv (checkF (ofs [3, 5, 6]) 4)]) = .tuple #[w, nv 0] := by
  rw [show checkF (ofs [3, 5, 6]) 4 = 0 by decide +kernel]
theorem TA35 {w : Value} : (Value.tuple #[w, nv (checkF (ofs [3, 5, 6]) 4)]) = .tuple #[w, nv 0] := by
  rw [show checkF (ofs [3, 5, 6]) 4 = 0 by decide +kernel]
theorem TA40 {w : Value} : (Value.tuple #[w, nv (checkF (ofs [3, 5, 6]) 4)]) = .tuple #[w, nv 0] := by
  rw [show checkF (ofs [3, 5, 6]) 4 = 0 by decide +kernel]
theorem TA51 {w : Value} : (Value.tuple #[w, nv (mulE (ofs [1, 3]) 2 (ofs [5, 6]) 3)]) = .tuple #[w, nv 0] := by
  rw [show mulE (ofs [1, 3]) 2 (ofs [5, 6]) 3 = 0 by decide +kernel]
theorem TA56 {w : Value} : (Value.tuple #[w, nv (turnE (ofs [3, 6]) 3)]) = .tuple #[w, nv 0] := by
  rw [show turnE (ofs [3, 6]) 3 = 0 by decide +kernel]
theorem TA61 {w : Value} : (Value.tuple #[w, nv (invE (ofs [3, 2, 4]) 3)]) = .tuple #[w, nv 0] := by
  rw [show invE (ofs [3, 2, 4]) 3 = 0 by decide +kernel]
theorem TA72 {w : Value} : (Value.tuple #[w, nv (bothF (ofs [3, 4]) (ofs [5, 2]) 3)]) = .tuple #[w, nv 0] := by
  rw [show bothF (ofs [3, 4]) (ofs [5, 2]) 3 = 0 by decide +kernel]

theorem okf17 : okF Tryd.prog H0 17 160 = true := by kernel_rfl
theorem spec_awake {m : Mem} (hG : Glob m) : ∃ v m', ACalls Tryd.prog 17 #[] m v m' ∧ (v = .bool true ∧ Ext m m') := by
  refine wpF (args := []) mixed okf17 (fn := Tryd.f17) rfl rfl rfl (by simp) ?_
  refine cSeq ?_
  refine cRegion ?_
  refine sAs (v := .bool false) rfl ?_
  refine sNil (kSeqN ?_)
  refine cSeq ?_
  refine cRegion ?_
  refine sBuildS (c := cellsN [3, 5, 6]) T22 S3 Z3 (by decide) (by decide) (by decide) (by kernel_rfl) (by kernel_rfl) rfl ?_
  refine sAs (v := .slice _ _ _) rfl ?_
  have hl : IntsAt (m.push (.cells true (cellsN [3, 5, 6]))) (.slice (some ⟨m.size, 0, some 1⟩) 3 3) (ofs [3, 5, 6]) := new_ints
  have E0 : Ext m (m.push (.cells true (cellsN [3, 5, 6]))) := .push _ _
  refine sNil (kSeqN ?_)
  refine cSeq ?_
  refine cRegion ?_
  refine sMv (v := .slice _ _ _) rfl ?_
  obtain ⟨v25, m25, h25, w25, rfl, o25, e25⟩ := spec_Reduce (l := ofs [3, 5, 6]) (n := 4) hl (by decide)
  rw [show (ofs (ifOk _ _ _)) = ofs [5, 3] from congrArg ofs (by decide +kernel)] at o25
  have i25 := o25.ints
  obtain ⟨q25, c25, rfl⟩ := i25.lenN
  rw [TA25] at h25
  refine sCall2 rfl call43 rfl rfl h25 ?_
  have E25 : Ext m m25 := E0.trans e25
  have hl25 := hl.ext e25
  refine sMv (v := .tuple _) rfl ?_
  refine sP (v := .slice _ _ _) rfl ?_   -- extract ['t23', '0']
  refine sP (v := nv _) rfl ?_   -- extract ['t23', '1']
  refine sAs (v := .slice _ _ _) rfl ?_
  refine sAs (v := nv _) rfl ?_
  refine sNil (kSeqN ?_)
  refine cSeq ?_
  refine cRegion ?_
  refine sMv (v := .slice _ _ _) rfl ?_
  obtain ⟨v30, m30, h30, rfl, e30⟩ := spec_Which (l := ofs [3, 5, 6]) (n := 4) (row := 6) hl25 (by decide)
  rw [TA30] at h30
  refine sCall3 rfl call38 rfl rfl rfl h30 ?_
  have E30 : Ext m m30 := E25.trans e30
  have hl30 := hl25.ext e30
  have i25_30 := i25.ext e30
  refine sMv (v := .tuple _) rfl ?_
  refine sP (v := nv _) rfl ?_   -- extract ['t28', '0']
  refine sP (v := nv _) rfl ?_   -- extract ['t28', '1']
  refine sAs (v := nv _) rfl ?_
  refine sAs (v := nv _) rfl ?_
  refine sNil (kSeqN ?_)
  refine cSeq ?_
  refine cRegion ?_
  refine sMv (v := .slice _ _ _) rfl ?_
  obtain ⟨v35, m35, h35, w35, rfl, o35, e35⟩ := spec_Null (l := ofs [3, 5, 6]) (n := 4) (hG.ext E30) hl30 (by decide)
  rw [show (ofs (ifOk _ _ _)) = ofs [8, 7] from congrArg ofs (by decide +kernel)] at o35
  have i35 := o35.ints
  obtain ⟨q35, c35, rfl⟩ := i35.lenN
  rw [TA35] at h35
  refine sCall2 rfl call39 rfl rfl h35 ?_
  have E35 : Ext m m35 := E30.trans e35
  have hl35 := hl30.ext e35
  have i25_35 := i25_30.ext e35
  refine sMv (v := .tuple _) rfl ?_
  refine sP (v := .slice _ _ _) rfl ?_   -- extract ['t33', '0']
  refine sP (v := nv _) rfl ?_   -- extract ['t33', '1']
  refine sAs (v := .slice _ _ _) rfl ?_
  refine sAs (v := nv _) rfl ?_
  refine sNil (kSeqN ?_)
  refine cSeq ?_
  refine cRegion ?_
  refine sMv (v := .slice _ _ _) rfl ?_
  obtain ⟨v40, m40, h40, w40, rfl, o40, e40⟩ := spec_Weights (l := ofs [3, 5, 6]) (n := 4) (hG.ext E35) hl35 (by decide)
  rw [show (ofs (ifOk _ _ _)) = ofs [1, 0, 3, 0, 0] from congrArg ofs (by decide +kernel)] at o40
  have i40 := o40.ints
  obtain ⟨q40, c40, rfl⟩ := i40.lenN
  rw [TA40] at h40
  refine sCall2 rfl call28 rfl rfl h40 ?_
  have E40 : Ext m m40 := E35.trans e40
  have hl40 := hl35.ext e40
  have i25_40 := i25_35.ext e40
  have i35_40 := i35.ext e40
  refine sMv (v := .tuple _) rfl ?_
  refine sP (v := .slice _ _ _) rfl ?_   -- extract ['t38', '0']
  refine sP (v := nv _) rfl ?_   -- extract ['t38', '1']
  refine sAs (v := .slice _ _ _) rfl ?_
  refine sAs (v := nv _) rfl ?_
  refine sNil (kSeqN ?_)
  refine cSeq ?_
  refine cRegion ?_
  refine sBuildS (c := cellsN [3, 6]) T22 S3 Z3 (by decide) (by decide) (by decide) (by kernel_rfl) (by kernel_rfl) rfl ?_
  obtain ⟨v45, m45, h45, rfl, e45⟩ := spec_Solve (l := ofs [3, 6]) (n := 3) (b := 3) (new_ints (m := m40) (l := [3, 6])) (by decide)
  rw [TA45] at h45
  refine sCall3 rfl call21 rfl rfl rfl h45 ?_
  have E45 : Ext m m45 := E40.trans ((Ext.push m40 _).trans e45)
  have hl45 := hl40.ext ((Ext.push m40 _).trans e45)
  have i25_45 := i25_40.ext ((Ext.push m40 _).trans e45)
  have i35_45 := i35_40.ext ((Ext.push m40 _).trans e45)
  have i40_45 := i40.ext ((Ext.push m40 _).trans e45)
  refine sMv (v := .tuple _) rfl ?_
  refine sP (v := nv _) rfl ?_   -- extract ['t43', '0']
  refine sP (v := nv _) rfl ?_   -- extract ['t43', '1']
  refine sAs (v := nv _) rfl ?_
  refine sAs (v := nv _) rfl ?_
  refine sNil (kSeqN ?_)
  refine cSeq ?_
  refine cRegion ?_
  refine sBuildS (c := cellsN [1, 3]) T22 S3 Z3 (by decide) (by decide) (by decide) (by kernel_rfl) (by kernel_rfl) rfl ?_
  refine sBuildS (c := cellsN [5, 6]) T22 S3 Z3 (by decide) (by decide) (by decide) (by kernel_rfl) (by kernel_rfl) rfl ?_
  obtain ⟨v51, m51, h51, w51, rfl, o51, e51⟩ := spec_Mul (l := ofs [1, 3]) (n := 2) (r := ofs [5, 6]) (k := 3) ((new_ints (m := m45) (l := [1, 3])).ext (.push _ _)) (new_ints (m := (m45.push (.cells true (cellsN [1, 3])))) (l := [5, 6])) (by decide) (by decide)
  rw [show (ofs (ifOk _ _ _)) = ofs [5, 3] from congrArg ofs (by decide +kernel)] at o51
  have i51 := o51.ints
  obtain ⟨q51, c51, rfl⟩ := i51.lenN
  rw [TA51] at h51
  refine sCall4 rfl call51 rfl rfl rfl rfl h51 ?_
  have E51 : Ext m m51 := E45.trans (((Ext.push m45 _).push' _).trans e51)
  have hl51 := hl45.ext (((Ext.push m45 _).push' _).trans e51)
  have i25_51 := i25_45.ext (((Ext.push m45 _).push' _).trans e51)
  have i35_51 := i35_45.ext (((Ext.push m45 _).push' _).trans e51)
  have i40_51 := i40_45.ext (((Ext.push m45 _).push' _).trans e51)
  refine sMv (v := .tuple _) rfl ?_
  refine sP (v := .slice _ _ _) rfl ?_   -- extract ['t48', '0']
  refine sP (v := nv _) rfl ?_   -- extract ['t48', '1']
  refine sAs (v := .slice _ _ _) rfl ?_
  refine sAs (v := nv _) rfl ?_
  refine sNil (kSeqN ?_)
  refine cSeq ?_
  refine cRegion ?_
  refine sBuildS (c := cellsN [3, 6]) T22 S3 Z3 (by decide) (by decide) (by decide) (by kernel_rfl) (by kernel_rfl) rfl ?_
  obtain ⟨v56, m56, h56, w56, rfl, o56, e56⟩ := spec_Transpose (l := ofs [3, 6]) (n := 3) (new_ints (m := m51) (l := [3, 6])) (by decide)
  rw [show (ofs (ifOk _ _ _)) = ofs [1, 3, 2] from congrArg ofs (by decide +kernel)] at o56
  have i56 := o56.ints
  obtain ⟨q56, c56, rfl⟩ := i56.lenN
  rw [TA56] at h56
  refine sCall2 rfl call52 rfl rfl h56 ?_
  have E56 : Ext m m56 := E51.trans ((Ext.push m51 _).trans e56)
  have hl56 := hl51.ext ((Ext.push m51 _).trans e56)
  have i25_56 := i25_51.ext ((Ext.push m51 _).trans e56)
  have i35_56 := i35_51.ext ((Ext.push m51 _).trans e56)
  have i40_56 := i40_51.ext ((Ext.push m51 _).trans e56)
  have i51_56 := i51.ext ((Ext.push m51 _).trans e56)
  refine sMv (v := .tuple _) rfl ?_
  refine sP (v := .slice _ _ _) rfl ?_   -- extract ['t54', '0']
  refine sP (v := nv _) rfl ?_   -- extract ['t54', '1']
  refine sAs (v := .slice _ _ _) rfl ?_
  refine sAs (v := nv _) rfl ?_
  refine sNil (kSeqN ?_)
  refine cSeq ?_
  refine cRegion ?_
  refine sBuildS (c := cellsN [3, 2, 4]) T22 S3 Z3 (by decide) (by decide) (by decide) (by kernel_rfl) (by kernel_rfl) rfl ?_
  obtain ⟨v61, m61, h61, w61, rfl, o61, e61⟩ := spec_Invert (l := ofs [3, 2, 4]) (n := 3) (new_ints (m := m56) (l := [3, 2, 4])) (by decide)
  rw [show (ofs (ifOk _ _ _)) = ofs [3, 2, 4] from congrArg ofs (by decide +kernel)] at o61
  have i61 := o61.ints
  obtain ⟨q61, c61, rfl⟩ := i61.lenN
  rw [TA61] at h61
  refine sCall2 rfl call53 rfl rfl h61 ?_
  have E61 : Ext m m61 := E56.trans ((Ext.push m56 _).trans e61)
  have hl61 := hl56.ext ((Ext.push m56 _).trans e61)
  have i25_61 := i25_56.ext ((Ext.push m56 _).trans e61)
  have i35_61 := i35_56.ext ((Ext.push m56 _).trans e61)
  have i40_61 := i40_56.ext ((Ext.push m56 _).trans e61)
  have i51_61 := i51_56.ext ((Ext.push m56 _).trans e61)
  have i56_61 := i56.ext ((Ext.push m56 _).trans e61)
  refine sMv (v := .tuple _) rfl ?_
  refine sP (v := .slice _ _ _) rfl ?_   -- extract ['t59', '0']
  refine sP (v := nv _) rfl ?_   -- extract ['t59', '1']
  refine sAs (v := .slice _ _ _) rfl ?_
  refine sAs (v := nv _) rfl ?_
  refine sNil (kSeqN ?_)
  refine cSeq ?_
  refine cRegion ?_
  refine sMv (v := .slice _ _ _) rfl ?_
  obtain ⟨v66, m66, h66, rfl, e66⟩ := spec_Coset (l := ofs [3, 5, 6]) (n := 3) (row := 7) (hG.ext E61) hl61 (by decide)
  rw [TA66] at h66
  refine sCall3 rfl call29 rfl rfl rfl h66 ?_
  have E66 : Ext m m66 := E61.trans e66
  have hl66 := hl61.ext e66
  have i25_66 := i25_61.ext e66
  have i35_66 := i35_61.ext e66
  have i40_66 := i40_61.ext e66
  have i51_66 := i51_61.ext e66
  have i56_66 := i56_61.ext e66
  have i61_66 := i61.ext e66
  refine sMv (v := .tuple _) rfl ?_
  refine sP (v := nv _) rfl ?_   -- extract ['t64', '0']
  refine sP (v := nv _) rfl ?_   -- extract ['t64', '1']
  refine sAs (v := nv _) rfl ?_
  refine sAs (v := nv _) rfl ?_
  refine sNil (kSeqN ?_)
  refine cSeq ?_
  refine cRegion ?_
  refine sBuildS (c := cellsN [3, 4]) T22 S3 Z3 (by decide) (by decide) (by decide) (by kernel_rfl) (by kernel_rfl) rfl ?_
  refine sBuildS (c := cellsN [5, 2]) T22 S3 Z3 (by decide) (by decide) (by decide) (by kernel_rfl) (by kernel_rfl) rfl ?_
  obtain ⟨v72, m72, h72, w72, rfl, o72, e72⟩ := spec_Meet (l := ofs [3, 4]) (r := ofs [5, 2]) (n := 3) (hG.ext (E66.trans ((Ext.push m66 _).push' _))) ((new_ints (m := m66) (l := [3, 4])).ext (.push _ _)) (new_ints (m := (m66.push (.cells true (cellsN [3, 4])))) (l := [5, 2])) (by decide) (by decide)
  rw [show (ofs (ifOk _ _ _)) = ofs [7] from congrArg ofs (by decide +kernel)] at o72
  have i72 := o72.ints
  obtain ⟨q72, c72, rfl⟩ := i72.lenN
  rw [TA72] at h72
  refine sCall3 rfl call67 rfl rfl rfl h72 ?_
  have E72 : Ext m m72 := E66.trans (((Ext.push m66 _).push' _).trans e72)
  have hl72 := hl66.ext (((Ext.push m66 _).push' _).trans e72)
  have i25_72 := i25_66.ext (((Ext.push m66 _).push' _).trans e72)
  have i35_72 := i35_66.ext (((Ext.push m66 _).push' _).trans e72)
  have i40_72 := i40_66.ext (((Ext.push m66 _).push' _).trans e72)
  have i51_72 := i51_66.ext (((Ext.push m66 _).push' _).trans e72)
  have i56_72 := i56_66.ext (((Ext.push m66 _).push' _).trans e72)
  have i61_72 := i61_66.ext (((Ext.push m66 _).push' _).trans e72)
  refine sMv (v := .tuple _) rfl ?_
  refine sP (v := .slice _ _ _) rfl ?_   -- extract ['t69', '0']
  refine sP (v := nv _) rfl ?_   -- extract ['t69', '1']
  refine sAs (v := .slice _ _ _) rfl ?_
  refine sAs (v := nv _) rfl ?_
  refine sNil (kSeqN ?_)
  refine cSeq ?_
  refine cRegion ?_
  refine sMv (v := nv _) rfl ?_
  refine sBin (v := .bool true) (a := 0) (b := 0) rfl rfl (by rw [aInt_eql]; rfl) ?_
  refine sMv (v := .bool true) rfl ?_
  refine sG rfl rfl ?_
  refine sMv (v := nv _) rfl ?_
  refine sG rfl rfl ?_
  refine sBin (v := .bool true) (a := 0) (b := 0) rfl rfl (by rw [aInt_eql]; rfl) ?_
  refine sP (v := .bool true) rfl ?_
  refine sMv (v := .bool true) rfl ?_
  refine sG rfl rfl ?_
  refine sMv (v := nv _) rfl ?_
  refine sG rfl rfl ?_
  refine sBin (v := .bool true) (a := 0) (b := 0) rfl rfl (by rw [aInt_eql]; rfl) ?_
  refine sP (v := .bool true) rfl ?_
  refine sMv (v := .bool true) rfl ?_
  refine sG rfl rfl ?_
  refine sMv (v := nv _) rfl ?_
  refine sG rfl rfl ?_
  refine sBin (v := .bool true) (a := 0) (b := 0) rfl rfl (by rw [aInt_eql]; rfl) ?_
  refine sP (v := .bool true) rfl ?_
  refine sMv (v := .bool true) rfl ?_
  refine sG rfl rfl ?_
  refine sMv (v := nv _) rfl ?_
  refine sG rfl rfl ?_
  refine sBin (v := .bool true) (a := 0) (b := 0) rfl rfl (by rw [aInt_eql]; rfl) ?_
  refine sP (v := .bool true) rfl ?_
  refine sMv (v := .bool true) rfl ?_
  refine sG rfl rfl ?_
  refine sMv (v := nv _) rfl ?_
  refine sG rfl rfl ?_
  refine sBin (v := .bool true) (a := 0) (b := 0) rfl rfl (by rw [aInt_eql]; rfl) ?_
  refine sP (v := .bool true) rfl ?_
  refine sMv (v := .bool true) rfl ?_
  refine sG rfl rfl ?_
  refine sMv (v := nv _) rfl ?_
  refine sG rfl rfl ?_
  refine sBin (v := .bool true) (a := 0) (b := 0) rfl rfl (by rw [aInt_eql]; rfl) ?_
  refine sP (v := .bool true) rfl ?_
  refine sMv (v := .bool true) rfl ?_
  refine sG rfl rfl ?_
  refine sMv (v := nv _) rfl ?_
  refine sG rfl rfl ?_
  refine sBin (v := .bool true) (a := 0) (b := 0) rfl rfl (by rw [aInt_eql]; rfl) ?_
  refine sP (v := .bool true) rfl ?_
  refine sMv (v := .bool true) rfl ?_
  refine sG rfl rfl ?_
  refine sMv (v := nv _) rfl ?_
  refine sG rfl rfl ?_
  refine sBin (v := .bool true) (a := 0) (b := 0) rfl rfl (by rw [aInt_eql]; rfl) ?_
  refine sP (v := .bool true) rfl ?_
  refine sMv (v := .bool true) rfl ?_
  refine sG rfl rfl ?_
  refine sMv (v := nv _) rfl ?_
  refine sG rfl rfl ?_
  refine sBin (v := .bool true) (a := 0) (b := 0) rfl rfl (by rw [aInt_eql]; rfl) ?_
  refine sP (v := .bool true) rfl ?_
  refine sMv (v := .bool true) rfl ?_
  refine sG rfl rfl ?_
  refine sMv (v := .slice _ _ _) rfl ?_
  refine sG rfl rfl ?_
  refine sBuildS (c := cellsN [5, 3]) T22 S3 Z3 (by decide) (by decide) (by decide) (by kernel_rfl) (by kernel_rfl) rfl ?_
  refine sG rfl rfl ?_
  obtain ⟨v116, m116, h116, rfl, k116⟩ := spec_Eq (i25_72.ext (.push _ _)) (new_ints (l := [5, 3])) (by decide)
  obtain rfl := k116.symm
  refine sCall2 (v := .bool true) rfl call23 rfl rfl h116 ?_
  refine sP (v := .bool true) rfl ?_
  refine sMv (v := .bool true) rfl ?_
  refine sG rfl rfl ?_
  refine sMv (v := nv _) rfl ?_
  refine sG rfl rfl ?_
  refine sBin (v := .bool true) (a := 3) (b := 3) rfl rfl (by rw [aInt_eql]; rfl) ?_
  refine sP (v := .bool true) rfl ?_
  refine sMv (v := .bool true) rfl ?_
  refine sG rfl rfl ?_
  refine sMv (v := .slice _ _ _) rfl ?_
  refine sG rfl rfl ?_
  refine sBuildS (c := cellsN [8, 7]) T22 S3 Z3 (by decide) (by decide) (by decide) (by kernel_rfl) (by kernel_rfl) rfl ?_
  refine sG rfl rfl ?_
  obtain ⟨v125, m125, h125, rfl, k125⟩ := spec_Eq ((i35_72.ext (.push _ _)).ext (.push _ _)) (new_ints (l := [8, 7])) (by decide)
  obtain rfl := k125.symm
  refine sCall2 (v := .bool true) rfl call23 rfl rfl h125 ?_
  refine sP (v := .bool true) rfl ?_
  refine sMv (v := .bool true) rfl ?_
  refine sG rfl rfl ?_
  refine sMv (v := .slice _ _ _) rfl ?_
  refine sG rfl rfl ?_
  refine sBuildS (c := cellsN [1, 0, 3, 0, 0]) T22 S3 Z3 (by decide) (by decide) (by decide) (by kernel_rfl) (by kernel_rfl) rfl ?_
  refine sG rfl rfl ?_
  obtain ⟨v130, m130, h130, rfl, k130⟩ := spec_Eq (((i40_72.ext (.push _ _)).ext (.push _ _)).ext (.push _ _)) (new_ints (l := [1, 0, 3, 0, 0])) (by decide)
  obtain rfl := k130.symm
  refine sCall2 (v := .bool true) rfl call23 rfl rfl h130 ?_
  refine sP (v := .bool true) rfl ?_
  refine sMv (v := .bool true) rfl ?_
  refine sG rfl rfl ?_
  refine sMv (v := nv _) rfl ?_
  refine sG rfl rfl ?_
  refine sBin (v := .bool true) (a := 2) (b := 2) rfl rfl (by rw [aInt_eql]; rfl) ?_
  refine sP (v := .bool true) rfl ?_
  refine sMv (v := .bool true) rfl ?_
  refine sG rfl rfl ?_
  refine sMv (v := .slice _ _ _) rfl ?_
  refine sG rfl rfl ?_
  refine sBuildS (c := cellsN [5, 3]) T22 S3 Z3 (by decide) (by decide) (by decide) (by kernel_rfl) (by kernel_rfl) rfl ?_
  refine sG rfl rfl ?_
  obtain ⟨v139, m139, h139, rfl, k139⟩ := spec_Eq ((((i51_72.ext (.push _ _)).ext (.push _ _)).ext (.push _ _)).ext (.push _ _)) (new_ints (l := [5, 3])) (by decide)
  obtain rfl := k139.symm
  refine sCall2 (v := .bool true) rfl call23 rfl rfl h139 ?_
  refine sP (v := .bool true) rfl ?_
  refine sMv (v := .bool true) rfl ?_
  refine sG rfl rfl ?_
  refine sMv (v := .slice _ _ _) rfl ?_
  refine sG rfl rfl ?_
  refine sBuildS (c := cellsN [1, 3, 2]) T22 S3 Z3 (by decide) (by decide) (by decide) (by kernel_rfl) (by kernel_rfl) rfl ?_
  refine sG rfl rfl ?_
  obtain ⟨v144, m144, h144, rfl, k144⟩ := spec_Eq (((((i56_72.ext (.push _ _)).ext (.push _ _)).ext (.push _ _)).ext (.push _ _)).ext (.push _ _)) (new_ints (l := [1, 3, 2])) (by decide)
  obtain rfl := k144.symm
  refine sCall2 (v := .bool true) rfl call23 rfl rfl h144 ?_
  refine sP (v := .bool true) rfl ?_
  refine sMv (v := .bool true) rfl ?_
  refine sG rfl rfl ?_
  refine sMv (v := .slice _ _ _) rfl ?_
  refine sG rfl rfl ?_
  refine sBuildS (c := cellsN [3, 2, 4]) T22 S3 Z3 (by decide) (by decide) (by decide) (by kernel_rfl) (by kernel_rfl) rfl ?_
  refine sG rfl rfl ?_
  obtain ⟨v149, m149, h149, rfl, k149⟩ := spec_Eq ((((((i61_72.ext (.push _ _)).ext (.push _ _)).ext (.push _ _)).ext (.push _ _)).ext (.push _ _)).ext (.push _ _)) (new_ints (l := [3, 2, 4])) (by decide)
  obtain rfl := k149.symm
  refine sCall2 (v := .bool true) rfl call23 rfl rfl h149 ?_
  refine sP (v := .bool true) rfl ?_
  refine sMv (v := .bool true) rfl ?_
  refine sG rfl rfl ?_
  refine sMv (v := nv _) rfl ?_
  refine sG rfl rfl ?_
  refine sBin (v := .bool true) (a := 1) (b := 1) rfl rfl (by rw [aInt_eql]; rfl) ?_
  refine sP (v := .bool true) rfl ?_
  refine sMv (v := .bool true) rfl ?_
  refine sG rfl rfl ?_
  refine sMv (v := .slice _ _ _) rfl ?_
  refine sG rfl rfl ?_
  refine sBuildS (c := cellsN [7]) T22 S3 Z3 (by decide) (by decide) (by decide) (by kernel_rfl) (by kernel_rfl) rfl ?_
  refine sG rfl rfl ?_
  obtain ⟨v158, m158, h158, rfl, k158⟩ := spec_Eq (((((((i72.ext (.push _ _)).ext (.push _ _)).ext (.push _ _)).ext (.push _ _)).ext (.push _ _)).ext (.push _ _)).ext (.push _ _)) (new_ints (l := [7])) (by decide)
  obtain rfl := k158.symm
  refine sCall2 (v := .bool true) rfl call23 rfl rfl h158 ?_
  refine sP (v := .bool true) rfl ?_
  refine sAs (v := .bool true) rfl ?_
  refine sNil (kSeqN ?_)
  refine cRet ?_
  exact ⟨.inr rfl, _, rfl, rfl, (((((((E72).push' _).push' _).push' _).push' _).push' _).push' _).push' _⟩

end Go.AM
