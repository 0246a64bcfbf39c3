/- No member of a coset is lighter than its lightest one. -/
import Derived.Test.YtgiidbomifmcaaaDoorMade
import Derived.Test.YtgiidbomifmcaaaDoorEntryB
import Derived.Carry
import Derived.Test.YtgiidbomifmcaaaDoorTie
import Derived.Test.YtgiidbomifmcaaaDoorCards
set_option linter.unusedVariables false
set_option linter.unusedSimpArgs false
/-! ### E43 -/
namespace Go.AM
open Go.Proofs
set_option maxRecDepth 100000
set_option linter.unusedVariables false
set_option linter.unusedSimpArgs false
theorem kall46 : callable Tryd.prog 46 = true := by kernel_rfl
theorem kall29 : callable Tryd.prog 29 = true := by kernel_rfl
theorem kall27 : callable Tryd.prog 27 = true := by kernel_rfl
theorem coset_same {L : List Nat} {x y : Nat} (hL : ∀ z ∈ L, z < 2 ^ 24) (hy : InSpan L y) : cosetM L x = cosetM L (x ^^^ y) := by
  obtain ⟨⟨s, hs, e⟩, hle⟩ := cosetM_spec (row := x) hL
  obtain ⟨⟨s', hs', e'⟩, hle'⟩ := cosetM_spec (row := x ^^^ y) hL
  refine LeW.antisymm ?_ ?_
  · rw [e', Nat.xor_assoc]; exact hle _ (hy.xor hs')
  · have := hle' (y ^^^ s) (hy.xor hs)
    rw [← Nat.xor_assoc, xor_cancel_right] at this
    rw [e]; exact this
theorem popc_pos' {x : Nat} (h : popc x = 0) : x = 0 := by
  rcases Nat.eq_zero_or_pos x with h0 | h0
  · exact h0
  · exfalso
    have : ∀ k x, x < 2 ^ k → 0 < x → 0 < popc x := by
      intro k
      induction k with
      | zero => intro x h1 h2; simp at h1; omega
      | succ k ih =>
        intro x h1 h2
        rw [popc_pos h2]
        by_cases hp : x % 2 = 1
        · omega
        · have := ih (x / 2) (by rw [Nat.pow_succ] at h1; omega) (by omega)
          omega
    have := this x x Nat.lt_two_pow_self h0
    omega
theorem coset_zero {L : List Nat} {y : Nat} (hL : ∀ z ∈ L, z < 2 ^ 24) (hy : InSpan L y) : cosetM L y = 0 := by
  have := (cosetM_spec (row := y) hL).2 y hy
  rw [Nat.xor_self] at this
  unfold LeW at this
  rw [popc_zero] at this
  omega
theorem cosetM_lt {L : List Nat} {n x : Nat} (h : Right L n) (hx : x < 2 ^ n) : cosetM L x < 2 ^ n := cosetG_lt hx (redM_lt h.n24 h.lt) _

theorem okf13 : okF Tryd.prog H0 13 153 = true := by kernel_rfl
theorem spec_BitsLight {m : Mem} {a a2 : Value} {l l2 : List Int} {c : Nat} (hG : Glob m) (ha : BytesAt m a l) (ha2 : BytesAt m a2 l2) (hc : c < 256) : ∃ v m', ACalls Tryd.prog 13 #[a, a2, .int .u8 (Int.ofNat c)] m v m' ∧ (v = .bool true ∧ True) := by
  obtain ⟨q, cap, rfl⟩ := ha.len
  obtain ⟨q2, cap2, rfl⟩ := ha2.len
  have hn1 : 1 ≤ 1 + c % 12 := by omega
  have hn2 : 1 + c % 12 ≤ 12 := by omega
  refine wpF (args := [_, _, _]) mixed okf13 (fn := Tryd.f13) rfl rfl rfl (by simp) ?_
  refine cSeq ?_
  refine cRegion ?_
  refine sAs (v := .bool _) rfl ?_
  refine sNil (kSeqN ?_)
  refine cSeq ?_
  refine cRegion ?_
  refine sMv (v := .slice _ _ _) rfl ?_
  obtain ⟨v23, m23, h23, b, rfl, hb, hS23, e23⟩ := spec_Of ha2
  refine sCall1 rfl call31 rfl h23 ?_
  refine sAs (v := .pointer _) rfl ?_
  refine sNil (kSeqN ?_)
  refine cSeq ?_
  refine cRegion ?_
  refine sMv (v := .int .u8 _) rfl ?_
  refine sP (v := nv c) (conv5_3 hc) ?_
  refine sBin (b := 12) rfl rfl (aInt_rem (by omega)) ?_
  refine sBin (a := 1) rfl rfl (aInt_add (by omega)) ?_
  generalize 1 + c % 12 = n at *
  have h2n : 2 ^ n ≤ 2 ^ 12 := Nat.pow_le_pow_right (by omega) hn2
  have h2p : 0 < 2 ^ n := Nat.two_pow_pos n
  refine sAs (v := nv _) rfl ?_
  refine sNil (kSeqN ?_)
  refine cSeq ?_
  refine cRegion ?_
  refine sMv (v := .slice _ _ _) rfl ?_
  obtain ⟨v29, m29, h29, b', rfl, hb', hT29, e29⟩ := spec_Of (ha.ext e23)
  have hS29 := hS23.ext hb e29
  have hbS := hS23.lt
  have hbT := hT29.lt
  refine sCall1 rfl call31 rfl h29 ?_
  refine sMv (v := nv _) rfl ?_
  obtain ⟨v31, m31, h31, L, oL, hLl, hLx, hT31, x31⟩ := spec_Made (n := n) (most := 8) hT29 (by omega) hb' (by omega) (by omega)
  obtain ⟨qL, cL, rfl⟩ := oL.ints.lenN
  have hR : Right L n := made_right hn1 (by omega) (by omega) hLl hLx
  have hS31 := hS29.lowx hb x31 (.inr hb')
  have y31 : Ext m m31 := (e23.trans e29).lowx x31 (by have := e23.1; omega)
  have hll : 2 ^ L.length ≤ 2 ^ 8 := Nat.pow_le_pow_right (by omega) hLl
  have hlp : 0 < 2 ^ L.length := Nat.two_pow_pos _
  refine sCall3 rfl call32 rfl rfl rfl h31 ?_
  refine sAs (v := .slice _ _ _) rfl ?_
  refine sNil (kSeqN ?_)
  refine cSeq ?_
  refine cRegion ?_
  refine sMv (v := .pointer _) rfl ?_
  refine sMv (v := nv _) rfl ?_
  refine sBin rfl rfl (aInt_shl (a := 1) (by omega)) ?_
  rw [Nat.shiftLeft_eq, Nat.one_mul]
  obtain ⟨v35, m35, h35, ⟨x, rfl, hx⟩, hS35, o35⟩ := spec_Less (n := 2 ^ n) hS31 (by omega) (by omega) (by omega)
  have oL35 := oL.only o35 (by omega)
  have y35 := y31.only o35 hb
  refine sCall2 rfl call33 rfl rfl h35 ?_
  refine sAs (v := nv _) rfl ?_
  refine sNil (kSeqN ?_)
  refine cSeq ?_
  refine cRegion ?_
  refine sMv (v := .slice _ _ _) rfl ?_
  refine sMv (v := .pointer _) rfl ?_
  refine sMv (v := .slice _ _ _) rfl ?_
  refine sLen T22 rfl ?_
  refine sBin rfl rfl (aInt_shl (a := 1) (by omega)) ?_
  rw [Nat.shiftLeft_eq, Nat.one_mul]
  obtain ⟨v41, m41, h41, ⟨w, rfl, hw⟩, hS41, o41⟩ := spec_Less (n := 2 ^ L.length) hS35 (by omega) (by omega) (by omega)
  have oL41 := oL35.only o41 (by omega)
  have y41 := y35.only o41 hb
  refine sCall2 rfl call33 rfl rfl h41 ?_
  obtain ⟨v42, m42, h42, rfl, k42⟩ := spec_total (m := m41) (w := w) oL41.ints (by omega) (fun x hx => Nat.lt_of_lt_of_le (hLx x hx) (by omega)) (by omega)
  rw [k42] at h42
  have hown := total_lt hLx w
  have hin : InSpan L (total L w) := ⟨w, rfl⟩
  generalize total L w = own at *
  refine sCall2 rfl call37 rfl rfl h42 ?_
  refine sAs (v := nv _) rfl ?_
  refine sNil (kSeqN ?_)
  refine cSeq ?_
  refine cRegion ?_
  refine sMv (v := .slice _ _ _) rfl ?_
  refine sMv (v := nv _) rfl ?_
  refine sMv (v := nv _) rfl ?_
  obtain ⟨v47, m47, h47, rfl, e47⟩ := sp_Coset (hG.ext y41) hR hx oL41.ints
  have y47 := y41.trans e47
  refine sCall3 rfl kall29 rfl rfl rfl h47 ?_
  refine sMv (v := .tuple _) rfl ?_
  refine sP (v := nv _) rfl ?_   -- extract ['t43', '0']
  refine sP (v := nv _) rfl ?_   -- extract ['t43', '1']
  refine sAs (v := nv _) rfl ?_
  refine sAs (v := nv _) rfl ?_
  refine sNil (kSeqN ?_)
  refine cSeq ?_
  refine cRegion ?_
  refine sMv (v := .slice _ _ _) rfl ?_
  refine sMv (v := nv _) rfl ?_
  refine sMv (v := nv _) rfl ?_
  refine sMv (v := nv _) rfl ?_
  refine sBin rfl rfl (aInt_xor (by omega)) ?_
  have hxo := Nat.xor_lt_two_pow hx hown
  obtain ⟨v56, m56, h56, rfl, e56⟩ := sp_Coset (hG.ext y47) hR hxo (oL41.ext e47).ints
  have y56 := y47.trans e56
  rw [← coset_same hR.lt24 hin] at h56
  refine sCall3 rfl kall29 rfl rfl rfl h56 ?_
  refine sMv (v := .tuple _) rfl ?_
  refine sP (v := nv _) rfl ?_   -- extract ['t50', '0']
  refine sP (v := nv _) rfl ?_   -- extract ['t50', '1']
  refine sAs (v := nv _) rfl ?_
  refine sAs (v := nv _) rfl ?_
  refine sNil (kSeqN ?_)
  refine cSeq ?_
  refine cRegion ?_
  refine sMv (v := .slice _ _ _) rfl ?_
  refine sMv (v := nv _) rfl ?_
  refine sMv (v := nv _) rfl ?_
  obtain ⟨v63, m63, h63, rfl, e63⟩ := sp_Coset (hG.ext y56) hR hown ((oL41.ext e47).ext e56).ints
  have y63 := y56.trans e63
  rw [coset_zero hR.lt24 hin] at h63
  refine sCall3 rfl kall29 rfl rfl rfl h63 ?_
  have hcl := cosetM_lt hR hx
  obtain ⟨⟨s, hs, es⟩, hle⟩ := cosetM_spec (row := x) hR.lt24
  generalize cosetM L x = y at *
  refine sMv (v := .tuple _) rfl ?_
  refine sP (v := nv _) rfl ?_   -- extract ['t59', '0']
  refine sP (v := nv _) rfl ?_   -- extract ['t59', '1']
  refine sAs (v := nv _) rfl ?_
  refine sAs (v := nv _) rfl ?_
  refine sNil (kSeqN ?_)
  refine cSeq ?_   -- seq 9
  refine cSeq ?_
  refine cRegion ?_
  refine sMv (v := nv _) rfl ?_
  refine sBin (v := .bool false) (a := 0) (b := 0) rfl rfl (neqF rfl) ?_
  refine sMv (v := .bool _) rfl ?_
  refine sG rfl rfl ?_
  refine sMv (v := nv _) rfl ?_
  refine sG rfl rfl ?_
  refine sBin (v := .bool false) (a := 0) (b := 0) rfl rfl (neqF rfl) ?_
  refine sP (v := .bool _) rfl ?_   -- t71 pick ['t68', '(bool true)', 't70']
  refine sMv (v := .bool _) rfl ?_
  refine sG rfl rfl ?_
  refine sMv (v := nv _) rfl ?_
  refine sG rfl rfl ?_
  refine sBin (v := .bool false) (a := 0) (b := 0) rfl rfl (neqF rfl) ?_
  refine sP (v := .bool _) rfl ?_   -- t75 pick ['t72', '(bool true)', 't74']
  refine sMv (v := .bool _) rfl ?_
  refine sG rfl rfl ?_
  refine sMv (v := nv _) rfl ?_
  refine sG rfl rfl ?_
  refine sMv (v := nv _) rfl ?_
  refine sG rfl rfl ?_
  refine sBin (v := .bool false) rfl rfl (neqF rfl) ?_
  refine sP (v := .bool _) rfl ?_   -- t80 pick ['t76', '(bool true)', 't79']
  refine sMv (v := .bool _) rfl ?_
  refine sG rfl rfl ?_
  refine sMv (v := nv _) rfl ?_
  refine sG rfl rfl ?_
  refine sBin (v := .bool false) (a := 0) (b := 0) rfl rfl (neqF rfl) ?_
  refine sP (v := .bool _) rfl ?_   -- t84 pick ['t81', '(bool true)', 't83']
  refine sMv (v := .bool _) rfl ?_
  refine sG rfl rfl ?_
  refine sMv (v := nv _) rfl ?_
  refine sG rfl rfl ?_
  refine sBin (v := .bool false) (b := 0) rfl rfl (lssF (by omega)) ?_
  refine sP (v := .bool _) rfl ?_   -- t88 pick ['t85', '(bool true)', 't87']
  refine sMv (v := .bool _) rfl ?_
  refine sG rfl rfl ?_
  refine sMv (v := nv _) rfl ?_
  refine sG rfl rfl ?_
  refine sMv (v := nv _) rfl ?_
  refine sG rfl rfl ?_
  refine sBin rfl rfl (aInt_shl (a := 1) (by omega)) ?_
  rw [Nat.shiftLeft_eq, Nat.one_mul]
  refine sG rfl rfl ?_
  refine sBin (v := .bool false) rfl rfl (geqF (by omega)) ?_
  refine sP (v := .bool _) rfl ?_   -- t94 pick ['t89', '(bool true)', 't93']
  refine sNil (kSeqN ?_)
  refine cCondF rfl ?_
  refine cSkip (kSeqN ?_)
  refine cSeq ?_
  refine cRegion ?_
  refine sMv (v := .slice _ _ _) rfl ?_
  refine sMv (v := nv _) rfl ?_
  refine sMv (v := nv _) rfl ?_
  refine sMv (v := nv _) rfl ?_
  refine sBin rfl rfl (aInt_xor (by omega)) ?_
  have hxy := Nat.xor_lt_two_pow hx hcl
  obtain ⟨v101, m101, h101, rfl, e101⟩ := sp_Member hR hxy (((oL41.ext e47).ext e56).ext e63).ints
  have y101 := y63.trans e101
  rw [decide_eq_true (which_in hR (by rw [es, xor_cancel_left]; exact hs))] at h101
  refine sCall3 rfl kall46 rfl rfl rfl h101 ?_
  refine sMv (v := .tuple _) rfl ?_
  refine sP (v := .bool _) rfl ?_   -- extract ['t95', '0']
  refine sP (v := nv _) rfl ?_   -- extract ['t95', '1']
  refine sAs (v := .bool _) rfl ?_
  refine sAs (v := nv _) rfl ?_
  refine sNil (kSeqN ?_)
  refine cSeq ?_
  refine cRegion ?_
  refine sMv (v := nv _) rfl ?_
  obtain ⟨v106, m106, h106, rfl, k106⟩ := sp_Weight (m := m101) (x := y) (by omega)
  rw [k106] at h106
  refine sCall1 rfl kall27 rfl h106 ?_
  refine sMv (v := .tuple _) rfl ?_
  refine sP (v := nv _) rfl ?_   -- extract ['t104', '0']
  refine sP (v := nv _) rfl ?_   -- extract ['t104', '1']
  refine sAs (v := nv _) rfl ?_
  refine sAs (v := nv _) rfl ?_
  refine sNil (kSeqN ?_)
  refine cSeq ?_   -- seq 13
  refine cSeq ?_
  refine cRegion ?_
  refine sMv (v := nv _) rfl ?_
  refine sBin (v := .bool false) (a := 0) (b := 0) rfl rfl (neqF rfl) ?_
  refine sMv (v := .bool _) rfl ?_
  refine sG rfl rfl ?_
  refine sMv (v := .bool _) rfl ?_
  refine sG rfl rfl ?_
  refine sP (v := .bool false) rfl ?_
  refine sP (v := .bool _) rfl ?_   -- t114 pick ['t111', '(bool true)', 't113']
  refine sMv (v := .bool _) rfl ?_
  refine sG rfl rfl ?_
  refine sMv (v := nv _) rfl ?_
  refine sG rfl rfl ?_
  refine sBin (v := .bool false) (a := 0) (b := 0) rfl rfl (neqF rfl) ?_
  refine sP (v := .bool _) rfl ?_   -- t118 pick ['t115', '(bool true)', 't117']
  refine sMv (v := .bool _) rfl ?_
  refine sG rfl rfl ?_
  refine sMv (v := nv _) rfl ?_
  refine sG rfl rfl ?_
  refine sMv (v := nv _) rfl ?_
  refine sG rfl rfl ?_
  obtain ⟨v122, m122, h122, rfl, k122⟩ := spec_ones (m := m101) (x := y) (by omega)
  rw [k122] at h122
  refine sCall1 rfl call69 rfl h122 ?_
  refine sG rfl rfl ?_
  refine sBin (v := .bool false) rfl rfl (neqF rfl) ?_
  refine sP (v := .bool _) rfl ?_   -- t124 pick ['t119', '(bool true)', 't123']
  refine sNil (kSeqN ?_)
  refine cCondF rfl ?_
  refine cSkip (kSeqN ?_)
  refine cSeq ?_
  refine cSeq ?_
  refine cRegion ?_
  refine sMv (v := .slice _ _ _) rfl ?_
  refine sLen T22 rfl ?_
  refine sBin rfl rfl (aInt_shl (a := 1) (by omega)) ?_
  rw [Nat.shiftLeft_eq, Nat.one_mul]
  refine sMv (v := nv 0) rfl ?_
  refine sNil (kSeqN ?_)
  refine cBlock ?_
  refine wpC_loop (fun k ρ m' => ∃ i, k = 2 ^ L.length - i ∧ i ≤ 2 ^ L.length ∧ m101 = m' ∧ Has ρ [(9, .slice qL L.length cL), (10, nv x), (12, nv y), (19, nv (popc y)), (127, nv (2 ^ L.length)), (128, nv i)]) ⟨0, rfl, by omega, rfl, rfl, rfl, rfl, rfl, rfl, rfl, trivial⟩ ?_
  rintro k ρ m' ⟨i, rfl, hi, rfl, hh⟩
  rw [hh.env]; clear hh
  refine cSeq ?_
  refine cRegion ?_
  refine sBin rfl rfl (aInt_lss) ?_
  refine sNil (kSeqN ?_)
  refine cSeq ?_   -- seq 18
  refine cCond rfl (fun c2 => ?_) (fun c2 => ?_)
  ·
    refine cSkip (kSeqN ?_)
    refine cSeq ?_
    refine cBlock ?_
    refine cSeq ?_
    refine cRegion ?_
    refine sMv (v := nv _) rfl ?_
    refine sAs (v := nv _) rfl ?_
    refine sNil (kSeqN ?_)
    refine cSeq ?_
    refine cRegion ?_
    refine sMv (v := nv _) rfl ?_
    refine sMv (v := .slice _ _ _) rfl ?_
    refine sMv (v := nv _) rfl ?_
    obtain ⟨v134, m134, h134, rfl, k134⟩ := spec_total (m := m101) (w := i) ((((oL41.ext e47).ext e56).ext e63).ext e101).ints (by omega) (fun x hx => Nat.lt_of_lt_of_le (hLx x hx) (by omega)) (by omega)
    rw [k134] at h134
    have htl := total_lt hLx i
    have hle1 := hle _ ⟨i, rfl⟩
    generalize total L i = t at *
    refine sCall2 rfl call37 rfl rfl h134 ?_
    refine sBin rfl rfl (aInt_xor (by omega)) ?_
    have hzl := Nat.xor_lt_two_pow hx htl
    generalize x ^^^ t = z at *
    unfold LeW at hle1
    refine sAs (v := nv _) rfl ?_
    refine sNil (kSeqN ?_)
    refine cSeq ?_
    refine cRegion ?_
    refine sMv (v := nv _) rfl ?_
    obtain ⟨v137, m137, h137, rfl, k137⟩ := spec_ones (m := m101) (x := z) (by omega)
    rw [k137] at h137
    refine sCall1 rfl call69 rfl h137 ?_
    refine sMv (v := nv _) rfl ?_
    refine sBin (v := .bool false) rfl rfl (lssF (by omega)) ?_
    refine sMv (v := .bool _) rfl ?_
    refine sG rfl rfl ?_
    refine sMv (v := nv _) rfl ?_
    refine sG rfl rfl ?_
    refine sCall1 rfl call69 rfl h137 ?_
    refine sG rfl rfl ?_
    refine sMv (v := nv _) rfl ?_
    refine sG rfl rfl ?_
    refine sBin rfl rfl (aInt_eql) ?_
    refine sG rfl rfl ?_
    refine sMv (v := .bool _) rfl ?_
    by_cases h2 : popc z = popc y
    ·
      rw [decide_eq_true h2]
      refine sG rfl rfl ?_
      refine sMv (v := nv _) rfl ?_
      refine sG rfl rfl ?_
      refine sMv (v := nv _) rfl ?_
      refine sG rfl rfl ?_
      refine sBin (v := .bool false) rfl rfl (lssF (by omega)) ?_
      refine sG rfl rfl ?_
      refine sP (v := .bool _) rfl ?_   -- t149 pick ['t145', 't148', '(bool false)']
      refine sP (v := .bool _) rfl ?_   -- t150 pick ['t140', '(bool true)', 't149']
      refine sNil (kSeqN ?_)
      refine cCondF rfl ?_
      refine cSkip (kBlkN (kSeqN ?_))
      refine cRegion ?_
      refine sBin rfl rfl (aInt_add (b := 1) (by omega)) ?_
      refine sMv (v := nv _) rfl ?_
      refine sNil (kSeqN ?_)
      refine ⟨_, ?_, i + 1, rfl, by omega, rfl, rfl, rfl, rfl, rfl, rfl, rfl, trivial⟩
      omega
    ·
      rw [decide_eq_false h2]
      refine sGno (q' := false) rfl rfl (by simp) ?_
      refine sGno (q' := false) rfl rfl (by simp) ?_
      refine sGno (q' := false) rfl rfl (by simp) ?_
      refine sG rfl rfl ?_
      refine sP (v := .bool _) rfl ?_   -- t149 pick ['t145', 't148', '(bool false)']
      refine sP (v := .bool _) rfl ?_   -- t150 pick ['t140', '(bool true)', 't149']
      refine sNil (kSeqN ?_)
      refine cCondF rfl ?_
      refine cSkip (kBlkN (kSeqN ?_))
      refine cRegion ?_
      refine sBin rfl rfl (aInt_add (b := 1) (by omega)) ?_
      refine sMv (v := nv _) rfl ?_
      refine sNil (kSeqN ?_)
      refine ⟨_, ?_, i + 1, rfl, by omega, rfl, rfl, rfl, rfl, rfl, rfl, rfl, trivial⟩
      omega
  ·
    refine cExit (kSeqE (kSeqE (kBlkS (kSeqN ?_))))
    refine cSeq ?_
    refine cRegion ?_
    obtain ⟨v152, m152, h152, rfl, e152⟩ := spec_awake (hG.ext y101)
    refine sCall0 rfl call17 h152 ?_
    refine sAs (v := .bool _) rfl ?_
    refine sNil (kSeqN ?_)
    refine cRet ?_
    exact ⟨.inr rfl, _, rfl, rfl, trivial⟩

end Go.AM

/-! ### F10 -/
namespace Go.Proofs.YtgiidbomifmcaaaDoor
open Go Go.AM Go.ChangeShapes Go.WideShapes Go.ChangeAt Go.WideMaps Go.WideElems Go.RowKit
set_option maxRecDepth 100000
set_option linter.unusedVariables false
theorem own : ownKnob Tryd.prog.godebug = none := by kernel_rfl
/-- The door's own heap meets the condition: three closed facts. -/
theorem door_met (os : Os) (args : Array Value) : laidMetH Tryd.prog laid3 ((World.doorLaid Tryd.prog 400 os).forCall (fun _ _ => 0) ⟨#[], args, []⟩).memory :=
  laidMetH_of_parts3 (fuel := 8) (laidMet_of_run' 8 (by kernel_rfl) (by kernel_rfl)) (by kernel_rfl) (by kernel_rfl)
theorem lifted13 (os : Os) (started : os.Started) (H : Type) (enc : TypeId × Value → H) :
    ReturnsInHanded {} Tryd.checked os 13 .any (fun w args => (Rows.bitsLightSpec.pre enc Tryd.prog Tryd.f13 [] false w args ∧ laidMetH Tryd.prog laid3 w) ∧ sizedMet enc Tryd.prog Tryd.f13 (OpenSpec.ofChange Rows.bitsLightSpec) false w args)
      (Rows.bitsLightSpec.post enc Tryd.prog Tryd.f13 false true false false) := by
  refine returnsInHanded_of_change_and (C := Tryd.checked) (X := fun w _ => laidMetH Tryd.prog laid3 w) (fun _ _ _ hh h => h.of_heap hh) own started (by kernel_rfl) Tryd.func13
    (ChangeSpec.witness_shaped (enc := enc) (C := Tryd.checked) (os := os) (X := fun w _ => laidMetH Tryd.prog laid3 w) false (World.doorLaid Tryd.prog 400 os) #[.slice none 0 0, .slice none 0 0, .int .u8 0] 8 rfl (World.shaped_of_RefB (by kernel_rfl) (by kernel_rfl)) (by kernel_rfl) (by kernel_rfl) (by kernel_rfl) (door_met os _)) ?_
  intro W base args ds gs before hval0 hW _ _ hL _
  have hval : ∀ (j : Nat) t v, Tryd.f13.params[j]? = some t → args[j]? = some v → Value.okWide Tryd.prog W .any base t v := hval0
  have hW' := hW
  obtain ⟨p, q, hA0, hV, rfl, hfz, hnd⟩ := hW
  have hA : DataW.TrodAll enc Tryd.prog W 0 (fun _ => true) true [35, 35, 5] args.toList ds p := hA0
  obtain ⟨v0, vs0, d0, ds0, p0, q0, hargs, rfl, rfl, h0, r0⟩ := trodAll_cons hA
  obtain ⟨v1, vs1, d1, ds1, p1, q1, rfl, rfl, rfl, h1, r1⟩ := trodAll_cons r0
  obtain ⟨v2, vs2, d2, ds2, p2, q2, rfl, rfl, rfl, h2, r2⟩ := trodAll_cons r1
  obtain ⟨rfl, rfl, rfl⟩ := trodAll_nil r2
  obtain rfl : args = #[v0, v1, v2] := by cases args; simp_all
  obtain ⟨rfl, rfl⟩ := trodVars_none hV
  obtain ⟨a0, l0, f0, ok0, wf0, A0⟩ := ints_arg hL u35 u5 c5 (hval 0 35 v0 rfl rfl) h0
  have lt0 : ∀ x ∈ p0, x.block < W.heap.size := by obtain ⟨m, hm⟩ := h0; exact DataW.trod_lt m _ _ _ hm
  obtain ⟨a1, l1, f1, ok1, wf1, A1⟩ := ints_arg hL u35 u5 c5 (hval 1 35 v1 rfl rfl) h1
  have lt1 : ∀ x ∈ p1, x.block < W.heap.size := by obtain ⟨m, hm⟩ := h1; exact DataW.trod_lt m _ _ _ hm
  obtain ⟨n2, rfl, rfl, rfl, w2⟩ := open_int u5 (hval 2 5 v2 rfl rfl) h2
  obtain ⟨c2, hc2, rfl⟩ := u8_nat w2
  refine (entry (args := #[f0 0, f1 1, .int .u8 (Int.ofNat c2)]) (A := [a0, a1]) hL (by intro a ha; simp only [List.mem_cons, List.not_mem_nil, or_false] at ha; rcases ha with rfl | rfl <;> assumption) (fun bm => (arel_cons ((A0 _ 0 rfl).2 bm) (arel_cons ((A1 _ 1 rfl).2 bm) (arel_cons (.int _ _) arel_nil)))) (fun b => ?_)).mono ?_
  · obtain ⟨v, m, h, hv, _⟩ := spec_BitsLight (glob0 b _) ((A0 [a0, a1] 0 rfl).1 b) ((A1 [a0, a1] 1 rfl).1 b) hc2
    exact ⟨v, m, h, hv⟩
  · rintro e W' ⟨rfl, bel⟩
    exact ⟨_, rfl, _, _, _, [], _, [], hW', trodAll_mk1 (shut_bool u4 _), (trodAll_cons_mk (Below.trod laidOut (by kernel_rfl) (of_decide_eq_true (by kernel_rfl)) h0 bel lt0) (trodAll_cons_mk (Below.trod laidOut (by kernel_rfl) (of_decide_eq_true (by kernel_rfl)) h1 bel lt1) (trodAll_cons_mk (shut_int u5 w2) trodAll_mk0))), rfl, bel.frame _, fun h => by cases h⟩
theorem bitsLight_holds : Rows.BitsLightSaid :=
  OpenClaim.holds_of_wide 13 Tryd.f13 rfl rfl rfl rfl rfl rfl rfl ⟨rfl, rfl, rfl, rfl, rfl⟩ rfl rfl rfl rfl rfl (by kernel_rfl) Tryd.func13 (by kernel_rfl)
    (of_decide_eq_true (by kernel_rfl)) (by unfold Func.isWrapper; first | (rw [if_pos (by decide +kernel)]; kernel_rfl) | (rw [if_neg (by decide +kernel)]; exact ⟨rfl, rfl⟩))
    (fun os started H enc _ => lifted13 os started H enc)
theorem bitsLightCard_holds : Rows.BitsLightCardSaid :=
  Claim7.holds_tied_plain_at .later [] [.data, .data, .funcs] true (true, "4e90e708c3a0b8b9bd838c7bc74774a1a5a946fb69b32deeeece4d3212f6d5ce") false
    bitsLight_holds (fun _ h => by cases h) (by kernel_rfl) (fun _ h => by cases h) bitsLight_row_tie rfl ⟨rfl, rfl⟩ (by kernel_rfl) rfl
    (fun f fn hf hfn => by
      obtain rfl : f = 13 := Option.some.inj ((show Tryd.prog.funcNamed "spoondrift/spoondriftlaw02.BitsLight" = some 13 by kernel_rfl).symm.trans hf) |>.symm
      obtain rfl : fn = Tryd.f13 := (Option.some.inj (Tryd.func13.symm.trans hfn)).symm
      exact ⟨by kernel_rfl, fun j t ht => by
        have hm : t ∈ [35, 35, 5] := by simpa using Array.mem_of_getElem? (show (#[35, 35, 5] : Array Nat)[j]? = some t from ht)
        have hall : ([35, 35, 5].all fun u => !Tryd.prog.wantsStandIn u) = true := by kernel_rfl
        exact (show Tryd.prog.wantsStandIn t = false by simpa using List.all_eq_true.1 hall t hm)⟩)
    (by kernel_rfl)
end Go.Proofs.YtgiidbomifmcaaaDoor
