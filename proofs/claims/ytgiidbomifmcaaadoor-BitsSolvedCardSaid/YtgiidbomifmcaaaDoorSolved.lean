/- What is solved solves, and is least; otherwise rows contradict. -/
import Derived.Test.YtgiidbomifmcaaaDoorMade
import Derived.Test.YtgiidbomifmcaaaDoorEntryB
import Derived.Carry
import Derived.Test.YtgiidbomifmcaaaDoorTie
import Derived.Test.YtgiidbomifmcaaaDoorCards
set_option linter.unusedVariables false
set_option linter.unusedSimpArgs false
/-! ### E47 -/
namespace Go.AM
open Go.Proofs
set_option maxRecDepth 100000
set_option linter.unusedVariables false
set_option linter.unusedSimpArgs false
theorem kall21 : callable Tryd.prog 21 = true := by kernel_rfl
theorem kall22 : callable Tryd.prog 22 = true := by kernel_rfl
theorem kall38 : callable Tryd.prog 38 = true := by kernel_rfl
theorem kall36 : callable Tryd.prog 36 = true := by kernel_rfl
/-- Where nothing solves, some rows add up to nothing whose right sides do not. -/
theorem none_solves {L : List Nat} {n b : Nat} (h : Right L n) (hb : b < 2 ^ L.length) (hn : ¬ InSpan (turnedM L n) b) : ∃ w, w < 2 ^ L.length ∧ total L w = 0 ∧ dot w b = true := by
  have hT : ∀ y ∈ turnedM L n, y < 2 ^ L.length := turnedM_lt'
  rw [← null_null_span h.len hT] at hn
  have hex : ∃ w ∈ nullM (turnedM L n) L.length, dot w b = true := by
    apply Classical.byContradiction
    intro hne
    refine hn ⟨hb, fun r hr => ?_⟩
    cases hd : dot r b
    · rfl
    · exact absurd ⟨r, hr, hd⟩ hne
  obtain ⟨w, hw, hd⟩ := hex
  have ho := ((nullM_span h.len hT).2 w).1 (.mem hw)
  refine ⟨w, ho.1, ?_, hd⟩
  apply Nat.eq_of_testBit_eq
  intro i
  have hT2 := turned_turned h.lt
  have := total_turned (l := turnedM L n) ho.1 i
  rw [hT2] at this
  rw [this, Nat.zero_testBit]
  by_cases hi : i < (turnedM L n).length
  · exact ho.2 _ (getD_mem hi)
  · rw [getD_out (by omega), zero_dot]
theorem sp_Solve' {m : Mem} {a : Value} {L : List Nat} {n b : Nat} (h : Right L n) (hb : b < 2 ^ L.length) (ha : IntsAt m a (ofs L)) : ∃ v m', ACalls Tryd.prog 21 #[a, nv n, nv b] m v m' ∧
    (∃ X E, v = .tuple #[nv X, nv E] ∧ (E = 0 → total (turnedM L n) X = b ∧ X < 2 ^ n ∧ ∀ y, y < 2 ^ n → (∀ i, i < L.length → dot (L.getD i 0) y = b.testBit i) → X ≤ y) ∧ (E ≠ 0 → E = 6 ∧ ∃ w, w < 2 ^ L.length ∧ total L w = 0 ∧ dot w b = true) ∧ Ext m m') := by
  obtain ⟨v, m', h1, rfl, h2⟩ := sp_Solve h hb ha
  have hT : ∀ y ∈ turnedM L n, y < 2 ^ 24 := fun y hy => Nat.lt_of_lt_of_le (turnedM_lt' y hy) (Nat.pow_le_pow_right (by omega) h.len)
  refine ⟨_, m', h1, _, _, rfl, fun hE => ?_, fun hE => ?_, h2⟩
  · by_cases hw : (whichM (turnedM L n) b).1 = 0
    · rw [if_pos hw]
      have hs := (split_spec hT).2 hw
      have hl := whichM_lt (n := 0) hT hw
      rw [turnedM_length] at hl
      exact ⟨hs.1, hl, fun y hy hall => hs.2 y ((sol_total h.lt hb hy).1 ⟨hy, hall⟩)⟩
    · rw [if_neg hw] at hE; cases hE
  · by_cases hw : (whichM (turnedM L n) b).1 = 0
    · rw [if_pos hw] at hE; exact absurd rfl hE
    · rw [if_neg hw]
      exact ⟨rfl, none_solves h hb fun hin => hw ((split_spec hT).1.2 hin)⟩
theorem sp_Which' {m : Mem} {a : Value} {L : List Nat} {n x : Nat} (h : Right L n) (hx : x < 2 ^ n) (ha : IntsAt m a (ofs L)) : ∃ v m', ACalls Tryd.prog 38 #[a, nv n, nv x] m v m' ∧
    (∃ X E, v = .tuple #[nv X, nv E] ∧ X < 2 ^ L.length ∧ (E = 0 → total L X = x ∧ ∀ y, total L y = x → X ≤ y) ∧ (E ≠ 0 → E = 6 ∧ ∀ y, total L y ≠ x) ∧ Ext m m') := by
  obtain ⟨v, m', h1, rfl, h2⟩ := sp_Which h hx ha
  refine ⟨_, m', h1, _, _, rfl, ?_, fun hE => ?_, fun hE => ?_, h2⟩
  · by_cases hw : (whichM L x).1 = 0
    · rw [if_pos hw]; exact whichM_lt (n := 0) h.lt24 hw
    · rw [if_neg hw]; exact Nat.two_pow_pos _
  · by_cases hw : (whichM L x).1 = 0
    · rw [if_pos hw]; exact (split_spec h.lt24).2 hw
    · rw [if_neg hw] at hE; cases hE
  · by_cases hw : (whichM L x).1 = 0
    · rw [if_pos hw] at hE; exact absurd rfl hE
    · rw [if_neg hw]
      exact ⟨rfl, fun y hy => hw ((which_iff h).2 ⟨y, hy⟩)⟩
theorem or_lt {B i : Nat} (hB : B < 2 ^ i) : B ||| 2 ^ i < 2 ^ (i + 1) := Nat.or_lt_two_pow (by rw [Nat.pow_succ]; omega) (Nat.pow_lt_pow_right (by omega) (by omega))

theorem okf5 : okF Tryd.prog H0 5 201 = true := by kernel_rfl
theorem spec_BitsSolved {m : Mem} {a a2 : Value} {l l2 : List Int} {c : Nat} (hG : Glob m) (ha : BytesAt m a l) (ha2 : BytesAt m a2 l2) (hc : c < 256) : ∃ v m', ACalls Tryd.prog 5 #[a, a2, .int .u8 (Int.ofNat c)] m v m' ∧ (v = .bool true ∧ True) := by
  obtain ⟨q, cap, rfl⟩ := ha.len
  obtain ⟨q2, cap2, rfl⟩ := ha2.len
  have hn1 : 1 ≤ 1 + c % 10 := by omega
  have hn2 : 1 + c % 10 ≤ 10 := by omega
  refine wpF (args := [_, _, _]) mixed okf5 (fn := Tryd.f5) rfl rfl rfl (by simp) ?_
  refine cSeq ?_
  refine cRegion ?_
  refine sAs (v := .bool _) rfl ?_
  refine sNil (kSeqN ?_)
  refine cSeq ?_
  refine cRegion ?_
  refine sMv (v := .slice _ _ _) rfl ?_
  obtain ⟨v26, m26, h26, b, rfl, hb, hS26, e26⟩ := spec_Of ha2
  refine sCall1 rfl call31 rfl h26 ?_
  refine sAs (v := .pointer _) rfl ?_
  refine sNil (kSeqN ?_)
  refine cSeq ?_
  refine cRegion ?_
  refine sMv (v := .int .u8 _) rfl ?_
  refine sP (v := nv c) (conv5_3 hc) ?_
  refine sBin (b := 10) rfl rfl (aInt_rem (by omega)) ?_
  refine sBin (a := 1) rfl rfl (aInt_add (by omega)) ?_
  generalize 1 + c % 10 = n at *
  have h2n : 2 ^ n ≤ 2 ^ 10 := Nat.pow_le_pow_right (by omega) hn2
  have h2p : 0 < 2 ^ n := Nat.two_pow_pos n
  refine sAs (v := nv _) rfl ?_
  refine sNil (kSeqN ?_)
  refine cSeq ?_
  refine cRegion ?_
  refine sMv (v := .slice _ _ _) rfl ?_
  obtain ⟨v32, m32, h32, b', rfl, hb', hT32, e32⟩ := spec_Of (ha.ext e26)
  have hS32 := hS26.ext hb e32
  have hbS := hS26.lt
  have hbT := hT32.lt
  have hz26 := e26.1
  refine sCall1 rfl call31 rfl h32 ?_
  refine sMv (v := nv _) rfl ?_
  obtain ⟨v34, m34, h34, L, oL, hLl, hLx, hT34, x34⟩ := spec_Made (n := n) (most := 8) hT32 (by omega) hb' (by omega) (by omega)
  obtain ⟨qL, cL, rfl⟩ := oL.ints.lenN
  have hR : Right L n := made_right hn1 (by omega) (by omega) hLl hLx
  have hS34 := hS32.lowx hb x34 (.inr hb')
  have y34 : Ext m m34 := (e26.trans e32).lowx x34 (by omega)
  have hll : 2 ^ L.length ≤ 2 ^ 8 := Nat.pow_le_pow_right (by omega) hLl
  have hlp : 0 < 2 ^ L.length := Nat.two_pow_pos _
  have hx60 : ∀ x ∈ L, x < 2 ^ 62 := fun x hx => Nat.lt_of_lt_of_le (hLx x hx) (by omega)
  refine sCall3 rfl call32 rfl rfl rfl h34 ?_
  refine sAs (v := .slice _ _ _) rfl ?_
  refine sNil (kSeqN ?_)
  refine cSeq ?_
  refine cRegion ?_
  refine sMv (v := .slice _ _ _) rfl ?_
  refine sLen T22 rfl ?_
  refine sAs (v := nv _) rfl ?_
  refine sNil (kSeqN ?_)
  refine cSeq ?_
  refine cRegion ?_
  refine sMv (v := .pointer _) rfl ?_
  refine sMv (v := nv _) rfl ?_
  refine sBin rfl rfl (aInt_shl (a := 1) (by omega)) ?_
  rw [Nat.shiftLeft_eq, Nat.one_mul]
  obtain ⟨v40, m40, h40, ⟨md, rfl, hmd⟩, hS40, o40⟩ := spec_Less (n := 2 ^ n) hS34 (by omega) (by omega) (by omega)
  have oL40 := oL.only o40 (by omega)
  have y40 := y34.only o40 hb
  have iL40 := oL40.ints
  refine sCall2 rfl call33 rfl rfl h40 ?_
  refine sAs (v := nv _) rfl ?_
  refine sNil (kSeqN ?_)
  refine cSeq ?_
  refine cRegion ?_
  refine sAs (v := nv 0) rfl ?_
  refine sNil (kSeqN ?_)
  refine cSeq ?_
  refine cSeq ?_
  refine cRegion ?_
  refine sMv (v := .slice _ _ _) rfl ?_
  refine sLen T22 rfl ?_
  refine sMv (v := nv 0) rfl ?_
  refine sNil (kSeqN ?_)
  refine cBlock ?_
  refine wpC_loop (fun k ρ m' => ∃ i B, k = L.length - i ∧ i ≤ L.length ∧ B < 2 ^ i ∧ m40 = m' ∧ Has ρ [(7, .pointer (some ⟨b, 0, none⟩)), (8, nv n), (9, .slice qL L.length cL), (10, nv L.length), (11, nv md), (12, nv B), (41, .slice qL L.length cL), (42, nv L.length), (43, nv i)]) ⟨0, 0, rfl, by omega, by omega, rfl, rfl, rfl, rfl, rfl, rfl, rfl, rfl, rfl, rfl, trivial⟩ ?_
  rintro k ρ m' ⟨i, B, rfl, hi, hB, rfl, hh⟩
  rw [hh.env]; clear hh
  refine cSeq ?_
  refine cRegion ?_
  refine sBin rfl rfl (aInt_lss) ?_
  refine sNil (kSeqN ?_)
  refine cSeq ?_   -- seq 10
  refine cCond rfl (fun c0 => ?_) (fun c0 => ?_)
  ·
    obtain ⟨b1, o1, p1, r1, cc1, e1, g1, x1⟩ := iL40.atN (by omega)
    obtain ⟨rfl, rfl, rfl⟩ := e1
    have hli : L[i]? = some (L.getD i 0) := by rw [List.getD_eq_getElem?_getD, List.getElem?_eq_getElem c0]; rfl
    have hx1 := hLx _ (getD_mem c0)
    have hand : L.getD i 0 &&& md ≤ md := Nat.and_le_right
    have h2i : 2 ^ i ≤ 2 ^ 8 := Nat.pow_le_pow_right (by omega) (by omega)
    have h2s : 2 ^ (i + 1) = 2 ^ i * 2 := Nat.pow_succ 2 i
    refine cSkip (kSeqN ?_)
    refine cSeq ?_
    refine cBlock ?_
    refine cSeq ?_
    refine cRegion ?_
    refine sMv (v := nv _) rfl ?_
    refine sIx T22 S3 rfl rfl (by omega) ?_
    refine sLd (v := nv (L.getD i 0)) A3 rfl g1 (x1 _ _ hli) ?_
    refine sAs (v := nv _) rfl ?_
    refine sAs (v := nv _) rfl ?_
    refine sNil (kSeqN ?_)
    refine cSeq ?_
    refine cRegion ?_
    refine sMv (v := nv _) rfl ?_
    refine sMv (v := nv _) rfl ?_
    refine sBin rfl rfl (aInt_and (by omega)) ?_
    obtain ⟨v51, m51, h51, rfl, k51⟩ := spec_odd (m := m40) (x := L.getD i 0 &&& md) (by omega)
    rw [k51] at h51
    refine sCall1 rfl call34 rfl h51 ?_
    refine sNil (kSeqN ?_)
    refine cCond (p := oddB (L.getD i 0 &&& md) = true) (by show Value.bool _ = _; simp) (fun c1 => ?_) (fun c1 => ?_)
    ·
      refine cRegion ?_
      refine sMv (v := nv _) rfl ?_
      refine sMv (v := nv _) rfl ?_
      refine sBin rfl rfl (aInt_shl (a := 1) (by omega)) ?_
      rw [Nat.shiftLeft_eq, Nat.one_mul]
      refine sBin rfl rfl (aInt_or (by omega)) ?_
      refine sAs (v := nv _) rfl ?_
      refine sNil (kBlkN (kSeqN ?_))
      refine cRegion ?_
      refine sBin rfl rfl (aInt_add (b := 1) (by omega)) ?_
      refine sMv (v := nv _) rfl ?_
      refine sNil (kSeqN ?_)
      refine ⟨_, ?_, i + 1, _, rfl, by omega, or_lt hB, rfl, rfl, rfl, rfl, rfl, rfl, rfl, rfl, rfl, rfl, trivial⟩
      omega
    ·
      refine cSkip (kBlkN (kSeqN ?_))
      refine cRegion ?_
      refine sBin rfl rfl (aInt_add (b := 1) (by omega)) ?_
      refine sMv (v := nv _) rfl ?_
      refine sNil (kSeqN ?_)
      refine ⟨_, ?_, i + 1, _, rfl, by omega, by omega, rfl, rfl, rfl, rfl, rfl, rfl, rfl, rfl, rfl, rfl, trivial⟩
      omega
  ·
    have hie : i = L.length := by omega
    subst hie
    refine cExit (kSeqE (kSeqE (kBlkS (kSeqN ?_))))
    refine cCut (fun ρ m' => ∃ B, B < 2 ^ L.length ∧ StoreAt m.size m26.size m' b 43 ∧ Only b m40 m' ∧ Has ρ [(7, .pointer (some ⟨b, 0, none⟩)), (8, nv n), (9, .slice qL L.length cL), (10, nv L.length), (12, nv B)]) ?_ ?_
    ·
      refine cSeq ?_
      refine cRegion ?_
      refine sMv (v := .pointer _) rfl ?_
      obtain ⟨v58, m58, h58, ⟨y58, rfl⟩, hS58, o58⟩ := spec_Seldom (n := 3) hS40 (by omega) (by omega) (by omega)
      refine sCall2 rfl call35 rfl rfl h58 ?_
      refine sNil (kSeqN ?_)
      refine cCond rfl (fun c2 => ?_) (fun c2 => ?_)
      ·
        refine cRegion ?_
        refine sMv (v := .pointer _) rfl ?_
        refine sMv (v := nv _) rfl ?_
        refine sBin rfl rfl (aInt_shl (a := 1) (by omega)) ?_
        rw [Nat.shiftLeft_eq, Nat.one_mul]
        obtain ⟨v62, m62, h62, ⟨B2, rfl, hB2⟩, hS62, o62⟩ := spec_Less (n := 2 ^ L.length) hS58 (by omega) (by omega) (by omega)
        refine sCall2 rfl call33 rfl rfl h62 ?_
        refine sAs (v := nv _) rfl ?_
        refine sNil (kSeqN ?_)
        exact ⟨B2, hB2, hS62.le (by omega), o58.trans o62, rfl, rfl, rfl, rfl, rfl, trivial⟩
      ·
        refine cSkip (kSeqN ?_)
        exact ⟨B, hB, hS58.le (by omega), o58, rfl, rfl, rfl, rfl, rfl, trivial⟩
    clear hB
    rintro ρ m1 ⟨B, hB, hS1, o1, hh⟩
    rw [hh.env]; clear hh
    have oL1 := oL40.only o1 (by omega)
    have y1 := y40.only o1 hb
    refine cSeq ?_
    refine cRegion ?_
    refine sMv (v := .slice _ _ _) rfl ?_
    refine sMv (v := nv _) rfl ?_
    refine sMv (v := nv _) rfl ?_
    obtain ⟨v67, m67, h67, X, E, rfl, hE0, hE6, e67⟩ := sp_Solve' hR hB oL1.ints
    refine sCall3 rfl kall21 rfl rfl rfl h67 ?_
    have y67 := y1.trans e67
    have hS67 := hS1.ext hb e67
    have oL67 := oL1.ext e67
    refine sMv (v := .tuple _) rfl ?_
    refine sP (v := nv _) rfl ?_   -- extract ['t63', '0']
    refine sP (v := nv _) rfl ?_   -- extract ['t63', '1']
    refine sAs (v := nv _) rfl ?_
    refine sAs (v := nv _) rfl ?_
    refine sNil (kSeqN ?_)
    refine cCut (fun ρ m' => Ext m67 m' ∧ Has ρ [(7, .pointer (some ⟨b, 0, none⟩)), (8, nv n), (9, .slice qL L.length cL), (10, nv L.length)]) ?_ ?_
    ·
      refine cSeq ?_
      refine cRegion ?_
      refine sMv (v := nv _) rfl ?_
      refine sNil (kSeqN ?_)
      refine cBlock ?_
      refine cSeq ?_
      refine cRegion ?_
      refine sBin (a := E) (b := 0) rfl rfl aInt_eql ?_
      refine sAs (v := .bool _) rfl ?_
      refine sNil (kSeqN ?_)
      refine cCond (p := E = 0) rfl (fun c3 => ?_) (fun c3 => ?_)
      ·
        obtain ⟨hX, hXl, hleast⟩ := hE0 c3
        refine cSeq ?_
        refine cRegion ?_
        refine sMv (v := .slice _ _ _) rfl ?_
        refine sMv (v := nv _) rfl ?_
        refine sMv (v := nv _) rfl ?_
        obtain ⟨v77, m77, h77, rfl, e77⟩ := sp_Apply hR hXl oL67.ints
        rw [hX] at h77
        refine sCall3 rfl kall22 rfl rfl rfl h77 ?_
        have oL77 := oL67.ext e77
        refine sMv (v := .tuple _) rfl ?_
        refine sP (v := nv _) rfl ?_   -- extract ['t73', '0']
        refine sP (v := nv _) rfl ?_   -- extract ['t73', '1']
        refine sAs (v := nv _) rfl ?_
        refine sAs (v := nv _) rfl ?_
        refine sNil (kSeqN ?_)
        refine cSeq ?_   -- seq 21
        refine cSeq ?_
        refine cRegion ?_
        refine sMv (v := nv _) rfl ?_
        refine sBin (v := .bool false) (a := 0) (b := 0) rfl rfl (neqF rfl) ?_
        refine sMv (v := .bool _) rfl ?_
        refine sG rfl rfl ?_
        refine sMv (v := nv _) rfl ?_
        refine sG rfl rfl ?_
        refine sMv (v := nv _) rfl ?_
        refine sG rfl rfl ?_
        refine sBin (v := .bool false) rfl rfl (neqF rfl) ?_
        refine sP (v := .bool _) rfl ?_   -- t86 pick ['t82', '(bool true)', 't85']
        refine sMv (v := .bool _) rfl ?_
        refine sG rfl rfl ?_
        refine sMv (v := nv _) rfl ?_
        refine sG rfl rfl ?_
        refine sBin (v := .bool false) (b := 0) rfl rfl (lssF (by omega)) ?_
        refine sP (v := .bool _) rfl ?_   -- t90 pick ['t87', '(bool true)', 't89']
        refine sMv (v := .bool _) rfl ?_
        refine sG rfl rfl ?_
        refine sMv (v := nv _) rfl ?_
        refine sG rfl rfl ?_
        refine sMv (v := nv _) rfl ?_
        refine sG rfl rfl ?_
        refine sBin rfl rfl (aInt_shl (a := 1) (by omega)) ?_
        rw [Nat.shiftLeft_eq, Nat.one_mul]
        refine sG rfl rfl ?_
        refine sBin (v := .bool false) rfl rfl (geqF (by omega)) ?_
        refine sP (v := .bool _) rfl ?_   -- t96 pick ['t91', '(bool true)', 't95']
        refine sNil (kSeqN ?_)
        refine cCondF rfl ?_
        refine cSkip (kSeqN ?_)
        refine cSeq ?_
        refine cRegion ?_
        refine sMv (v := nv _) rfl ?_
        refine sMv (v := nv 0) rfl ?_
        refine sNil (kSeqN ?_)
        refine cBlock ?_
        refine wpC_loop (fun k ρ m' => ∃ y, k = X - y ∧ y ≤ X ∧ m77 = m' ∧ Has ρ [(7, .pointer (some ⟨b, 0, none⟩)), (8, nv n), (9, .slice qL L.length cL), (10, nv L.length), (12, nv B), (97, nv X), (98, nv y)]) ⟨0, rfl, by omega, rfl, rfl, rfl, rfl, rfl, rfl, rfl, rfl, trivial⟩ ?_
        rintro k ρ m' ⟨y, rfl, hy, rfl, hh⟩
        rw [hh.env]; clear hh
        refine cSeq ?_
        refine cRegion ?_
        refine sBin rfl rfl (aInt_lss) ?_
        refine sNil (kSeqN ?_)
        refine cSeq ?_   -- seq 25
        refine cCond rfl (fun c5 => ?_) (fun c5 => ?_)
        ·
          refine cSkip (kSeqN ?_)
          refine cSeq ?_
          refine cBlock ?_
          refine cSeq ?_
          refine cRegion ?_
          refine sMv (v := nv _) rfl ?_
          refine sAs (v := nv _) rfl ?_
          refine sNil (kSeqN ?_)
          refine cSeq ?_
          refine cRegion ?_
          refine sMv (v := .slice _ _ _) rfl ?_
          refine sMv (v := nv _) rfl ?_
          refine sMv (v := nv _) rfl ?_
          have hno : ¬ ∀ i, i < L.length → dot (L.getD i 0) y = B.testBit i := fun hall => by
            have := hleast y (by omega) hall; omega
          obtain ⟨v104, m104, h104, rfl, k104⟩ := spec_solves (m := m77) (x := y) (b := B) oL77.ints (by omega) hx60 (by omega) (by omega)
          rw [k104, decide_eq_false hno] at h104
          refine sCall3 rfl kall36 rfl rfl rfl h104 ?_
          refine sNil (kSeqN ?_)
          refine cCondF rfl ?_
          refine cSkip (kBlkN (kSeqN ?_))
          refine cRegion ?_
          refine sBin rfl rfl (aInt_add (b := 1) (by omega)) ?_
          refine sMv (v := nv _) rfl ?_
          refine sNil (kSeqN ?_)
          refine ⟨_, ?_, y + 1, rfl, by omega, rfl, rfl, rfl, rfl, rfl, rfl, rfl, rfl, trivial⟩
          omega
        ·
          refine cExit (kSeqE (kSeqE (kBlkS (kBlkN (kSeqN ?_)))))
          exact ⟨e77, rfl, rfl, rfl, rfl, trivial⟩
      ·
        obtain ⟨h6, w0, hw0, htot0, hdot0⟩ := hE6 c3
        refine cSeq ?_
        refine cRegion ?_
        refine sBin (v := .bool true) (a := E) (b := 6) rfl rfl (eqlT h6) ?_
        refine sAs (v := .bool _) rfl ?_
        refine sNil (kSeqN ?_)
        refine cCondT rfl ?_
        refine cSeq ?_
        refine cRegion ?_
        refine sAs (v := .bool false) rfl ?_
        refine sNil (kSeqN ?_)
        refine cSeq ?_
        refine cSeq ?_
        refine cRegion ?_
        refine sMv (v := nv _) rfl ?_
        refine sBin rfl rfl (aInt_shl (a := 1) (by omega)) ?_
        rw [Nat.shiftLeft_eq, Nat.one_mul]
        refine sMv (v := nv 0) rfl ?_
        refine sNil (kSeqN ?_)
        refine cBlock ?_
        refine wpC_loop (fun k ρ m' => ∃ i nb, k = 2 ^ L.length - i ∧ i ≤ 2 ^ L.length ∧ (w0 < i → nb = true) ∧ m67 = m' ∧ Has ρ [(7, .pointer (some ⟨b, 0, none⟩)), (8, nv n), (9, .slice qL L.length cL), (10, nv L.length), (12, nv B), (20, .bool nb), (109, nv (2 ^ L.length)), (110, nv i)]) ⟨0, false, rfl, by omega, by omega, rfl, rfl, rfl, rfl, rfl, rfl, rfl, rfl, rfl, trivial⟩ ?_
        rintro k ρ m' ⟨i, nb, rfl, hi, hnb, rfl, hh⟩
        rw [hh.env]; clear hh
        refine cSeq ?_
        refine cRegion ?_
        refine sBin rfl rfl (aInt_lss) ?_
        refine sNil (kSeqN ?_)
        refine cSeq ?_   -- seq 34
        refine cCond rfl (fun c8 => ?_) (fun c8 => ?_)
        ·
          refine cSkip (kSeqN ?_)
          refine cSeq ?_
          refine cBlock ?_
          refine cSeq ?_
          refine cRegion ?_
          refine sMv (v := nv _) rfl ?_
          refine sAs (v := nv _) rfl ?_
          refine sNil (kSeqN ?_)
          refine cRegion ?_
          refine sMv (v := .bool nb) rfl ?_
          refine sMv (v := .bool nb) rfl ?_
          by_cases h1 : nb = true
          ·
            subst h1
            refine sGno (q' := true) rfl rfl (by simp) ?_
            refine sGno (q' := true) rfl rfl (by simp) ?_
            refine sGno (q' := true) rfl rfl (by simp) ?_
            refine sGno (q' := true) rfl rfl (by simp) ?_
            refine sGno (q' := true) rfl rfl (by simp) ?_
            refine sGnoU rfl rfl ?_
            refine sGnoU rfl rfl ?_
            refine sGnoU rfl rfl ?_
            refine sGnoU rfl rfl ?_
            refine sGno (q' := true) rfl rfl (by simp) ?_
            refine sP (v := .bool _) rfl ?_   -- t125 pick ['t114', '(bool true)', 't124']
            refine sAs (v := .bool _) rfl ?_
            refine sNil (kBlkN (kSeqN ?_))
            refine cRegion ?_
            refine sBin rfl rfl (aInt_add (b := 1) (by omega)) ?_
            refine sMv (v := nv _) rfl ?_
            refine sNil (kSeqN ?_)
            refine ⟨_, ?_, i + 1, _, rfl, by omega, fun _ => rfl, rfl, rfl, rfl, rfl, rfl, rfl, rfl, rfl, rfl, trivial⟩
            omega
          ·
            obtain rfl : nb = false := by simpa using h1
            refine sG rfl rfl ?_
            refine sMv (v := .slice _ _ _) rfl ?_
            refine sG rfl rfl ?_
            refine sMv (v := nv _) rfl ?_
            refine sG rfl rfl ?_
            obtain ⟨v117, m117, h117, rfl, k117⟩ := spec_total (m := m67) (w := i) oL67.ints (by omega) hx60 (by omega)
            rw [k117] at h117
            refine sCall2 rfl call37 rfl rfl h117 ?_
            refine sG rfl rfl ?_
            refine sBin (b := 0) rfl rfl aInt_eql ?_
            refine sG rfl rfl ?_
            refine sMv (v := .bool _) rfl ?_
            by_cases h2 : total L i = 0
            ·
              rw [decide_eq_true h2]
              refine sG rfl rfl ?_
              refine sMv (v := nv _) rfl ?_
              refine sG rfl rfl ?_
              refine sMv (v := nv _) rfl ?_
              refine sG rfl rfl ?_
              refine sBin rfl rfl (aInt_and (by omega)) ?_
              refine sG rfl rfl ?_
              have hand : i &&& B ≤ B := Nat.and_le_right
              obtain ⟨v123, m123, h123, rfl, k123⟩ := spec_odd (m := m67) (x := i &&& B) (by omega)
              rw [k123] at h123
              refine sCall1 rfl call34 rfl h123 ?_
              refine sG rfl rfl ?_
              refine sP (v := .bool _) rfl ?_   -- t124 pick ['t119', 't123', '(bool false)']
              refine sP (v := .bool _) rfl ?_   -- t125 pick ['t114', '(bool true)', 't124']
              refine sAs (v := .bool _) rfl ?_
              refine sNil (kBlkN (kSeqN ?_))
              refine cRegion ?_
              refine sBin rfl rfl (aInt_add (b := 1) (by omega)) ?_
              refine sMv (v := nv _) rfl ?_
              refine sNil (kSeqN ?_)
              refine ⟨_, ?_, i + 1, oddB (i &&& B), rfl, by omega, fun hw => ?_, rfl, rfl, rfl, rfl, rfl, rfl, rfl, rfl, rfl, trivial⟩
              · omega
              · by_cases e : w0 = i
                · rw [← e]; exact hdot0
                · exact absurd (hnb (by omega)) (by simp)
            ·
              rw [decide_eq_false h2]
              refine sGno (q' := false) rfl rfl (by simp) ?_
              refine sGno (q' := false) rfl rfl (by simp) ?_
              refine sGno (q' := false) rfl rfl (by simp) ?_
              refine sGno (q' := false) rfl rfl (by simp) ?_
              refine sG rfl rfl ?_
              refine sP (v := .bool _) rfl ?_   -- t124 pick ['t119', 't123', '(bool false)']
              refine sP (v := .bool _) rfl ?_   -- t125 pick ['t114', '(bool true)', 't124']
              refine sAs (v := .bool _) rfl ?_
              refine sNil (kBlkN (kSeqN ?_))
              refine cRegion ?_
              refine sBin rfl rfl (aInt_add (b := 1) (by omega)) ?_
              refine sMv (v := nv _) rfl ?_
              refine sNil (kSeqN ?_)
              refine ⟨_, ?_, i + 1, false, rfl, by omega, fun hw => ?_, rfl, rfl, rfl, rfl, rfl, rfl, rfl, rfl, rfl, trivial⟩
              · omega
              · by_cases e : w0 = i
                · rw [e] at htot0; exact absurd htot0 h2
                · exact absurd (hnb (by omega)) (by simp)
        ·
          obtain rfl : nb = true := hnb (by omega)
          refine cExit (kSeqE (kSeqE (kBlkS (kSeqN ?_))))
          refine cSeq ?_
          refine cRegion ?_
          refine sMv (v := .bool _) rfl ?_
          refine sP (v := .bool _) rfl ?_   -- t128 unOp ['not', '4', 't127']
          refine sNil (kSeqN ?_)
          refine cCondF rfl ?_
          refine cSkip (kBlkN (kSeqN ?_))
          exact ⟨.refl _, rfl, rfl, rfl, rfl, trivial⟩
    rintro ρ m2 ⟨e2, hh⟩
    rw [hh.env]; clear hh
    have y2 := y67.trans e2
    have hS2 := hS67.ext hb e2
    have oL2 := oL67.ext e2
    refine cSeq ?_
    refine cRegion ?_
    refine sMv (v := .pointer _) rfl ?_
    refine sMv (v := nv _) rfl ?_
    refine sBin rfl rfl (aInt_shl (a := 1) (by omega)) ?_
    rw [Nat.shiftLeft_eq, Nat.one_mul]
    obtain ⟨v132, m132, h132, ⟨row0, rfl, hrow0⟩, hS132, o132⟩ := spec_Less (n := 2 ^ n) hS2 (by omega) (by omega) (by omega)
    refine sCall2 rfl call33 rfl rfl h132 ?_
    have oL132 := oL2.only o132 (by omega)
    have y132 := y2.only o132 hb
    refine sAs (v := nv _) rfl ?_
    refine sNil (kSeqN ?_)
    refine cCut (fun ρ m' => ∃ row, row < 2 ^ n ∧ Only b m132 m' ∧ Has ρ [(8, nv n), (9, .slice qL L.length cL), (10, nv L.length), (22, nv row)]) ?_ ?_
    ·
      refine cSeq ?_
      refine cRegion ?_
      refine sMv (v := .pointer _) rfl ?_
      obtain ⟨v134, m134, h134, ⟨y134, rfl⟩, hS134, o134⟩ := spec_Seldom (n := 2) hS132 (by omega) (by omega) (by omega)
      refine sCall2 rfl call35 rfl rfl h134 ?_
      refine sNil (kSeqN ?_)
      refine cCond rfl (fun c10 => ?_) (fun c10 => ?_)
      ·
        refine cRegion ?_
        refine sMv (v := .slice _ _ _) rfl ?_
        refine sMv (v := .pointer _) rfl ?_
        refine sMv (v := nv _) rfl ?_
        refine sBin rfl rfl (aInt_shl (a := 1) (by omega)) ?_
        rw [Nat.shiftLeft_eq, Nat.one_mul]
        obtain ⟨v139, m139, h139, ⟨w, rfl, hw⟩, hS139, o139⟩ := spec_Less (n := 2 ^ L.length) hS134 (by omega) (by omega) (by omega)
        refine sCall2 rfl call33 rfl rfl h139 ?_
        obtain ⟨v140, m140, h140, rfl, k140⟩ := spec_total (m := m139) (w := w) ((oL132.only o134 (by omega)).only o139 (by omega)).ints (by omega) hx60 (by omega)
        rw [k140] at h140
        refine sCall2 rfl call37 rfl rfl h140 ?_
        refine sAs (v := nv _) rfl ?_
        refine sNil (kSeqN ?_)
        exact ⟨_, total_lt hLx w, o134.trans o139, rfl, rfl, rfl, rfl, trivial⟩
      ·
        refine cSkip (kSeqN ?_)
        exact ⟨_, hrow0, o134, rfl, rfl, rfl, rfl, trivial⟩
    rintro ρ m3 ⟨row, hrow, o3, hh⟩
    rw [hh.env]; clear hh
    have y3 := y132.only o3 hb
    have oL3 := oL132.only o3 (by omega)
    refine cSeq ?_
    refine cRegion ?_
    refine sMv (v := .slice _ _ _) rfl ?_
    refine sMv (v := nv _) rfl ?_
    refine sMv (v := nv _) rfl ?_
    obtain ⟨v145, m145, h145, W, F, rfl, hWl, hF0, hF6, e145⟩ := sp_Which' hR hrow oL3.ints
    refine sCall3 rfl kall38 rfl rfl rfl h145 ?_
    have y145 := y3.trans e145
    have oL145 := oL3.ext e145
    refine sMv (v := .tuple _) rfl ?_
    refine sP (v := nv _) rfl ?_   -- extract ['t141', '0']
    refine sP (v := nv _) rfl ?_   -- extract ['t141', '1']
    refine sAs (v := nv _) rfl ?_
    refine sAs (v := nv _) rfl ?_
    refine sNil (kSeqN ?_)
    refine cCut (fun ρ m' => m145 = m' ∧ Has ρ [(9, .slice qL L.length cL), (10, nv L.length), (22, nv row), (16, nv F), (23, nv W)]) ?_ ?_
    ·
      refine cSeq ?_
      refine cRegion ?_
      refine sMv (v := nv _) rfl ?_
      refine sBin (a := F) (b := 0) rfl rfl aInt_neq ?_
      refine sMv (v := .bool _) rfl ?_
      by_cases h1 : F ≠ 0
      ·
        rw [decide_eq_true h1]
        refine sG rfl rfl ?_
        refine sMv (v := nv _) rfl ?_
        refine sG rfl rfl ?_
        refine sBin (v := .bool false) (a := F) (b := 6) rfl rfl (neqF (hF6 h1).1) ?_
        refine sP (v := .bool _) rfl ?_   -- t153 pick ['t150', 't152', '(bool false)']
        refine sMv (v := .bool _) rfl ?_
        refine sG rfl rfl ?_
        refine sMv (v := nv _) rfl ?_
        refine sG rfl rfl ?_
        refine sBin (a := F) (b := 0) rfl rfl aInt_eql ?_
        refine sG rfl rfl ?_
        refine sMv (v := .bool _) rfl ?_
        by_cases h3 : F = 0
        ·
          rw [decide_eq_true h3]
          refine sG rfl rfl ?_
          refine sMv (v := nv _) rfl ?_
          refine sG rfl rfl ?_
          refine sBin (v := .bool false) (b := 0) rfl rfl (lssF (by omega)) ?_
          refine sG rfl rfl ?_
          refine sMv (v := .bool _) rfl ?_
          refine sG rfl rfl ?_
          refine sMv (v := nv _) rfl ?_
          refine sG rfl rfl ?_
          refine sMv (v := nv _) rfl ?_
          refine sG rfl rfl ?_
          refine sBin rfl rfl (aInt_shl (a := 1) (by omega)) ?_
          rw [Nat.shiftLeft_eq, Nat.one_mul]
          refine sG rfl rfl ?_
          refine sBin (v := .bool false) rfl rfl (geqF (by omega)) ?_
          refine sG rfl rfl ?_
          refine sP (v := .bool _) rfl ?_   -- t165 pick ['t160', '(bool true)', 't164']
          refine sG rfl rfl ?_
          refine sMv (v := .bool _) rfl ?_
          refine sG rfl rfl ?_
          refine sMv (v := .slice _ _ _) rfl ?_
          refine sG rfl rfl ?_
          refine sMv (v := nv _) rfl ?_
          refine sG rfl rfl ?_
          obtain ⟨v169, m169, h169, rfl, k169⟩ := spec_total (m := m145) (w := W) oL145.ints (by omega) hx60 (by omega)
          rw [k169, (hF0 h3).1] at h169
          refine sCall2 rfl call37 rfl rfl h169 ?_
          refine sG rfl rfl ?_
          refine sMv (v := nv _) rfl ?_
          refine sG rfl rfl ?_
          refine sBin (v := .bool false) rfl rfl (neqF rfl) ?_
          refine sG rfl rfl ?_
          refine sP (v := .bool _) rfl ?_   -- t172 pick ['t166', '(bool true)', 't171']
          refine sG rfl rfl ?_
          refine sP (v := .bool _) rfl ?_   -- t173 pick ['t157', 't172', '(bool false)']
          refine sP (v := .bool _) rfl ?_   -- t174 pick ['t154', '(bool true)', 't173']
          refine sNil (kSeqN ?_)
          refine cCondF rfl ?_
          refine cSkip (kSeqN ?_)
          exact ⟨rfl, rfl, rfl, rfl, rfl, rfl, trivial⟩
        ·
          rw [decide_eq_false h3]
          refine sGno (q' := false) rfl rfl (by simp) ?_
          refine sGno (q' := false) rfl rfl (by simp) ?_
          refine sGno (q' := false) rfl rfl (by simp) ?_
          refine sGnoU rfl rfl ?_
          refine sGnoU rfl rfl ?_
          refine sGnoU rfl rfl ?_
          refine sGnoU rfl rfl ?_
          refine sGno (q' := false) rfl rfl (by simp) ?_
          refine sGno (q' := false) rfl rfl (by simp) ?_
          refine sGnoU rfl rfl ?_
          refine sGnoU rfl rfl ?_
          refine sGnoU rfl rfl ?_
          refine sGnoU rfl rfl ?_
          refine sGnoU rfl rfl ?_
          refine sGno (q' := false) rfl rfl (by simp) ?_
          refine sG rfl rfl ?_
          refine sP (v := .bool _) rfl ?_   -- t173 pick ['t157', 't172', '(bool false)']
          refine sP (v := .bool _) rfl ?_   -- t174 pick ['t154', '(bool true)', 't173']
          refine sNil (kSeqN ?_)
          refine cCondF rfl ?_
          refine cSkip (kSeqN ?_)
          exact ⟨rfl, rfl, rfl, rfl, rfl, rfl, trivial⟩
      ·
        rw [decide_eq_false h1]
        refine sGno (q' := false) rfl rfl (by simp) ?_
        refine sGno (q' := false) rfl rfl (by simp) ?_
        refine sP (v := .bool _) rfl ?_   -- t153 pick ['t150', 't152', '(bool false)']
        refine sMv (v := .bool _) rfl ?_
        refine sG rfl rfl ?_
        refine sMv (v := nv _) rfl ?_
        refine sG rfl rfl ?_
        refine sBin (a := F) (b := 0) rfl rfl aInt_eql ?_
        refine sG rfl rfl ?_
        refine sMv (v := .bool _) rfl ?_
        by_cases h3 : F = 0
        ·
          rw [decide_eq_true h3]
          refine sG rfl rfl ?_
          refine sMv (v := nv _) rfl ?_
          refine sG rfl rfl ?_
          refine sBin (v := .bool false) (b := 0) rfl rfl (lssF (by omega)) ?_
          refine sG rfl rfl ?_
          refine sMv (v := .bool _) rfl ?_
          refine sG rfl rfl ?_
          refine sMv (v := nv _) rfl ?_
          refine sG rfl rfl ?_
          refine sMv (v := nv _) rfl ?_
          refine sG rfl rfl ?_
          refine sBin rfl rfl (aInt_shl (a := 1) (by omega)) ?_
          rw [Nat.shiftLeft_eq, Nat.one_mul]
          refine sG rfl rfl ?_
          refine sBin (v := .bool false) rfl rfl (geqF (by omega)) ?_
          refine sG rfl rfl ?_
          refine sP (v := .bool _) rfl ?_   -- t165 pick ['t160', '(bool true)', 't164']
          refine sG rfl rfl ?_
          refine sMv (v := .bool _) rfl ?_
          refine sG rfl rfl ?_
          refine sMv (v := .slice _ _ _) rfl ?_
          refine sG rfl rfl ?_
          refine sMv (v := nv _) rfl ?_
          refine sG rfl rfl ?_
          obtain ⟨v169, m169, h169, rfl, k169⟩ := spec_total (m := m145) (w := W) oL145.ints (by omega) hx60 (by omega)
          rw [k169, (hF0 h3).1] at h169
          refine sCall2 rfl call37 rfl rfl h169 ?_
          refine sG rfl rfl ?_
          refine sMv (v := nv _) rfl ?_
          refine sG rfl rfl ?_
          refine sBin (v := .bool false) rfl rfl (neqF rfl) ?_
          refine sG rfl rfl ?_
          refine sP (v := .bool _) rfl ?_   -- t172 pick ['t166', '(bool true)', 't171']
          refine sG rfl rfl ?_
          refine sP (v := .bool _) rfl ?_   -- t173 pick ['t157', 't172', '(bool false)']
          refine sP (v := .bool _) rfl ?_   -- t174 pick ['t154', '(bool true)', 't173']
          refine sNil (kSeqN ?_)
          refine cCondF rfl ?_
          refine cSkip (kSeqN ?_)
          exact ⟨rfl, rfl, rfl, rfl, rfl, rfl, trivial⟩
        ·
          rw [decide_eq_false h3]
          refine sGno (q' := false) rfl rfl (by simp) ?_
          refine sGno (q' := false) rfl rfl (by simp) ?_
          refine sGno (q' := false) rfl rfl (by simp) ?_
          refine sGnoU rfl rfl ?_
          refine sGnoU rfl rfl ?_
          refine sGnoU rfl rfl ?_
          refine sGnoU rfl rfl ?_
          refine sGno (q' := false) rfl rfl (by simp) ?_
          refine sGno (q' := false) rfl rfl (by simp) ?_
          refine sGnoU rfl rfl ?_
          refine sGnoU rfl rfl ?_
          refine sGnoU rfl rfl ?_
          refine sGnoU rfl rfl ?_
          refine sGnoU rfl rfl ?_
          refine sGno (q' := false) rfl rfl (by simp) ?_
          refine sG rfl rfl ?_
          refine sP (v := .bool _) rfl ?_   -- t173 pick ['t157', 't172', '(bool false)']
          refine sP (v := .bool _) rfl ?_   -- t174 pick ['t154', '(bool true)', 't173']
          refine sNil (kSeqN ?_)
          refine cCondF rfl ?_
          refine cSkip (kSeqN ?_)
          exact ⟨rfl, rfl, rfl, rfl, rfl, rfl, trivial⟩
    rintro ρ m4 ⟨rfl, hh⟩
    rw [hh.env]; clear hh
    refine cSeq ?_
    refine cSeq ?_
    refine cRegion ?_
    refine sMv (v := nv _) rfl ?_
    refine sBin rfl rfl (aInt_shl (a := 1) (by omega)) ?_
    rw [Nat.shiftLeft_eq, Nat.one_mul]
    refine sMv (v := nv 0) rfl ?_
    refine sNil (kSeqN ?_)
    refine cBlock ?_
    refine wpC_loop (fun k ρ m' => ∃ y, k = 2 ^ L.length - y ∧ y ≤ 2 ^ L.length ∧ (∀ z, z < y → total L z ≠ row) ∧ m145 = m' ∧ Has ρ [(9, .slice qL L.length cL), (10, nv L.length), (22, nv row), (16, nv F), (23, nv W), (176, nv (2 ^ L.length)), (177, nv y)]) ⟨0, rfl, by omega, by intro z hz; omega, rfl, rfl, rfl, rfl, rfl, rfl, rfl, rfl, trivial⟩ ?_
    rintro k ρ m' ⟨y, rfl, hy, hnot, rfl, hh⟩
    rw [hh.env]; clear hh
    refine cSeq ?_
    refine cRegion ?_
    refine sBin rfl rfl (aInt_lss) ?_
    refine sNil (kSeqN ?_)
    refine cSeq ?_   -- seq 47
    refine cCond rfl (fun c15 => ?_) (fun c15 => ?_)
    ·
      refine cSkip (kSeqN ?_)
      refine cSeq ?_
      refine cBlock ?_
      refine cSeq ?_
      refine cRegion ?_
      refine sMv (v := nv _) rfl ?_
      refine sAs (v := nv _) rfl ?_
      refine sNil (kSeqN ?_)
      refine cSeq ?_
      refine cRegion ?_
      refine sMv (v := .slice _ _ _) rfl ?_
      refine sMv (v := nv _) rfl ?_
      obtain ⟨v182, m182, h182, rfl, k182⟩ := spec_total (m := m145) (w := y) oL145.ints (by omega) hx60 (by omega)
      rw [k182] at h182
      refine sCall2 rfl call37 rfl rfl h182 ?_
      refine sMv (v := nv _) rfl ?_
      refine sBin rfl rfl aInt_eql ?_
      refine sNil (kSeqN ?_)
      refine cCond (p := total L y = row) rfl (fun c16 => ?_) (fun c16 => ?_)
      ·
        have hF : F = 0 := by
          apply Classical.byContradiction
          intro hne
          exact (hF6 hne).2 y c16
        have hWy : y = W := by
          have h1 := (hF0 hF).2 y c16
          rcases Nat.lt_or_ge W y with h2 | h2
          · exact absurd (hF0 hF).1 (hnot W h2)
          · omega
        refine cSeq ?_
        refine cRegion ?_
        refine sMv (v := nv _) rfl ?_
        refine sBin (v := .bool true) (a := F) (b := 0) rfl rfl (eqlT hF) ?_
        refine sMv (v := .bool _) rfl ?_
        refine sG rfl rfl ?_
        refine sMv (v := nv _) rfl ?_
        refine sG rfl rfl ?_
        refine sMv (v := nv _) rfl ?_
        refine sG rfl rfl ?_
        refine sBin (v := .bool true) rfl rfl (eqlT hWy) ?_
        refine sP (v := .bool _) rfl ?_   -- t191 pick ['t187', 't190', '(bool false)']
        refine sMv (v := .bool _) rfl ?_
        refine sG rfl rfl ?_
        obtain ⟨v193, m193, h193, rfl, e193⟩ := spec_awake (hG.ext y145)
        refine sCall0 rfl call17 h193 ?_
        refine sP (v := .bool _) rfl ?_   -- t194 pick ['t192', 't193', '(bool false)']
        refine sAs (v := .bool _) rfl ?_
        refine sNil (kSeqN ?_)
        refine cRet (kBlkR (kSeqR (kSeqR (kBlkR (kSeqR ?_)))))
        exact ⟨.inr rfl, _, rfl, rfl, trivial⟩
      ·
        refine cSkip (kBlkN (kSeqN ?_))
        refine cRegion ?_
        refine sBin rfl rfl (aInt_add (b := 1) (by omega)) ?_
        refine sMv (v := nv _) rfl ?_
        refine sNil (kSeqN ?_)
        refine ⟨_, ?_, y + 1, rfl, by omega, fun z hz => ?_, rfl, rfl, rfl, rfl, rfl, rfl, rfl, rfl, trivial⟩
        · omega
        · by_cases e : z = y
          · rw [e]; exact c16
          · exact hnot z (by omega)
    ·
      have hF : F ≠ 0 := fun hF => hnot W (by omega) (hF0 hF).1
      refine cExit (kSeqE (kSeqE (kBlkS (kSeqN ?_))))
      refine cSeq ?_
      refine cRegion ?_
      refine sMv (v := nv _) rfl ?_
      refine sBin (v := .bool true) (a := F) (b := 6) rfl rfl (eqlT (hF6 hF).1) ?_
      refine sMv (v := .bool _) rfl ?_
      refine sG rfl rfl ?_
      obtain ⟨v199, m199, h199, rfl, e199⟩ := spec_awake (hG.ext y145)
      refine sCall0 rfl call17 h199 ?_
      refine sP (v := .bool _) rfl ?_   -- t200 pick ['t198', 't199', '(bool false)']
      refine sAs (v := .bool _) rfl ?_
      refine sNil (kSeqN ?_)
      refine cRet ?_
      exact ⟨.inr rfl, _, rfl, rfl, trivial⟩

end Go.AM

/-! ### F14 -/
namespace Go.Proofs.YtgiidbomifmcaaaDoor
open Go Go.AM Go.ChangeShapes Go.WideShapes Go.ChangeAt Go.WideMaps Go.WideElems Go.RowKit
set_option maxRecDepth 100000
set_option linter.unusedVariables false
theorem own : ownKnob Tryd.prog.godebug = none := by kernel_rfl
/-- The door's own heap meets the condition: three closed facts. -/
theorem door_met (os : Os) (args : Array Value) : laidMetH Tryd.prog laid3 ((World.doorLaid Tryd.prog 400 os).forCall (fun _ _ => 0) ⟨#[], args, []⟩).memory :=
  laidMetH_of_parts3 (fuel := 8) (laidMet_of_run' 8 (by kernel_rfl) (by kernel_rfl)) (by kernel_rfl) (by kernel_rfl)
theorem lifted5 (os : Os) (started : os.Started) (H : Type) (enc : TypeId × Value → H) :
    ReturnsInHanded {} Tryd.checked os 5 .any (fun w args => (Rows.bitsSolvedSpec.pre enc Tryd.prog Tryd.f5 [] false w args ∧ laidMetH Tryd.prog laid3 w) ∧ sizedMet enc Tryd.prog Tryd.f5 (OpenSpec.ofChange Rows.bitsSolvedSpec) false w args)
      (Rows.bitsSolvedSpec.post enc Tryd.prog Tryd.f5 false true false false) := by
  refine returnsInHanded_of_change_and (C := Tryd.checked) (X := fun w _ => laidMetH Tryd.prog laid3 w) (fun _ _ _ hh h => h.of_heap hh) own started (by kernel_rfl) Tryd.func5
    (ChangeSpec.witness_shaped (enc := enc) (C := Tryd.checked) (os := os) (X := fun w _ => laidMetH Tryd.prog laid3 w) false (World.doorLaid Tryd.prog 400 os) #[.slice none 0 0, .slice none 0 0, .int .u8 0] 8 rfl (World.shaped_of_RefB (by kernel_rfl) (by kernel_rfl)) (by kernel_rfl) (by kernel_rfl) (by kernel_rfl) (door_met os _)) ?_
  intro W base args ds gs before hval0 hW _ _ hL _
  have hval : ∀ (j : Nat) t v, Tryd.f5.params[j]? = some t → args[j]? = some v → Value.okWide Tryd.prog W .any base t v := hval0
  have hW' := hW
  obtain ⟨p, q, hA0, hV, rfl, hfz, hnd⟩ := hW
  have hA : DataW.TrodAll enc Tryd.prog W 0 (fun _ => true) true [35, 35, 5] args.toList ds p := hA0
  obtain ⟨v0, vs0, d0, ds0, p0, q0, hargs, rfl, rfl, h0, r0⟩ := trodAll_cons hA
  obtain ⟨v1, vs1, d1, ds1, p1, q1, rfl, rfl, rfl, h1, r1⟩ := trodAll_cons r0
  obtain ⟨v2, vs2, d2, ds2, p2, q2, rfl, rfl, rfl, h2, r2⟩ := trodAll_cons r1
  obtain ⟨rfl, rfl, rfl⟩ := trodAll_nil r2
  obtain rfl : args = #[v0, v1, v2] := by cases args; simp_all
  obtain ⟨rfl, rfl⟩ := trodVars_none hV
  obtain ⟨a0, l0, f0, ok0, wf0, A0⟩ := ints_arg hL u35 u5 c5 (hval 0 35 v0 rfl rfl) h0
  have lt0 : ∀ x ∈ p0, x.block < W.heap.size := by obtain ⟨m, hm⟩ := h0; exact DataW.trod_lt m _ _ _ hm
  obtain ⟨a1, l1, f1, ok1, wf1, A1⟩ := ints_arg hL u35 u5 c5 (hval 1 35 v1 rfl rfl) h1
  have lt1 : ∀ x ∈ p1, x.block < W.heap.size := by obtain ⟨m, hm⟩ := h1; exact DataW.trod_lt m _ _ _ hm
  obtain ⟨n2, rfl, rfl, rfl, w2⟩ := open_int u5 (hval 2 5 v2 rfl rfl) h2
  obtain ⟨c2, hc2, rfl⟩ := u8_nat w2
  refine (entry (args := #[f0 0, f1 1, .int .u8 (Int.ofNat c2)]) (A := [a0, a1]) hL (by intro a ha; simp only [List.mem_cons, List.not_mem_nil, or_false] at ha; rcases ha with rfl | rfl <;> assumption) (fun bm => (arel_cons ((A0 _ 0 rfl).2 bm) (arel_cons ((A1 _ 1 rfl).2 bm) (arel_cons (.int _ _) arel_nil)))) (fun b => ?_)).mono ?_
  · obtain ⟨v, m, h, hv, _⟩ := spec_BitsSolved (glob0 b _) ((A0 [a0, a1] 0 rfl).1 b) ((A1 [a0, a1] 1 rfl).1 b) hc2
    exact ⟨v, m, h, hv⟩
  · rintro e W' ⟨rfl, bel⟩
    exact ⟨_, rfl, _, _, _, [], _, [], hW', trodAll_mk1 (shut_bool u4 _), (trodAll_cons_mk (Below.trod laidOut (by kernel_rfl) (of_decide_eq_true (by kernel_rfl)) h0 bel lt0) (trodAll_cons_mk (Below.trod laidOut (by kernel_rfl) (of_decide_eq_true (by kernel_rfl)) h1 bel lt1) (trodAll_cons_mk (shut_int u5 w2) trodAll_mk0))), rfl, bel.frame _, fun h => by cases h⟩
theorem bitsSolved_holds : Rows.BitsSolvedSaid :=
  OpenClaim.holds_of_wide 5 Tryd.f5 rfl rfl rfl rfl rfl rfl rfl ⟨rfl, rfl, rfl, rfl, rfl⟩ rfl rfl rfl rfl rfl (by kernel_rfl) Tryd.func5 (by kernel_rfl)
    (of_decide_eq_true (by kernel_rfl)) (by unfold Func.isWrapper; first | (rw [if_pos (by decide +kernel)]; kernel_rfl) | (rw [if_neg (by decide +kernel)]; exact ⟨rfl, rfl⟩))
    (fun os started H enc _ => lifted5 os started H enc)
theorem bitsSolvedCard_holds : Rows.BitsSolvedCardSaid :=
  Claim7.holds_tied_plain_at .later [] [.data, .data, .funcs] true (true, "4e90e708c3a0b8b9bd838c7bc74774a1a5a946fb69b32deeeece4d3212f6d5ce") false
    bitsSolved_holds (fun _ h => by cases h) (by kernel_rfl) (fun _ h => by cases h) bitsSolved_row_tie rfl ⟨rfl, rfl⟩ (by kernel_rfl) rfl
    (fun f fn hf hfn => by
      obtain rfl : f = 5 := Option.some.inj ((show Tryd.prog.funcNamed "spoondrift/spoondriftlaw02.BitsSolved" = some 5 by kernel_rfl).symm.trans hf) |>.symm
      obtain rfl : fn = Tryd.f5 := (Option.some.inj (Tryd.func5.symm.trans hfn)).symm
      exact ⟨by kernel_rfl, fun j t ht => by
        have hm : t ∈ [35, 35, 5] := by simpa using Array.mem_of_getElem? (show (#[35, 35, 5] : Array Nat)[j]? = some t from ht)
        have hall : ([35, 35, 5].all fun u => !Tryd.prog.wantsStandIn u) = true := by kernel_rfl
        exact (show Tryd.prog.wantsStandIn t = false by simpa using List.all_eq_true.1 hall t hm)⟩)
    (by kernel_rfl)
end Go.Proofs.YtgiidbomifmcaaaDoor
