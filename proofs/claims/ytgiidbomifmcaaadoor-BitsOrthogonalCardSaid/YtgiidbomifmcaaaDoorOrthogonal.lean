/- All that is orthogonal to all that is orthogonal to a span is the span. -/
import Derived.Test.YtgiidbomifmcaaaDoorMade
import Derived.Test.YtgiidbomifmcaaaDoorEntryB
import Derived.Carry
import Derived.Test.YtgiidbomifmcaaaDoorTie
import Derived.Test.YtgiidbomifmcaaaDoorCards
set_option linter.unusedVariables false
set_option linter.unusedSimpArgs false
/-! ### E41 -/
namespace Go.AM
open Go.Proofs
set_option maxRecDepth 100000
set_option linter.unusedVariables false
set_option linter.unusedSimpArgs false
theorem call45 : callable Tryd.prog 45 = true := by kernel_rfl
theorem kall46 : callable Tryd.prog 46 = true := by kernel_rfl
theorem any_odd {X : Nat} {l : List Nat} : ((ofs l).any fun x => oddB (X &&& x.toNat)) = decide (∃ y ∈ l, dot X y = true) := by
  rw [Bool.eq_iff_iff, List.any_eq_true, decide_eq_true_eq]
  constructor
  · rintro ⟨x, hx, h⟩
    obtain ⟨y, hy, rfl⟩ := List.mem_map.1 hx
    exact ⟨y, hy, h⟩
  · rintro ⟨y, hy, h⟩
    exact ⟨_, List.mem_map.2 ⟨y, hy, rfl⟩, h⟩

theorem okf45 : okF Tryd.prog H0 45 8 = true := by kernel_rfl
theorem spec_Orth1 {m : Mem} {b x X : Nat} {r : Bool} (hb : Mem.get m b = .cells r #[nv X]) (hX : X < 2 ^ 60) (hx : x < 2 ^ 60) : ACalls Tryd.prog 45 #[nv x, .pointer (some ⟨b, 0, none⟩)] m (.bool (oddB (X &&& x))) m := by
  refine ACalls.callee ?_
  have hle : X &&& x ≤ X := Nat.and_le_left
  obtain ⟨v7, m7, h7, rfl, k7⟩ := spec_odd (m := m) (x := X &&& x) (by omega)
  subst k7
  refine wpF (args := [_, _]) mixed okf45 (fn := Tryd.f45) rfl rfl rfl (by simp) ?_
  refine cSeq ?_
  refine cRegion ?_
  refine sAs (v := .bool _) rfl ?_
  refine sNil (kSeqN ?_)
  refine cSeq ?_
  refine cRegion ?_
  refine sLd (v := nv X) A3 rfl hb rfl ?_
  refine sMv (v := nv _) rfl ?_
  refine sBin rfl rfl (aInt_and (by omega)) ?_
  refine sCall1 rfl call34 rfl h7 ?_
  refine sAs (v := .bool _) rfl ?_
  refine sNil (kSeqN ?_)
  refine cRet ?_
  exact ⟨.inr rfl, _, rfl, rfl, rfl⟩

theorem okf7 : okF Tryd.prog H0 7 129 = true := by kernel_rfl
theorem spec_BitsOrthogonal {m : Mem} {a : Value} {l : List Int} {c : Nat} (hG : Glob m) (ha : BytesAt m a l) (hc : c < 256) : ∃ v m', ACalls Tryd.prog 7 #[a, .int .u8 (Int.ofNat c)] m v m' ∧ (v = .bool true ∧ True) := by
  obtain ⟨q, cap, rfl⟩ := ha.len
  have hn1 : 1 ≤ 1 + c % 10 := by omega
  have hn2 : 1 + c % 10 ≤ 10 := by omega
  refine wpF (args := [_, _]) mixed okf7 (fn := Tryd.f7) rfl rfl rfl (by simp) ?_
  refine cSeq ?_
  refine cRegion ?_
  refine sAs (v := .bool _) rfl ?_
  refine sNil (kSeqN ?_)
  refine cSeq ?_
  refine cRegion ?_
  refine sMv (v := .slice _ _ _) rfl ?_
  obtain ⟨v21, m21, h21, b, rfl, hb, hS21, e21⟩ := spec_Of ha
  refine sCall1 rfl call31 rfl h21 ?_
  refine sAs (v := .pointer _) rfl ?_
  refine sNil (kSeqN ?_)
  refine cSeq ?_
  refine cRegion ?_
  refine sMv (v := .int .u8 _) rfl ?_
  refine sP (v := nv c) (conv5_3 hc) ?_
  refine sBin (b := 10) rfl rfl (aInt_rem (by omega)) ?_
  refine sBin (a := 1) rfl rfl (aInt_add (by omega)) ?_
  generalize 1 + c % 10 = n at *
  have h2n : 2 ^ n ≤ 2 ^ 10 := Nat.pow_le_pow_right (by omega) hn2
  have h2p : 0 < 2 ^ n := Nat.two_pow_pos n
  refine sAs (v := nv _) rfl ?_
  refine sNil (kSeqN ?_)
  refine cSeq ?_
  refine cRegion ?_
  refine sMv (v := .pointer _) rfl ?_
  refine sMv (v := nv _) rfl ?_
  obtain ⟨v28, m28, h28, L, oL, hLl, hLx, hS28, x28⟩ := spec_Made (n := n) (most := 8) hS21 (by omega) hb (by omega) (by omega)
  obtain ⟨qL, cL, rfl⟩ := oL.ints.lenN
  have hR : Right L n := made_right hn1 (by omega) (by omega) hLl hLx
  have y28 : Ext m m28 := e21.lowx x28 hb
  have hNle := hR.null.len
  refine sCall3 rfl call32 rfl rfl rfl h28 ?_
  refine sAs (v := .slice _ _ _) rfl ?_
  refine sNil (kSeqN ?_)
  refine cSeq ?_
  refine cRegion ?_
  refine sMv (v := .slice _ _ _) rfl ?_
  refine sMv (v := nv _) rfl ?_
  obtain ⟨v32, m32, h32, w32, rfl, oN, e32⟩ := sp_Null (hG.ext y28) hR oL.ints
  obtain ⟨qN, cN, rfl⟩ := oN.ints.lenN
  have y32 := y28.trans e32
  refine sCall2 rfl call39 rfl rfl h32 ?_
  refine sMv (v := .tuple _) rfl ?_
  refine sP (v := .slice _ _ _) rfl ?_   -- extract ['t29', '0']
  refine sP (v := nv _) rfl ?_   -- extract ['t29', '1']
  refine sAs (v := .slice _ _ _) rfl ?_
  refine sAs (v := nv _) rfl ?_
  refine sNil (kSeqN ?_)
  refine cSeq ?_
  refine cRegion ?_
  refine sMv (v := .slice _ _ _) rfl ?_
  refine sMv (v := nv _) rfl ?_
  obtain ⟨v38, m38, h38, w38, rfl, oR, e38⟩ := sp_Reduce hR (oL.ext e32).ints
  obtain ⟨qR, cR, rfl⟩ := oR.ints.lenN
  have y38 := y32.trans e38
  refine sCall2 rfl call43 rfl rfl h38 ?_
  refine sMv (v := .tuple _) rfl ?_
  refine sP (v := .slice _ _ _) rfl ?_   -- extract ['t35', '0']
  refine sP (v := nv _) rfl ?_   -- extract ['t35', '1']
  refine sAs (v := .slice _ _ _) rfl ?_
  refine sAs (v := nv _) rfl ?_
  refine sNil (kSeqN ?_)
  refine cSeq ?_   -- seq 6
  refine cSeq ?_
  refine cRegion ?_
  refine sMv (v := nv _) rfl ?_
  refine sBin (v := .bool false) (a := 0) (b := 0) rfl rfl (neqF rfl) ?_
  refine sMv (v := .bool false) rfl ?_
  refine sG rfl rfl ?_
  refine sMv (v := nv _) rfl ?_
  refine sG rfl rfl ?_
  refine sBin (v := .bool false) (a := 0) (b := 0) rfl rfl (neqF rfl) ?_
  refine sP (v := .bool false) rfl ?_
  refine sMv (v := .bool false) rfl ?_
  refine sG rfl rfl ?_
  refine sMv (v := .slice _ _ _) rfl ?_
  refine sG rfl rfl ?_
  refine sLen T22 rfl ?_
  refine sG rfl rfl ?_
  refine sMv (v := .slice _ _ _) rfl ?_
  refine sG rfl rfl ?_
  refine sLen T22 rfl ?_
  refine sG rfl rfl ?_
  refine sBin rfl rfl (aInt_add (by have := redM_length L; omega)) ?_
  refine sG rfl rfl ?_
  refine sMv (v := nv _) rfl ?_
  refine sG rfl rfl ?_
  refine sBin (v := .bool false) rfl rfl (neqF (nullM_len_eq hR.n24 hR.lt)) ?_
  refine sP (v := .bool false) rfl ?_
  refine sMv (v := .bool false) rfl ?_
  refine sG rfl rfl ?_
  refine sMv (v := .slice _ _ _) rfl ?_
  refine sG rfl rfl ?_
  refine sMv (v := nv _) rfl ?_
  refine sG rfl rfl ?_
  obtain ⟨v59, m59, h59, rfl, e59⟩ := spec_rows (oN.ext e38).ints (by omega) hR.n24 hR.null.lt
  have y59 := y38.trans e59
  refine sCall2 rfl call41 rfl rfl h59 ?_
  refine sG rfl rfl ?_
  refine sP (v := .bool false) rfl ?_
  refine sP (v := .bool false) rfl ?_
  refine sNil (kSeqN ?_)
  refine cCondF rfl ?_
  refine cSkip (kSeqN ?_)
  refine cSeq ?_
  refine cRegion ?_
  refine sMv (v := .slice _ _ _) rfl ?_
  refine sMv (v := nv _) rfl ?_
  obtain ⟨v65, m65, h65, w65, rfl, oB, e65⟩ := sp_Null (hG.ext y59) hR.null ((oN.ext e38).ext e59).ints
  obtain ⟨qB, cB, rfl⟩ := oB.ints.lenN
  have y65 := y59.trans e65
  have z65 : Ext m28 m65 := ((e32.trans e38).trans e59).trans e65
  have iN : IntsAt m65 _ _ := (((oN.ext e38).ext e59).ext e65).ints
  have iL : IntsAt m65 _ _ := (oL.ext z65).ints
  refine sCall2 rfl call39 rfl rfl h65 ?_
  refine sMv (v := .tuple _) rfl ?_
  have hS65 := hS28.ext hb z65
  have hbl := hS28.lt
  have hz65 := z65.1
  refine sP (v := .slice _ _ _) rfl ?_   -- extract ['t62', '0']
  refine sP (v := nv _) rfl ?_   -- extract ['t62', '1']
  refine sAs (v := .slice _ _ _) rfl ?_
  refine sAs (v := nv _) rfl ?_
  refine sNil (kSeqN ?_)
  refine cSeq ?_
  refine cSeq ?_
  refine cRegion ?_
  refine sMv (v := .slice _ _ _) rfl ?_
  refine sLen T22 rfl ?_
  refine sMv (v := nv 0) rfl ?_
  refine sNil (kSeqN ?_)
  refine cBlock ?_
  refine wpC_loop (fun k ρ m' => ∃ i, k = (nullM L n).length - i ∧ i ≤ (nullM L n).length ∧ m65 = m' ∧ Has ρ [(5, .pointer (some ⟨b, 0, none⟩)), (6, nv n), (7, .slice qL L.length cL), (8, .slice qN (nullM L n).length cN), (9, nv 0), (10, .slice qR (redM L).length cR), (11, nv 0), (12, .slice qB (nullM (nullM L n) n).length cB), (68, .slice qN (nullM L n).length cN), (69, nv (nullM L n).length), (70, nv i)]) ⟨0, rfl, by omega, rfl, rfl, rfl, rfl, rfl, rfl, rfl, rfl, rfl, rfl, rfl, rfl, trivial⟩ ?_
  rintro k ρ m' ⟨i, rfl, hi, rfl, hh⟩
  rw [hh.env]; clear hh
  refine cSeq ?_
  refine cRegion ?_
  refine sBin rfl rfl (aInt_lss) ?_
  refine sNil (kSeqN ?_)
  refine cSeq ?_   -- seq 12
  refine cCond rfl (fun c1 => ?_) (fun c1 => ?_)
  ·
    obtain ⟨b1, o1, p1, r1, cc1, e1, g1, x1⟩ := iN.atN (by omega)
    obtain ⟨rfl, rfl, rfl⟩ := e1
    have hli : (nullM L n)[i]? = some ((nullM L n).getD i 0) := by rw [List.getD_eq_getElem?_getD, List.getElem?_eq_getElem c1]; rfl
    have hxm := getD_mem c1
    have hx1 := hR.null.lt _ hxm
    have horth := ((nullM_span hR.n24 hR.lt).2 _).1 (.mem hxm)
    refine cSkip (kSeqN ?_)
    refine cSeq ?_
    refine cBlock ?_
    refine cSeq ?_
    refine cRegion ?_
    refine sIx T22 S3 rfl rfl (by omega) ?_
    refine sLd (v := nv ((nullM L n).getD i 0)) A3 rfl g1 (x1 _ _ hli) ?_
    refine sAs (v := nv _) rfl ?_
    refine sNil (kSeqN ?_)
    refine cSeq ?_
    refine cRegion ?_
    refine sMv (v := .slice _ _ _) rfl ?_
    refine sLen T22 rfl ?_
    refine sMv (v := nv 0) rfl ?_
    refine sNil (kSeqN ?_)
    refine cBlock ?_
    refine wpC_loop (fun k ρ m' => ∃ j, k = L.length - j ∧ j ≤ L.length ∧ m65 = m' ∧ Has ρ [(5, .pointer (some ⟨b, 0, none⟩)), (6, nv n), (7, .slice qL L.length cL), (8, .slice (some ⟨b1, o1, some 1⟩) (nullM L n).length cN), (9, nv 0), (10, .slice qR (redM L).length cR), (11, nv 0), (12, .slice qB (nullM (nullM L n) n).length cB), (68, .slice (some ⟨b1, o1, some 1⟩) (nullM L n).length cN), (69, nv (nullM L n).length), (70, nv i), (14, nv ((nullM L n).getD i 0)), (74, .slice qL L.length cL), (75, nv L.length), (76, nv j)]) ⟨0, rfl, by omega, rfl, rfl, rfl, rfl, rfl, rfl, rfl, rfl, rfl, rfl, rfl, rfl, rfl, rfl, rfl, rfl, trivial⟩ ?_
    rintro k ρ m' ⟨j, rfl, hj, rfl, hh⟩
    rw [hh.env]; clear hh
    refine cSeq ?_
    refine cRegion ?_
    refine sBin rfl rfl (aInt_lss) ?_
    refine sNil (kSeqN ?_)
    refine cSeq ?_   -- seq 17
    refine cCond rfl (fun c2 => ?_) (fun c2 => ?_)
    ·
      obtain ⟨b2, o2, p2, r2, cc2, e2, g2, x2⟩ := iL.atN (by omega)
      obtain ⟨rfl, rfl, rfl⟩ := e2
      have hlj : L[j]? = some (L.getD j 0) := by rw [List.getD_eq_getElem?_getD, List.getElem?_eq_getElem c2]; rfl
      have hym := getD_mem c2
      have hand : (nullM L n).getD i 0 &&& L.getD j 0 ≤ (nullM L n).getD i 0 := Nat.and_le_left
      have hx2 := hLx _ hym
      have hodd : oddB ((nullM L n).getD i 0 &&& L.getD j 0) = false := by
        have := horth.2 _ hym
        rw [dot_comm] at this; exact this
      refine cSkip (kSeqN ?_)
      refine cSeq ?_
      refine cBlock ?_
      refine cSeq ?_
      refine cRegion ?_
      refine sIx T22 S3 rfl rfl (by omega) ?_
      refine sLd (v := nv (L.getD j 0)) A3 rfl g2 (x2 _ _ hlj) ?_
      refine sAs (v := nv _) rfl ?_
      refine sNil (kSeqN ?_)
      refine cSeq ?_
      refine cRegion ?_
      refine sMv (v := nv _) rfl ?_
      refine sMv (v := nv _) rfl ?_
      refine sBin rfl rfl (aInt_and (by omega)) ?_
      obtain ⟨v83, m83, h83, rfl, k83⟩ := spec_odd (m := m65) (x := (nullM L n).getD i 0 &&& L.getD j 0) (by omega)
      subst k83
      rw [hodd] at h83
      refine sCall1 rfl call34 rfl h83 ?_
      refine sNil (kSeqN ?_)
      refine cCondF rfl ?_
      refine cSkip (kBlkN (kSeqN ?_))
      refine cRegion ?_
      refine sBin rfl rfl (aInt_add (b := 1) (by omega)) ?_
      refine sMv (v := nv _) rfl ?_
      refine sNil (kSeqN ?_)
      refine ⟨_, ?_, j + 1, rfl, by omega, rfl, rfl, rfl, rfl, rfl, rfl, rfl, rfl, rfl, rfl, rfl, rfl, rfl, rfl, rfl, rfl, trivial⟩
      omega
    ·
      refine cExit (kSeqE (kSeqE (kBlkS (kBlkN (kSeqN ?_)))))
      refine cRegion ?_
      refine sBin rfl rfl (aInt_add (b := 1) (by omega)) ?_
      refine sMv (v := nv _) rfl ?_
      refine sNil (kSeqN ?_)
      refine ⟨_, ?_, i + 1, rfl, by omega, rfl, rfl, rfl, rfl, rfl, rfl, rfl, rfl, rfl, rfl, rfl, rfl, trivial⟩
      omega
  ·
    refine cExit (kSeqE (kSeqE (kBlkS (kSeqN ?_))))
    refine cSeq ?_
    refine cRegion ?_
    refine sMv (v := .pointer _) rfl ?_
    refine sMv (v := nv _) rfl ?_
    refine sBin rfl rfl (aInt_shl (a := 1) (by omega)) ?_
    rw [Nat.shiftLeft_eq, Nat.one_mul]
    obtain ⟨v89, m89, h89, ⟨x0, rfl, hx0⟩, hS89, o89⟩ := spec_Less (n := 2 ^ n) hS65 (by omega) (by omega) (by omega)
    refine sCall2 rfl call33 rfl rfl h89 ?_
    have hs89 := o89.1
    refine sAlloc Z3 (by kernel_rfl) ?_
    refine sStN (v := nv _) S3 rfl rfl rfl rfl rfl ?_
    refine sNil (kSeqN ?_)
    refine cCut (fun ρ m' => ∃ X, X < 2 ^ n ∧ Mem.get m' m89.size = .cells true #[nv X] ∧ LowX m65.size b m65 m' ∧ Has ρ [(6, nv n), (7, .slice qL L.length cL), (8, .slice qN (nullM L n).length cN), (9, nv 0), (10, .slice qR (redM L).length cR), (12, .slice qB (nullM (nullM L n) n).length cB), (17, .pointer (some ⟨m89.size, 0, none⟩))]) ?_ ?_
    ·
      refine cSeq ?_
      refine cRegion ?_
      refine sMv (v := .pointer _) rfl ?_
      obtain ⟨v91, m91, h91, ⟨y91, rfl⟩, hS91, o91⟩ := spec_Seldom (n := 2) (hS89.ext hb (.push m89 (.cells true #[nv x0]))) (by omega) (by omega) (by omega)
      refine sCall2 rfl call35 rfl rfl h91 ?_
      have hs91 := o91.1
      simp only [Array.size_push] at hs91
      have g91 : Mem.get m91 m89.size = .cells true #[nv x0] := (o91.2 _ (by omega)).trans (gP rfl)
      have x91 : LowX m65.size b m65 m91 := (o89.x.trans ((Low.push m65.size (by omega) _).x)).trans o91.x
      refine sNil (kSeqN ?_)
      refine cCond rfl (fun c4 => ?_) (fun c4 => ?_)
      ·
        have hll : 2 ^ L.length ≤ 2 ^ 8 := Nat.pow_le_pow_right (by omega) hLl
        have hlp : 0 < 2 ^ L.length := Nat.two_pow_pos _
        refine cRegion ?_
        refine sMv (v := .slice _ _ _) rfl ?_
        refine sMv (v := .pointer _) rfl ?_
        refine sMv (v := .slice _ _ _) rfl ?_
        refine sLen T22 rfl ?_
        refine sBin rfl rfl (aInt_shl (a := 1) (by omega)) ?_
        rw [Nat.shiftLeft_eq, Nat.one_mul]
        obtain ⟨v97, m97, h97, ⟨w, rfl, hw⟩, hS97, o97⟩ := spec_Less (n := 2 ^ L.length) hS91 (by omega) (by omega) (by omega)
        refine sCall2 rfl call33 rfl rfl h97 ?_
        have hs97 := o97.1
        have g97 : Mem.get m97 m89.size = .cells true #[nv x0] := (o97.2 _ (by omega)).trans g91
        have x97 := x91.trans (o97.x (N := m65.size))
        obtain ⟨v98, m98, h98, rfl, k98⟩ := spec_total (m := m97) (w := w) ((oL.ext z65).lowx x97 (by omega)).ints (by omega) (fun x hx => Nat.lt_of_lt_of_le (hLx x hx) (by omega)) (by omega)
        subst k98
        refine sCall2 rfl call37 rfl rfl h98 ?_
        refine sSt (v := nv _) S3 rfl rfl g97 (by simp) rfl rfl ?_
        refine sNil (kSeqN ?_)
        exact ⟨_, total_lt hLx w, gS rfl (live g97), ⟨by simpa using x97.1, fun c h1 h2 => (gSn (by omega)).trans (x97.2 c h1 h2)⟩, rfl, rfl, rfl, rfl, rfl, rfl, rfl, trivial⟩
      ·
        refine cSkip (kSeqN ?_)
        exact ⟨_, hx0, g91, x91, rfl, rfl, rfl, rfl, rfl, rfl, rfl, trivial⟩
    rintro ρ m' ⟨X, hX, gX, xX, hh⟩
    rw [hh.env]; clear hh
    have yX := y65.lowx xX hb
    have hbm28 : b < m28.size := by omega
    have jN : OwnF m28.size m' _ _ := (((oN.ext e38).ext e59).ext e65).lowx xX hbm28
    have jL : OwnF m21.size m' _ _ := (oL.ext z65).lowx xX (by omega)
    have jR : OwnF m32.size m' _ _ := ((oR.ext e59).ext e65).lowx xX (by have := e32.1; omega)
    have jB : OwnF m59.size m' _ _ := oB.lowx xX (by have := e32.1; have := e38.1; have := e59.1; omega)
    refine cSeq ?_
    refine cRegion ?_
    refine sMv (v := .slice _ _ _) rfl ?_
    refine sMFc1 rfl ?_
    have hc := spec_ContainsFunc (m := m') (g := 45) (cp := #[.pointer (some ⟨m89.size, 0, none⟩)]) (p := fun x => oddB (X &&& x.toNat)) jN.ints (by rw [ofs_length]; omega) call45 (fun x hx => by
      obtain ⟨y, hy, rfl⟩ := List.mem_map.1 hx
      have := hR.null.lt y hy
      exact spec_Orth1 gX (by omega) (by omega))
    rw [any_odd] at hc
    refine sCall2 rfl call44 rfl rfl hc ?_
    refine sP (v := .bool (!decide (∃ y ∈ nullM L n, dot X y = true))) rfl ?_
    refine sAs (v := .bool _) rfl ?_
    refine sNil (kSeqN ?_)
    refine cSeq ?_
    refine cRegion ?_
    refine sMv (v := .slice _ _ _) rfl ?_
    refine sMv (v := nv _) rfl ?_
    refine sLd (v := nv X) A3 rfl gX rfl ?_
    obtain ⟨v107, m107, h107, rfl, e107⟩ := sp_Member hR hX jL.ints
    refine sCall3 rfl kall46 rfl rfl rfl h107 ?_
    refine sMv (v := .tuple _) rfl ?_
    refine sP (v := .bool _) rfl ?_   -- extract ['t103', '0']
    refine sP (v := nv _) rfl ?_   -- extract ['t103', '1']
    refine sAs (v := .bool _) rfl ?_
    refine sAs (v := nv _) rfl ?_
    refine sNil (kSeqN ?_)
    refine cSeq ?_
    refine cRegion ?_
    refine sMv (v := nv _) rfl ?_
    refine sBin (v := .bool true) (a := 0) (b := 0) rfl rfl (eqlT rfl) ?_
    refine sMv (v := .bool true) rfl ?_
    refine sG rfl rfl ?_
    refine sMv (v := .slice _ _ _) rfl ?_
    refine sG rfl rfl ?_
    refine sMv (v := .slice _ _ _) rfl ?_
    refine sG rfl rfl ?_
    obtain ⟨v115, m115, h115, rfl, k115⟩ := spec_Eq (jB.ext e107).ints (jR.ext e107).ints (by have := hR.null.null.len; omega)
    subst k115
    rw [decide_eq_true (null_null hR.n24 hR.lt)] at h115
    refine sCall2 rfl call23 rfl rfl h115 ?_
    refine sP (v := .bool true) rfl ?_
    refine sMv (v := .bool true) rfl ?_
    refine sG rfl rfl ?_
    refine sMv (v := nv _) rfl ?_
    refine sG rfl rfl ?_
    refine sBin (v := .bool true) (a := 0) (b := 0) rfl rfl (eqlT rfl) ?_
    refine sP (v := .bool true) rfl ?_
    refine sMv (v := .bool true) rfl ?_
    refine sG rfl rfl ?_
    refine sMv (v := .bool _) rfl ?_
    refine sG rfl rfl ?_
    refine sMv (v := .bool _) rfl ?_
    refine sG rfl rfl ?_
    refine sBinA (v := .bool true) rfl rfl (beqB ?_) ?_
    · rw [Bool.eq_iff_iff, decide_eq_true_eq, Bool.not_eq_true', decide_eq_false_iff_not]
      have h1 : (whichM L X).1 = 0 ↔ InSpan L X := (split_spec hR.lt24).1
      rw [h1, ← null_null_span hR.n24 hR.lt]
      constructor
      · rintro h ⟨y, hy, hd⟩
        have := h.2 y hy
        rw [dot_comm, hd] at this; cases this
      · intro h
        refine ⟨hX, fun y hy => ?_⟩
        rw [dot_comm]
        cases hd : dot X y
        · rfl
        · exact absurd ⟨y, hy, hd⟩ h
    refine sP (v := .bool true) rfl ?_
    refine sMv (v := .bool true) rfl ?_
    refine sG rfl rfl ?_
    obtain ⟨v127, m127, h127, rfl, e127⟩ := spec_awake (hG.ext (yX.trans e107))
    refine sCall0 rfl call17 h127 ?_
    refine sP (v := .bool true) rfl ?_
    refine sAs (v := .bool _) rfl ?_
    refine sNil (kSeqN ?_)
    refine cRet ?_
    exact ⟨.inr rfl, _, rfl, rfl, trivial⟩

end Go.AM

/-! ### F8 -/
namespace Go.Proofs.YtgiidbomifmcaaaDoor
open Go Go.AM Go.ChangeShapes Go.WideShapes Go.ChangeAt Go.WideMaps Go.WideElems Go.RowKit
set_option maxRecDepth 100000
set_option linter.unusedVariables false
theorem own : ownKnob Tryd.prog.godebug = none := by kernel_rfl
/-- The door's own heap meets the condition: three closed facts. -/
theorem door_met (os : Os) (args : Array Value) : laidMetH Tryd.prog laid3 ((World.doorLaid Tryd.prog 400 os).forCall (fun _ _ => 0) ⟨#[], args, []⟩).memory :=
  laidMetH_of_parts3 (fuel := 8) (laidMet_of_run' 8 (by kernel_rfl) (by kernel_rfl)) (by kernel_rfl) (by kernel_rfl)
theorem lifted7 (os : Os) (started : os.Started) (H : Type) (enc : TypeId × Value → H) :
    ReturnsInHanded {} Tryd.checked os 7 .any (fun w args => (Rows.bitsOrthogonalSpec.pre enc Tryd.prog Tryd.f7 [] false w args ∧ laidMetH Tryd.prog laid3 w) ∧ sizedMet enc Tryd.prog Tryd.f7 (OpenSpec.ofChange Rows.bitsOrthogonalSpec) false w args)
      (Rows.bitsOrthogonalSpec.post enc Tryd.prog Tryd.f7 false true false false) := by
  refine returnsInHanded_of_change_and (C := Tryd.checked) (X := fun w _ => laidMetH Tryd.prog laid3 w) (fun _ _ _ hh h => h.of_heap hh) own started (by kernel_rfl) Tryd.func7
    (ChangeSpec.witness_shaped (enc := enc) (C := Tryd.checked) (os := os) (X := fun w _ => laidMetH Tryd.prog laid3 w) false (World.doorLaid Tryd.prog 400 os) #[.slice none 0 0, .int .u8 0] 8 rfl (World.shaped_of_RefB (by kernel_rfl) (by kernel_rfl)) (by kernel_rfl) (by kernel_rfl) (by kernel_rfl) (door_met os _)) ?_
  intro W base args ds gs before hval0 hW _ _ hL _
  have hval : ∀ (j : Nat) t v, Tryd.f7.params[j]? = some t → args[j]? = some v → Value.okWide Tryd.prog W .any base t v := hval0
  have hW' := hW
  obtain ⟨p, q, hA0, hV, rfl, hfz, hnd⟩ := hW
  have hA : DataW.TrodAll enc Tryd.prog W 0 (fun _ => true) true [35, 5] args.toList ds p := hA0
  obtain ⟨v0, vs0, d0, ds0, p0, q0, hargs, rfl, rfl, h0, r0⟩ := trodAll_cons hA
  obtain ⟨v1, vs1, d1, ds1, p1, q1, rfl, rfl, rfl, h1, r1⟩ := trodAll_cons r0
  obtain ⟨rfl, rfl, rfl⟩ := trodAll_nil r1
  obtain rfl : args = #[v0, v1] := by cases args; simp_all
  obtain ⟨rfl, rfl⟩ := trodVars_none hV
  obtain ⟨a0, l0, f0, ok0, wf0, A0⟩ := ints_arg hL u35 u5 c5 (hval 0 35 v0 rfl rfl) h0
  have lt0 : ∀ x ∈ p0, x.block < W.heap.size := by obtain ⟨m, hm⟩ := h0; exact DataW.trod_lt m _ _ _ hm
  obtain ⟨n1, rfl, rfl, rfl, w1⟩ := open_int u5 (hval 1 5 v1 rfl rfl) h1
  obtain ⟨c1, hc1, rfl⟩ := u8_nat w1
  refine (entry (args := #[f0 0, .int .u8 (Int.ofNat c1)]) (A := [a0]) hL (by intro a ha; simp only [List.mem_cons, List.not_mem_nil, or_false] at ha; rcases ha with rfl <;> assumption) (fun bm => (arel_cons ((A0 _ 0 rfl).2 bm) (arel_cons (.int _ _) arel_nil))) (fun b => ?_)).mono ?_
  · obtain ⟨v, m, h, hv, _⟩ := spec_BitsOrthogonal (glob0 b _) ((A0 [a0] 0 rfl).1 b) hc1
    exact ⟨v, m, h, hv⟩
  · rintro e W' ⟨rfl, bel⟩
    exact ⟨_, rfl, _, _, _, [], _, [], hW', trodAll_mk1 (shut_bool u4 _), (trodAll_cons_mk (Below.trod laidOut (by kernel_rfl) (of_decide_eq_true (by kernel_rfl)) h0 bel lt0) (trodAll_cons_mk (shut_int u5 w1) trodAll_mk0)), rfl, bel.frame _, fun h => by cases h⟩
theorem bitsOrthogonal_holds : Rows.BitsOrthogonalSaid :=
  OpenClaim.holds_of_wide 7 Tryd.f7 rfl rfl rfl rfl rfl rfl rfl ⟨rfl, rfl, rfl, rfl, rfl⟩ rfl rfl rfl rfl rfl (by kernel_rfl) Tryd.func7 (by kernel_rfl)
    (of_decide_eq_true (by kernel_rfl)) (by unfold Func.isWrapper; first | (rw [if_pos (by decide +kernel)]; kernel_rfl) | (rw [if_neg (by decide +kernel)]; exact ⟨rfl, rfl⟩))
    (fun os started H enc _ => lifted7 os started H enc)
theorem bitsOrthogonalCard_holds : Rows.BitsOrthogonalCardSaid :=
  Claim7.holds_tied_plain_at .later [] [.data, .data, .funcs] true (true, "4e90e708c3a0b8b9bd838c7bc74774a1a5a946fb69b32deeeece4d3212f6d5ce") false
    bitsOrthogonal_holds (fun _ h => by cases h) (by kernel_rfl) (fun _ h => by cases h) bitsOrthogonal_row_tie rfl ⟨rfl, rfl⟩ (by kernel_rfl) rfl
    (fun f fn hf hfn => by
      obtain rfl : f = 7 := Option.some.inj ((show Tryd.prog.funcNamed "spoondrift/spoondriftlaw02.BitsOrthogonal" = some 7 by kernel_rfl).symm.trans hf) |>.symm
      obtain rfl : fn = Tryd.f7 := (Option.some.inj (Tryd.func7.symm.trans hfn)).symm
      exact ⟨by kernel_rfl, fun j t ht => by
        have hm : t ∈ [35, 5] := by simpa using Array.mem_of_getElem? (show (#[35, 5] : Array Nat)[j]? = some t from ht)
        have hall : ([35, 5].all fun u => !Tryd.prog.wantsStandIn u) = true := by kernel_rfl
        exact (show Tryd.prog.wantsStandIn t = false by simpa using List.all_eq_true.1 hall t hm)⟩)
    (by kernel_rfl)
end Go.Proofs.YtgiidbomifmcaaaDoor
