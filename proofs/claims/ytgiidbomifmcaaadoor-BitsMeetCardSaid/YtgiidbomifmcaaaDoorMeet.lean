/- Ranks of what two spans have in common. -/
import Derived.Test.YtgiidbomifmcaaaDoorMade
import Derived.Test.YtgiidbomifmcaaaDoorEntryB
import Derived.Carry
import Derived.Test.YtgiidbomifmcaaaDoorTie
import Derived.Test.YtgiidbomifmcaaaDoorCards
set_option linter.unusedVariables false
set_option linter.unusedSimpArgs false
/-! ### E42 -/
namespace Go.AM
open Go.Proofs
set_option maxRecDepth 100000
set_option linter.unusedVariables false
set_option linter.unusedSimpArgs false
theorem kall46 : callable Tryd.prog 46 = true := by kernel_rfl
theorem kall40 : callable Tryd.prog 40 = true := by kernel_rfl
theorem Ext.lowx' {m0 m m' : Mem} {N b : Nat} (h : Ext m0 m) (hx : LowX N b m m') (hN : m0.size ≤ N) (hb : m0.size ≤ b) : Ext m0 m' :=
  ⟨Nat.le_trans h.1 hx.1, fun c hc => (hx.2 c (by omega) (by omega)).trans (h.2 c hc)⟩
theorem sp_Concat2 {m : Mem} {q1 q2 : Option Addr} {c1 c2 : Nat} {L R : List Nat} (ha : IntsAt m (.slice q1 L.length c1) (ofs L)) (hb : IntsAt m (.slice q2 R.length c2) (ofs R)) (hl : L.length + R.length ≤ 1000) :
    ∃ v m', ACalls Tryd.prog 68 #[.slice (some ⟨m.size, 0, some 1⟩) 2 2] (m.push (.cells true #[.slice q1 L.length c1, .slice q2 R.length c2])) v m' ∧ (OwnF m.size m' v (ofs (L ++ R)) ∧ Ext m m') := by
  obtain ⟨v23, m23, h23, k23, k23e⟩ := spec_Concat (m := m.push (.cells true #[.slice q1 L.length c1, .slice q2 R.length c2])) (b := m.size) (n := 2) (cap := 2)
    (S := fun i => if i = 0 then .slice q1 L.length c1 else .slice q2 R.length c2) (F := fun i => if i = 0 then ofs L else ofs R) (gP rfl)
    (fun i hi => by match i with
      | 0 => rfl
      | 1 => rfl
      | i + 2 => omega)
    (fun i hi => by match i with
      | 0 => exact ha.ext (.push _ _)
      | 1 => exact hb.ext (.push _ _)
      | i + 2 => omega) (by omega) (by simp [preM]; omega)
  have hpre : preM (fun i => if i = 0 then ofs L else ofs R) 2 = ofs (L ++ R) := by simp [preM, ofs_append]
  rw [hpre] at k23
  exact ⟨v23, m23, h23, k23.mono (by simp), (Ext.push _ _).trans k23e⟩

theorem okf12 : okF Tryd.prog H0 12 180 = true := by kernel_rfl
theorem spec_BitsMeet {m : Mem} {a a2 : Value} {l l2 : List Int} {c : Nat} (hG : Glob m) (ha : BytesAt m a l) (ha2 : BytesAt m a2 l2) (hc : c < 256) : ∃ v m', ACalls Tryd.prog 12 #[a, a2, .int .u8 (Int.ofNat c)] m v m' ∧ (v = .bool true ∧ True) := by
  obtain ⟨q, cap, rfl⟩ := ha.len
  obtain ⟨q2, cap2, rfl⟩ := ha2.len
  have hn1 : 1 ≤ 1 + c % 12 := by omega
  have hn2 : 1 + c % 12 ≤ 12 := by omega
  refine wpF (args := [_, _, _]) mixed okf12 (fn := Tryd.f12) rfl rfl rfl (by simp) ?_
  refine cSeq ?_
  refine cRegion ?_
  refine sAs (v := .bool _) rfl ?_
  refine sNil (kSeqN ?_)
  refine cSeq ?_
  refine cRegion ?_
  refine sMv (v := .slice _ _ _) rfl ?_
  obtain ⟨v30, m30, h30, b, rfl, hb, hS30, e30⟩ := spec_Of ha
  refine sCall1 rfl call31 rfl h30 ?_
  refine sMv (v := .slice _ _ _) rfl ?_
  obtain ⟨v32, m32, h32, b', rfl, hb', hT32, e32⟩ := spec_Of (ha2.ext e30)
  have hS32 := hS30.ext hb e32
  have hbS := hS30.lt
  have hbT := hT32.lt
  refine sCall1 rfl call31 rfl h32 ?_
  refine sAs (v := .pointer _) rfl ?_
  refine sAs (v := .pointer _) rfl ?_
  refine sNil (kSeqN ?_)
  refine cSeq ?_
  refine cRegion ?_
  refine sMv (v := .int .u8 _) rfl ?_
  refine sP (v := nv c) (conv5_3 hc) ?_
  refine sBin (b := 12) rfl rfl (aInt_rem (by omega)) ?_
  refine sBin (a := 1) rfl rfl (aInt_add (by omega)) ?_
  generalize 1 + c % 12 = n at *
  have h2n : 2 ^ n ≤ 2 ^ 12 := Nat.pow_le_pow_right (by omega) hn2
  have h2p : 0 < 2 ^ n := Nat.two_pow_pos n
  refine sAs (v := nv _) rfl ?_
  refine sNil (kSeqN ?_)
  refine cSeq ?_
  refine cRegion ?_
  refine sMv (v := .pointer _) rfl ?_
  refine sMv (v := nv _) rfl ?_
  obtain ⟨v39, m39, h39, L, oL, hLl, hLx, hS39, x39⟩ := spec_Made (n := n) (most := 7) hS32 (by omega) hb (by omega) (by omega)
  obtain ⟨qL, cL, rfl⟩ := oL.ints.lenN
  have hRL : Right L n := made_right hn1 (by omega) (by omega) hLl hLx
  have y39 : Ext m m39 := (e30.trans e32).lowx x39 hb
  have hT39 := hT32.lowx hb' x39 (.inl (by omega))
  have hz39 := x39.1
  refine sCall3 rfl call32 rfl rfl rfl h39 ?_
  refine sMv (v := .pointer _) rfl ?_
  refine sMv (v := nv _) rfl ?_
  obtain ⟨v42, m42, h42, R, oR, hRl, hRx, hT42, x42⟩ := spec_Made (n := n) (most := 7) hT39 (by omega) hb' (by omega) (by omega)
  obtain ⟨qR, cR, rfl⟩ := oR.ints.lenN
  refine sCall3 rfl call32 rfl rfl rfl h42 ?_
  have hz42 := x42.1
  have hy39 := y39.1
  have hz30 := e30.1
  have hll : 2 ^ L.length ≤ 2 ^ 7 := Nat.pow_le_pow_right (by omega) hLl
  have hlp : 0 < 2 ^ L.length := Nat.two_pow_pos _
  refine sAs (v := .slice _ _ _) rfl ?_
  refine sAs (v := .slice _ _ _) rfl ?_
  refine sNil (kSeqN ?_)
  refine cCut (fun ρ m' => ∃ R v, R.length ≤ 8 ∧ (∀ x ∈ R, x < 2 ^ n) ∧ OwnF m39.size m' v (ofs R) ∧ LowX m39.size b' m39 m' ∧ Has ρ [(9, nv n), (10, .slice qL L.length cL), (11, v)]) ?_ ?_
  ·
    refine cSeq ?_
    refine cRegion ?_
    refine sMv (v := .slice _ _ _) rfl ?_
    refine sLen T22 rfl ?_
    refine sBin (b := 0) rfl rfl (aInt_gtr) ?_
    refine sMv (v := .bool _) rfl ?_
    by_cases h1 : 0 < L.length
    ·
      rw [decide_eq_true h1]
      refine sG rfl rfl ?_
      refine sMv (v := .pointer _) rfl ?_
      refine sG rfl rfl ?_
      obtain ⟨v48, m48, h48, ⟨y48, rfl⟩, hT48, o48⟩ := spec_Seldom (n := 2) hT42 (by omega) (by omega) (by omega)
      refine sCall2 rfl call35 rfl rfl h48 ?_
      have hs48 := o48.1
      have x48 := x42.trans (o48.x (N := m39.size))
      refine sP (v := .bool _) rfl ?_
      refine sNil (kSeqN ?_)
      refine cCond rfl (fun c0 => ?_) (fun c0 => ?_)
      ·
        refine cRegion ?_
        refine sMv (v := .slice _ _ _) rfl ?_
        refine sMv (v := .slice _ _ _) rfl ?_
        refine sMv (v := .pointer _) rfl ?_
        refine sMv (v := .slice _ _ _) rfl ?_
        refine sLen T22 rfl ?_
        refine sBin rfl rfl (aInt_shl (a := 1) (by omega)) ?_
        rw [Nat.shiftLeft_eq, Nat.one_mul]
        obtain ⟨v56, m56, h56, ⟨w, rfl, hw⟩, hT56, o56⟩ := spec_Less (n := 2 ^ L.length) hT48 (by omega) (by omega) (by omega)
        refine sCall2 rfl call33 rfl rfl h56 ?_
        have hs56 := o56.1
        have x56 := x48.trans (o56.x (N := m39.size))
        obtain ⟨v57, m57, h57, rfl, k57⟩ := spec_total (m := m56) (w := w) (oL.lowx x56 (by omega)).ints (by omega) (fun x hx => Nat.lt_of_lt_of_le (hLx x hx) (by omega)) (by omega)
        rw [k57] at h57
        refine sCall2 rfl call37 rfl rfl h57 ?_
        refine sBuildS T22 S3 Z3 (by decide) (by decide) (by decide) (by kernel_rfl) fill1 rfl ?_
        refine sApp App22 rfl rfl (N := m39.size) (p := ofs R) (((oR.only o48 (by omega)).only o56 (by omega)).ext (.push _ _)) one_ints (by simp; omega) (by simp; omega) fun v3 m3 hO3 hL3 => ?_
        obtain ⟨q3, cp3, rfl⟩ := hO3.ints.len
        refine sAs (v := .slice _ _ _) rfl ?_
        refine sNil (kSeqN ?_)
        have hL4 := mk_own (by omega) hL3
        exact ⟨R ++ [total L w], _, by simp; omega, snoc_lt hRx (total_lt hLx w), by rw [ofs_append]; exact hO3, x56.trans hL4.x, rfl, rfl, rfl, trivial⟩
      ·
        refine cSkip (kSeqN ?_)
        exact ⟨R, _, by omega, hRx, oR.only o48 (by omega), x48, rfl, rfl, rfl, trivial⟩
    ·
      rw [decide_eq_false h1]
      refine sGno (q' := false) rfl rfl (by simp) ?_
      refine sGno (q' := false) rfl rfl (by simp) ?_
      refine sP (v := .bool _) rfl ?_
      refine sNil (kSeqN ?_)
      refine cCondF rfl ?_
      refine cSkip (kSeqN ?_)
      exact ⟨R, _, by omega, hRx, oR, x42, rfl, rfl, rfl, trivial⟩
  clear oR hRl hRx
  rintro ρ m' ⟨R, v, hRl, hRx, oR, xX, hh⟩
  obtain ⟨qR, cR, rfl⟩ := oR.ints.lenN
  rw [hh.env]; clear hh
  have yX : Ext m m' := y39.lowx' xX y39.1 (by omega)
  have oL' := oL.lowx xX (by omega)
  have hRR : Right R n := made_right hn1 (by omega) (by omega) hRl hRx
  refine cSeq ?_
  refine cRegion ?_
  refine sMv (v := .slice _ _ _) rfl ?_
  refine sMv (v := .slice _ _ _) rfl ?_
  refine sMv (v := nv _) rfl ?_
  obtain ⟨v64, m64, h64, w64, rfl, o64, e64⟩ := sp_Meet (hG.ext yX) hRL hRR oL'.ints oR.ints
  obtain ⟨q64, c64, rfl⟩ := o64.ints.lenN
  refine sCall3 rfl call67 rfl rfl rfl h64 ?_
  refine sMv (v := .tuple _) rfl ?_
  refine sP (v := .slice _ _ _) rfl ?_   -- extract ['t60', '0']
  refine sP (v := nv _) rfl ?_   -- extract ['t60', '1']
  refine sAs (v := .slice _ _ _) rfl ?_
  refine sAs (v := nv _) rfl ?_
  refine sNil (kSeqN ?_)
  refine cSeq ?_
  refine cRegion ?_
  refine sMv (v := .slice _ _ _) rfl ?_
  refine sMv (v := .slice _ _ _) rfl ?_
  refine sMv (v := nv _) rfl ?_
  obtain ⟨v71, m71, h71, w71, rfl, o71, e71⟩ := sp_Meet (hG.ext (yX.trans e64)) hRR hRL (oR.ext e64).ints (oL'.ext e64).ints
  obtain ⟨q71, c71, rfl⟩ := o71.ints.lenN
  have z71 := e64.trans e71
  refine sCall3 rfl call67 rfl rfl rfl h71 ?_
  refine sMv (v := .tuple _) rfl ?_
  refine sP (v := .slice _ _ _) rfl ?_   -- extract ['t67', '0']
  refine sP (v := nv _) rfl ?_   -- extract ['t67', '1']
  refine sAs (v := .slice _ _ _) rfl ?_
  refine sAs (v := nv _) rfl ?_
  refine sNil (kSeqN ?_)
  refine cSeq ?_
  refine cRegion ?_
  refine sMv (v := .slice _ _ _) rfl ?_
  refine sMv (v := nv _) rfl ?_
  obtain ⟨v77, m77, h77, rfl, e77⟩ := sp_Rank hRL (oL'.ext z71).ints
  have z77 := z71.trans e77
  refine sCall2 rfl kall40 rfl rfl h77 ?_
  refine sMv (v := .tuple _) rfl ?_
  refine sP (v := nv _) rfl ?_   -- extract ['t74', '0']
  refine sP (v := nv _) rfl ?_   -- extract ['t74', '1']
  refine sAs (v := nv _) rfl ?_
  refine sAs (v := nv _) rfl ?_
  refine sNil (kSeqN ?_)
  refine cSeq ?_
  refine cRegion ?_
  refine sMv (v := .slice _ _ _) rfl ?_
  refine sMv (v := nv _) rfl ?_
  obtain ⟨v83, m83, h83, rfl, e83⟩ := sp_Rank hRR (oR.ext z77).ints
  have z83 := z77.trans e83
  refine sCall2 rfl kall40 rfl rfl h83 ?_
  refine sMv (v := .tuple _) rfl ?_
  refine sP (v := nv _) rfl ?_   -- extract ['t80', '0']
  refine sP (v := nv _) rfl ?_   -- extract ['t80', '1']
  refine sAs (v := nv _) rfl ?_
  refine sAs (v := nv _) rfl ?_
  refine sNil (kSeqN ?_)
  refine cSeq ?_
  refine cRegion ?_
  refine sMv (v := .slice _ _ _) rfl ?_
  refine sMv (v := .slice _ _ _) rfl ?_
  refine sBuildS T90 S22 Z22 (by decide) (by decide) (by decide) (by kernel_rfl) fillS2 rfl ?_
  obtain ⟨v90, m90, h90, o90, e90⟩ := sp_Concat2 (oL'.ext z83).ints (oR.ext z83).ints (by omega)
  obtain ⟨q90, c90, rfl⟩ := o90.ints.lenN
  have z90 := z83.trans e90
  refine sCall1 rfl call68 rfl h90 ?_
  refine sMv (v := nv _) rfl ?_
  have hRC : Right (L ++ R) n := made_right hn1 (by omega) (Nat.le_refl 24) (by rw [List.length_append]; omega) (append_lt hLx hRx)
  obtain ⟨v92, m92, h92, rfl, e92⟩ := sp_Rank hRC o90.ints
  have z92 := z90.trans e92
  have hr1 := redM_length L
  have hr2 := redM_length R
  have hr3 := redM_length (L ++ R)
  have hmr := meet_rank hRL.n24 hLx hRx
  have hml : (meetM L R n).length ≤ 24 := by have := nullM_len (nullM L n ++ nullM R n) n hRL.n24; have := hRL.n24; unfold meetM; omega
  have hmr2 : Right (meetM L R n) n := ⟨hn1, by omega, hml, nullM_lt hRL.n24⟩
  refine sCall2 rfl kall40 rfl rfl h92 ?_
  refine sMv (v := .tuple _) rfl ?_
  refine sP (v := nv _) rfl ?_   -- extract ['t86', '0']
  refine sP (v := nv _) rfl ?_   -- extract ['t86', '1']
  refine sAs (v := nv _) rfl ?_
  refine sAs (v := nv _) rfl ?_
  refine sNil (kSeqN ?_)
  refine cSeq ?_   -- seq 11
  refine cSeq ?_
  refine cRegion ?_
  refine sMv (v := nv _) rfl ?_
  refine sBin (v := .bool false) (a := 0) (b := 0) rfl rfl (neqF rfl) ?_
  refine sMv (v := .bool _) rfl ?_
  refine sG rfl rfl ?_
  refine sMv (v := nv _) rfl ?_
  refine sG rfl rfl ?_
  refine sBin (v := .bool false) (a := 0) (b := 0) rfl rfl (neqF rfl) ?_
  refine sP (v := .bool _) rfl ?_   -- t100 pick ['t97', '(bool true)', 't99']
  refine sMv (v := .bool _) rfl ?_
  refine sG rfl rfl ?_
  refine sMv (v := nv _) rfl ?_
  refine sG rfl rfl ?_
  refine sBin (v := .bool false) (a := 0) (b := 0) rfl rfl (neqF rfl) ?_
  refine sP (v := .bool _) rfl ?_   -- t104 pick ['t101', '(bool true)', 't103']
  refine sMv (v := .bool _) rfl ?_
  refine sG rfl rfl ?_
  refine sMv (v := nv _) rfl ?_
  refine sG rfl rfl ?_
  refine sBin (v := .bool false) (a := 0) (b := 0) rfl rfl (neqF rfl) ?_
  refine sP (v := .bool _) rfl ?_   -- t108 pick ['t105', '(bool true)', 't107']
  refine sMv (v := .bool _) rfl ?_
  refine sG rfl rfl ?_
  refine sMv (v := nv _) rfl ?_
  refine sG rfl rfl ?_
  refine sBin (v := .bool false) (a := 0) (b := 0) rfl rfl (neqF rfl) ?_
  refine sP (v := .bool _) rfl ?_   -- t112 pick ['t109', '(bool true)', 't111']
  refine sMv (v := .bool _) rfl ?_
  refine sG rfl rfl ?_
  refine sMv (v := .slice _ _ _) rfl ?_
  refine sG rfl rfl ?_
  refine sMv (v := .slice _ _ _) rfl ?_
  refine sG rfl rfl ?_
  obtain ⟨v116, m116, h116, rfl, k116⟩ := spec_Eq (o64.ext (e71.trans (e77.trans (e83.trans (e90.trans e92))))).ints (o71.ext (e77.trans (e83.trans (e90.trans e92)))).ints (by omega)
  rw [k116] at h116
  rw [decide_eq_true (meet_comm hRL.n24 hLx hRx)] at h116
  refine sCall2 rfl call23 rfl rfl h116 ?_
  refine sG rfl rfl ?_
  refine sP (v := .bool false) rfl ?_
  refine sP (v := .bool _) rfl ?_   -- t118 pick ['t113', '(bool true)', 't117']
  refine sMv (v := .bool _) rfl ?_
  refine sG rfl rfl ?_
  refine sMv (v := nv _) rfl ?_
  refine sG rfl rfl ?_
  refine sMv (v := nv _) rfl ?_
  refine sG rfl rfl ?_
  refine sBin rfl rfl (aInt_add (by omega)) ?_
  refine sG rfl rfl ?_
  refine sMv (v := nv _) rfl ?_
  refine sG rfl rfl ?_
  refine sMv (v := .slice _ _ _) rfl ?_
  refine sG rfl rfl ?_
  refine sLen T22 rfl ?_
  refine sG rfl rfl ?_
  refine sBin rfl rfl (aInt_add (by omega)) ?_
  refine sG rfl rfl ?_
  refine sBin (v := .bool false) rfl rfl (neqF hmr) ?_
  refine sP (v := .bool _) rfl ?_   -- t128 pick ['t119', '(bool true)', 't127']
  refine sNil (kSeqN ?_)
  refine cCondF rfl ?_
  refine cSkip (kSeqN ?_)
  refine cSeq ?_
  refine cSeq ?_
  refine cRegion ?_
  refine sMv (v := .slice _ _ _) rfl ?_
  refine sLen T22 rfl ?_
  refine sMv (v := nv 0) rfl ?_
  refine sNil (kSeqN ?_)
  refine cBlock ?_
  refine wpC_loop (fun k ρ m'' => ∃ i, k = (meetM L R n).length - i ∧ i ≤ (meetM L R n).length ∧ Ext m92 m'' ∧ Has ρ [(9, nv n), (10, .slice qL L.length cL), (11, .slice qR R.length cR), (12, .slice q64 (meetM L R n).length c64), (129, .slice q64 (meetM L R n).length c64), (130, nv (meetM L R n).length), (131, nv i)]) ⟨0, rfl, by omega, .refl _, rfl, rfl, rfl, rfl, rfl, rfl, rfl, trivial⟩ ?_
  rintro k ρ m'' ⟨i, rfl, hi, eX, hh⟩
  rw [hh.env]; clear hh
  have z := z92.trans eX
  have i64 := ((o64.ext (e71.trans (e77.trans (e83.trans (e90.trans e92))))).ext eX).ints
  refine cSeq ?_
  refine cRegion ?_
  refine sBin rfl rfl (aInt_lss) ?_
  refine sNil (kSeqN ?_)
  refine cSeq ?_   -- seq 16
  refine cCond rfl (fun c3 => ?_) (fun c3 => ?_)
  ·
    obtain ⟨b1, o1, p1, r1, cc1, e1, g1, x1⟩ := i64.atN (by omega)
    obtain ⟨rfl, rfl, rfl⟩ := e1
    have hli : (meetM L R n)[i]? = some ((meetM L R n).getD i 0) := by rw [List.getD_eq_getElem?_getD, List.getElem?_eq_getElem c3]; rfl
    have hxm := getD_mem c3
    have hx1 := hmr2.lt _ hxm
    have hin := ((meetM_span hRL.n24 hLx hRx).2 _).1 (.mem hxm)
    refine cSkip (kSeqN ?_)
    refine cSeq ?_
    refine cBlock ?_
    refine cSeq ?_
    refine cRegion ?_
    refine sIx T22 S3 rfl rfl (by omega) ?_
    refine sLd (v := nv ((meetM L R n).getD i 0)) A3 rfl g1 (x1 _ _ hli) ?_
    refine sAs (v := nv _) rfl ?_
    refine sNil (kSeqN ?_)
    refine cSeq ?_
    refine cRegion ?_
    refine sMv (v := .slice _ _ _) rfl ?_
    refine sMv (v := nv _) rfl ?_
    refine sMv (v := nv _) rfl ?_
    obtain ⟨v139, m139, h139, rfl, e139⟩ := sp_Member hRL hx1 (oL'.ext z).ints
    rw [decide_eq_true (which_in hRL hin.1)] at h139
    refine sCall3 rfl kall46 rfl rfl rfl h139 ?_
    refine sMv (v := .tuple _) rfl ?_
    refine sP (v := .bool _) rfl ?_   -- extract ['t135', '0']
    refine sP (v := nv _) rfl ?_   -- extract ['t135', '1']
    refine sAs (v := .bool _) rfl ?_
    refine sAs (v := nv _) rfl ?_
    refine sNil (kSeqN ?_)
    refine cSeq ?_
    refine cRegion ?_
    refine sMv (v := .slice _ _ _) rfl ?_
    refine sMv (v := nv _) rfl ?_
    refine sMv (v := nv _) rfl ?_
    obtain ⟨v146, m146, h146, rfl, e146⟩ := sp_Member hRR hx1 (oR.ext (z.trans e139)).ints
    rw [decide_eq_true (which_in hRR hin.2)] at h146
    refine sCall3 rfl kall46 rfl rfl rfl h146 ?_
    refine sMv (v := .tuple _) rfl ?_
    refine sP (v := .bool _) rfl ?_   -- extract ['t142', '0']
    refine sP (v := nv _) rfl ?_   -- extract ['t142', '1']
    refine sAs (v := .bool _) rfl ?_
    refine sAs (v := nv _) rfl ?_
    refine sNil (kSeqN ?_)
    refine cSeq ?_
    refine cRegion ?_
    refine sMv (v := nv _) rfl ?_
    refine sBin (v := .bool false) (a := 0) (b := 0) rfl rfl (neqF rfl) ?_
    refine sMv (v := .bool _) rfl ?_
    refine sG rfl rfl ?_
    refine sMv (v := nv _) rfl ?_
    refine sG rfl rfl ?_
    refine sBin (v := .bool false) (a := 0) (b := 0) rfl rfl (neqF rfl) ?_
    refine sP (v := .bool _) rfl ?_   -- t154 pick ['t151', '(bool true)', 't153']
    refine sMv (v := .bool _) rfl ?_
    refine sG rfl rfl ?_
    refine sMv (v := .bool _) rfl ?_
    refine sG rfl rfl ?_
    refine sP (v := .bool false) rfl ?_
    refine sP (v := .bool _) rfl ?_   -- t158 pick ['t155', '(bool true)', 't157']
    refine sMv (v := .bool _) rfl ?_
    refine sG rfl rfl ?_
    refine sMv (v := .bool _) rfl ?_
    refine sG rfl rfl ?_
    refine sP (v := .bool false) rfl ?_
    refine sP (v := .bool _) rfl ?_   -- t162 pick ['t159', '(bool true)', 't161']
    refine sNil (kSeqN ?_)
    refine cCondF rfl ?_
    refine cSkip (kBlkN (kSeqN ?_))
    refine cRegion ?_
    refine sBin rfl rfl (aInt_add (b := 1) (by omega)) ?_
    refine sMv (v := nv _) rfl ?_
    refine sNil (kSeqN ?_)
    refine ⟨_, ?_, i + 1, rfl, by omega, (eX.trans e139).trans e146, rfl, rfl, rfl, rfl, rfl, rfl, rfl, trivial⟩
    omega
  ·
    refine cExit (kSeqE (kSeqE (kBlkS (kSeqN ?_))))
    refine cSeq ?_
    refine cRegion ?_
    refine sMv (v := .slice _ _ _) rfl ?_
    refine sMv (v := nv _) rfl ?_
    obtain ⟨v167, m167, h167, w167, rfl, o167, e167⟩ := sp_Reduce hmr2 i64
    obtain ⟨q167, c167, rfl⟩ := o167.ints.lenN
    refine sCall2 rfl call43 rfl rfl h167 ?_
    refine sMv (v := .tuple _) rfl ?_
    refine sP (v := .slice _ _ _) rfl ?_   -- extract ['t164', '0']
    refine sP (v := nv _) rfl ?_   -- extract ['t164', '1']
    refine sAs (v := .slice _ _ _) rfl ?_
    refine sAs (v := nv _) rfl ?_
    refine sNil (kSeqN ?_)
    refine cSeq ?_
    refine cRegion ?_
    refine sMv (v := nv _) rfl ?_
    refine sBin (v := .bool true) (a := 0) (b := 0) rfl rfl (eqlT rfl) ?_
    refine sMv (v := .bool _) rfl ?_
    refine sG rfl rfl ?_
    refine sMv (v := .slice _ _ _) rfl ?_
    refine sG rfl rfl ?_
    refine sMv (v := .slice _ _ _) rfl ?_
    refine sG rfl rfl ?_
    obtain ⟨v175, m175, h175, rfl, k175⟩ := spec_Eq o167.ints (i64.ext e167) (by have := redM_length (meetM L R n); omega)
    rw [k175] at h175
    rw [decide_eq_true ((meetM_span hRL.n24 hLx hRx).1.red hmr2.lt24)] at h175
    refine sCall2 rfl call23 rfl rfl h175 ?_
    refine sP (v := .bool _) rfl ?_   -- t176 pick ['t172', 't175', '(bool false)']
    refine sMv (v := .bool _) rfl ?_
    refine sG rfl rfl ?_
    obtain ⟨v178, m178, h178, rfl, e178⟩ := spec_awake (hG.ext ((yX.trans z).trans e167))
    refine sCall0 rfl call17 h178 ?_
    refine sP (v := .bool _) rfl ?_   -- t179 pick ['t177', 't178', '(bool false)']
    refine sAs (v := .bool _) rfl ?_
    refine sNil (kSeqN ?_)
    refine cRet ?_
    exact ⟨.inr rfl, _, rfl, rfl, trivial⟩

end Go.AM

/-! ### F9 -/
namespace Go.Proofs.YtgiidbomifmcaaaDoor
open Go Go.AM Go.ChangeShapes Go.WideShapes Go.ChangeAt Go.WideMaps Go.WideElems Go.RowKit
set_option maxRecDepth 100000
set_option linter.unusedVariables false
theorem own : ownKnob Tryd.prog.godebug = none := by kernel_rfl
/-- The door's own heap meets the condition: three closed facts. -/
theorem door_met (os : Os) (args : Array Value) : laidMetH Tryd.prog laid3 ((World.doorLaid Tryd.prog 400 os).forCall (fun _ _ => 0) ⟨#[], args, []⟩).memory :=
  laidMetH_of_parts3 (fuel := 8) (laidMet_of_run' 8 (by kernel_rfl) (by kernel_rfl)) (by kernel_rfl) (by kernel_rfl)
theorem lifted12 (os : Os) (started : os.Started) (H : Type) (enc : TypeId × Value → H) :
    ReturnsInHanded {} Tryd.checked os 12 .any (fun w args => (Rows.bitsMeetSpec.pre enc Tryd.prog Tryd.f12 [] false w args ∧ laidMetH Tryd.prog laid3 w) ∧ sizedMet enc Tryd.prog Tryd.f12 (OpenSpec.ofChange Rows.bitsMeetSpec) false w args)
      (Rows.bitsMeetSpec.post enc Tryd.prog Tryd.f12 false true false false) := by
  refine returnsInHanded_of_change_and (C := Tryd.checked) (X := fun w _ => laidMetH Tryd.prog laid3 w) (fun _ _ _ hh h => h.of_heap hh) own started (by kernel_rfl) Tryd.func12
    (ChangeSpec.witness_shaped (enc := enc) (C := Tryd.checked) (os := os) (X := fun w _ => laidMetH Tryd.prog laid3 w) false (World.doorLaid Tryd.prog 400 os) #[.slice none 0 0, .slice none 0 0, .int .u8 0] 8 rfl (World.shaped_of_RefB (by kernel_rfl) (by kernel_rfl)) (by kernel_rfl) (by kernel_rfl) (by kernel_rfl) (door_met os _)) ?_
  intro W base args ds gs before hval0 hW _ _ hL _
  have hval : ∀ (j : Nat) t v, Tryd.f12.params[j]? = some t → args[j]? = some v → Value.okWide Tryd.prog W .any base t v := hval0
  have hW' := hW
  obtain ⟨p, q, hA0, hV, rfl, hfz, hnd⟩ := hW
  have hA : DataW.TrodAll enc Tryd.prog W 0 (fun _ => true) true [35, 35, 5] args.toList ds p := hA0
  obtain ⟨v0, vs0, d0, ds0, p0, q0, hargs, rfl, rfl, h0, r0⟩ := trodAll_cons hA
  obtain ⟨v1, vs1, d1, ds1, p1, q1, rfl, rfl, rfl, h1, r1⟩ := trodAll_cons r0
  obtain ⟨v2, vs2, d2, ds2, p2, q2, rfl, rfl, rfl, h2, r2⟩ := trodAll_cons r1
  obtain ⟨rfl, rfl, rfl⟩ := trodAll_nil r2
  obtain rfl : args = #[v0, v1, v2] := by cases args; simp_all
  obtain ⟨rfl, rfl⟩ := trodVars_none hV
  obtain ⟨a0, l0, f0, ok0, wf0, A0⟩ := ints_arg hL u35 u5 c5 (hval 0 35 v0 rfl rfl) h0
  have lt0 : ∀ x ∈ p0, x.block < W.heap.size := by obtain ⟨m, hm⟩ := h0; exact DataW.trod_lt m _ _ _ hm
  obtain ⟨a1, l1, f1, ok1, wf1, A1⟩ := ints_arg hL u35 u5 c5 (hval 1 35 v1 rfl rfl) h1
  have lt1 : ∀ x ∈ p1, x.block < W.heap.size := by obtain ⟨m, hm⟩ := h1; exact DataW.trod_lt m _ _ _ hm
  obtain ⟨n2, rfl, rfl, rfl, w2⟩ := open_int u5 (hval 2 5 v2 rfl rfl) h2
  obtain ⟨c2, hc2, rfl⟩ := u8_nat w2
  refine (entry (args := #[f0 0, f1 1, .int .u8 (Int.ofNat c2)]) (A := [a0, a1]) hL (by intro a ha; simp only [List.mem_cons, List.not_mem_nil, or_false] at ha; rcases ha with rfl | rfl <;> assumption) (fun bm => (arel_cons ((A0 _ 0 rfl).2 bm) (arel_cons ((A1 _ 1 rfl).2 bm) (arel_cons (.int _ _) arel_nil)))) (fun b => ?_)).mono ?_
  · obtain ⟨v, m, h, hv, _⟩ := spec_BitsMeet (glob0 b _) ((A0 [a0, a1] 0 rfl).1 b) ((A1 [a0, a1] 1 rfl).1 b) hc2
    exact ⟨v, m, h, hv⟩
  · rintro e W' ⟨rfl, bel⟩
    exact ⟨_, rfl, _, _, _, [], _, [], hW', trodAll_mk1 (shut_bool u4 _), (trodAll_cons_mk (Below.trod laidOut (by kernel_rfl) (of_decide_eq_true (by kernel_rfl)) h0 bel lt0) (trodAll_cons_mk (Below.trod laidOut (by kernel_rfl) (of_decide_eq_true (by kernel_rfl)) h1 bel lt1) (trodAll_cons_mk (shut_int u5 w2) trodAll_mk0))), rfl, bel.frame _, fun h => by cases h⟩
theorem bitsMeet_holds : Rows.BitsMeetSaid :=
  OpenClaim.holds_of_wide 12 Tryd.f12 rfl rfl rfl rfl rfl rfl rfl ⟨rfl, rfl, rfl, rfl, rfl⟩ rfl rfl rfl rfl rfl (by kernel_rfl) Tryd.func12 (by kernel_rfl)
    (of_decide_eq_true (by kernel_rfl)) (by unfold Func.isWrapper; first | (rw [if_pos (by decide +kernel)]; kernel_rfl) | (rw [if_neg (by decide +kernel)]; exact ⟨rfl, rfl⟩))
    (fun os started H enc _ => lifted12 os started H enc)
theorem bitsMeetCard_holds : Rows.BitsMeetCardSaid :=
  Claim7.holds_tied_plain_at .later [] [.data, .data, .funcs] true (true, "4e90e708c3a0b8b9bd838c7bc74774a1a5a946fb69b32deeeece4d3212f6d5ce") false
    bitsMeet_holds (fun _ h => by cases h) (by kernel_rfl) (fun _ h => by cases h) bitsMeet_row_tie rfl ⟨rfl, rfl⟩ (by kernel_rfl) rfl
    (fun f fn hf hfn => by
      obtain rfl : f = 12 := Option.some.inj ((show Tryd.prog.funcNamed "spoondrift/spoondriftlaw02.BitsMeet" = some 12 by kernel_rfl).symm.trans hf) |>.symm
      obtain rfl : fn = Tryd.f12 := (Option.some.inj (Tryd.func12.symm.trans hfn)).symm
      exact ⟨by kernel_rfl, fun j t ht => by
        have hm : t ∈ [35, 35, 5] := by simpa using Array.mem_of_getElem? (show (#[35, 35, 5] : Array Nat)[j]? = some t from ht)
        have hall : ([35, 35, 5].all fun u => !Tryd.prog.wantsStandIn u) = true := by kernel_rfl
        exact (show Tryd.prog.wantsStandIn t = false by simpa using List.all_eq_true.1 hall t hm)⟩)
    (by kernel_rfl)
end Go.Proofs.YtgiidbomifmcaaaDoor
