/- Inverses, products, and matrices turned twice. -/
import Derived.Test.YtgiidbomifmcaaaDoorMade
import Derived.Test.YtgiidbomifmcaaaDoorPlainD
import Derived.Test.YtgiidbomifmcaaaDoorEntryB
import Derived.Carry
import Derived.Test.YtgiidbomifmcaaaDoorTie
import Derived.Test.YtgiidbomifmcaaaDoorCards
set_option linter.unusedVariables false
set_option linter.unusedSimpArgs false
/-! ### E46 -/
namespace Go.AM
open Go.Proofs
set_option maxRecDepth 100000
set_option linter.unusedVariables false
set_option linter.unusedSimpArgs false
theorem kall40 : callable Tryd.prog 40 = true := by kernel_rfl
theorem kall22 : callable Tryd.prog 22 = true := by kernel_rfl
theorem kall51 : callable Tryd.prog 51 = true := by kernel_rfl
theorem kall52 : callable Tryd.prog 52 = true := by kernel_rfl
theorem kall53 : callable Tryd.prog 53 = true := by kernel_rfl
theorem kall54 : callable Tryd.prog 54 = true := by kernel_rfl
theorem rank_iff {A : List Nat} {n : Nat} (h : Right A n) : decide ((if invOk A n then 0 else 6) = 0) = decide ((redM A).length = n) := by
  rw [invOk_rank h.n24 h.lt]
  have := nullM_len_eq h.n24 h.lt
  refine decide_eq_decide.2 ?_
  by_cases hr : (redM A).length = n
  · rw [if_pos (by simp; omega)]; simp [hr]
  · rw [if_neg (by simp; omega)]; simp [hr]

theorem okf14 : okF Tryd.prog H0 14 242 = true := by kernel_rfl
theorem spec_BitsInverse {m : Mem} {a a2 : Value} {l l2 : List Int} {c : Nat} (hG : Glob m) (ha : BytesAt m a l) (ha2 : BytesAt m a2 l2) (hc : c < 256) : ∃ v m', ACalls Tryd.prog 14 #[a, a2, .int .u8 (Int.ofNat c)] m v m' ∧ (v = .bool true ∧ True) := by
  obtain ⟨q, cap, rfl⟩ := ha.len
  obtain ⟨q2, cap2, rfl⟩ := ha2.len
  have hn1 : 1 ≤ 1 + c % 10 := by omega
  have hn2 : 1 + c % 10 ≤ 10 := by omega
  refine wpF (args := [_, _, _]) mixed okf14 (fn := Tryd.f14) rfl rfl rfl (by simp) ?_
  refine cSeq ?_
  refine cRegion ?_
  refine sAs (v := .bool _) rfl ?_
  refine sNil (kSeqN ?_)
  refine cSeq ?_
  refine cRegion ?_
  refine sMv (v := .slice _ _ _) rfl ?_
  obtain ⟨v29, m29, h29, b, rfl, hb, hS29, e29⟩ := spec_Of ha
  refine sCall1 rfl call31 rfl h29 ?_
  refine sMv (v := .slice _ _ _) rfl ?_
  obtain ⟨v31, m31, h31, b', rfl, hb', hT31, e31⟩ := spec_Of (ha2.ext e29)
  have hS31 := hS29.ext hb e31
  have hbS := hS29.lt
  have hbT := hT31.lt
  have hz29 := e29.1
  refine sCall1 rfl call31 rfl h31 ?_
  refine sAs (v := .pointer _) rfl ?_
  refine sAs (v := .pointer _) rfl ?_
  refine sNil (kSeqN ?_)
  refine cSeq ?_
  refine cRegion ?_
  refine sMv (v := .int .u8 _) rfl ?_
  refine sP (v := nv c) (conv5_3 hc) ?_
  refine sBin (b := 10) rfl rfl (aInt_rem (by omega)) ?_
  refine sBin (a := 1) rfl rfl (aInt_add (by omega)) ?_
  generalize 1 + c % 10 = n at *
  have h2n : 2 ^ n ≤ 2 ^ 10 := Nat.pow_le_pow_right (by omega) hn2
  have h2p : 0 < 2 ^ n := Nat.two_pow_pos n
  refine sAs (v := nv _) rfl ?_
  refine sNil (kSeqN ?_)
  refine cSeq ?_
  refine cRegion ?_
  refine sAs (v := .slice _ _ _) rfl ?_
  refine sAs (v := .slice _ _ _) rfl ?_
  refine sNil (kSeqN ?_)
  refine cSeq ?_
  refine cSeq ?_
  refine cRegion ?_
  refine sMv (v := nv _) rfl ?_
  refine sMv (v := nv 0) rfl ?_
  refine sNil (kSeqN ?_)
  refine cBlock ?_
  refine wpC_loop (fun k ρ m' => ∃ i A B va vb, k = n - i ∧ i ≤ n ∧ A.length = i ∧ B.length = i ∧ (∀ x ∈ A, x < 2 ^ n) ∧ (∀ x ∈ B, x < 2 ^ n) ∧ Own2 m31.size m' va (ofs A) vb (ofs B) ∧ StoreAt m.size m29.size m' b i ∧ StoreAt m29.size m31.size m' b' i ∧ Ext m m' ∧ m31.size ≤ m'.size ∧ Has ρ [(7, .pointer (some ⟨b, 0, none⟩)), (8, .pointer (some ⟨b', 0, none⟩)), (9, nv n), (10, va), (11, vb), (36, nv n), (37, nv i)])
    ⟨0, [], [], _, _, rfl, by omega, rfl, rfl, by simp, by simp, .nil _ _, hS31, hT31, e29.trans e31, Nat.le_refl _, rfl, rfl, rfl, rfl, rfl, rfl, rfl, trivial⟩ ?_
  rintro k ρ m' ⟨i, A, B, va, vb, rfl, hi, hAl, hBl, hAx, hBx, hO, hS, hT, hE, hsz, hh⟩
  obtain ⟨qA, cA, rfl⟩ := hO.fst.ints.lenN
  obtain ⟨qB, cB, rfl⟩ := hO.snd.ints.lenN
  rw [hh.env]; clear hh
  refine cSeq ?_
  refine cRegion ?_
  refine sBin rfl rfl (aInt_lss) ?_
  refine sNil (kSeqN ?_)
  refine cSeq ?_   -- seq 7
  refine cCond rfl (fun c0 => ?_) (fun c0 => ?_)
  ·
    refine cSkip (kSeqN ?_)
    refine cSeq ?_
    refine cBlock ?_
    refine cDraw rfl ?_
    refine sMv (v := .slice _ _ _) rfl ?_
    refine sMv (v := .pointer _) rfl ?_
    refine sMv (v := nv _) rfl ?_
    refine sBin rfl rfl (aInt_shl (a := 1) (by omega)) ?_
    rw [Nat.shiftLeft_eq, Nat.one_mul]
    obtain ⟨v43, m43, h43, ⟨x, rfl, hx⟩, hS43, o43⟩ := spec_Less (n := 2 ^ n) hS (by omega) (by omega) (by omega)
    have hO43 := hO.only o43 (by omega)
    have hT43 := hT.only hb' o43 (.inl (by omega))
    have hE43 := hE.only o43 hb
    have hz43 := o43.1
    refine sCall2 rfl call33 rfl rfl h43 ?_
    refine sBuildS T22 S3 Z3 (by decide) (by decide) (by decide) (by kernel_rfl) fill1 rfl ?_
    obtain ⟨v45, m45, h45, hO45, hL45⟩ := own2_append App22 (hO43.ext (.push m43 (.cells true #[nv x]))) one_ints (by simp; omega) (by simp; omega)
    obtain ⟨q45, c45, rfl⟩ := hO45.fst.ints.len
    have hP45 := mk_own (by omega) hL45
    have hS45 := hS43.low hb hP45 (by omega)
    have hT45 := hT43.low hb' hP45 (by omega)
    have hE45 : Ext m m45 := Low.to_ext hE43 hP45 (by omega)
    have hz45 := hP45.1
    refine sAppX rfl rfl h45 ?_
    refine sMv (v := .slice _ _ _) rfl ?_
    refine sMv (v := .pointer _) rfl ?_
    refine sMv (v := nv _) rfl ?_
    refine sBin rfl rfl (aInt_shl (a := 1) (by omega)) ?_
    rw [Nat.shiftLeft_eq, Nat.one_mul]
    obtain ⟨v50, m50, h50, ⟨y, rfl, hy⟩, hT50, o50⟩ := spec_Less (n := 2 ^ n) hT45 (by omega) (by omega) (by omega)
    have hO50 := hO45.only o50 (by omega)
    have hS50 := hS45.only hb o50 (.inr (by omega))
    have hE50 := hE45.only o50 (by omega)
    have hz50 := o50.1
    refine sCall2 rfl call33 rfl rfl h50 ?_
    refine sBuildS T22 S3 Z3 (by decide) (by decide) (by decide) (by kernel_rfl) fill1 rfl ?_
    obtain ⟨v52, m52, h52, hO52, hL52⟩ := own2_append App22 (hO50.ext (.push m50 (.cells true #[nv y]))).symm one_ints (by simp; omega) (by simp; omega)
    obtain ⟨q52, c52, rfl⟩ := hO52.fst.ints.len
    have hP52 := mk_own (by omega) hL52
    have hz52 := hP52.1
    refine sAppX rfl rfl h52 ?_
    refine sAs (v := .slice _ _ _) rfl ?_
    refine sAs (v := .slice _ _ _) rfl ?_
    refine sNil (kBlkN (kSeqN ?_))
    refine cRegion ?_
    refine sBin rfl rfl (aInt_add (b := 1) (by omega)) ?_
    refine sMv (v := nv _) rfl ?_
    refine sNil (kSeqN ?_)
    refine ⟨_, ?_, i + 1, A ++ [x], B ++ [y], _, _, rfl, by omega, by simp [hAl], by simp [hBl], snoc_lt hAx hx, snoc_lt hBx hy, ?_, hS50.low hb hP52 (by omega), hT50.low hb' hP52 (by omega), Low.to_ext hE50 hP52 (by omega), by omega, rfl, rfl, rfl, rfl, rfl, rfl, rfl, trivial⟩
    · omega
    · rw [ofs_append, ofs_append]; exact hO52.symm
  ·
    have hie : i = n := by omega
    subst hie
    have hRA : Right A i := made_right hn1 (by omega) (by omega) (Nat.le_of_eq hAl) hAx
    have hRB : Right B i := made_right hn1 (by omega) (by omega) (Nat.le_of_eq hBl) hBx
    have oA := hO.fst
    have oB := hO.snd
    refine cExit (kSeqE (kSeqE (kBlkS (kSeqN ?_))))
    refine cSeq ?_
    refine cRegion ?_
    refine sMv (v := .pointer _) rfl ?_
    refine sMv (v := nv _) rfl ?_
    refine sBin rfl rfl (aInt_shl (a := 1) (by omega)) ?_
    rw [Nat.shiftLeft_eq, Nat.one_mul]
    obtain ⟨v57, m57, h57, ⟨x, rfl, hx⟩, hT57, o57⟩ := spec_Less (n := 2 ^ i) hT (by omega) (by omega) (by omega)
    have yE := hE.only o57 (by omega)
    have iA := (oA.only o57 (by omega)).ints
    have iB := (oB.only o57 (by omega)).ints
    clear oA oB hO hS hT hE hT57
    have hPl := mulM_lt (A := A) hRB.lt
    have hPn : (mulM A B).length = i := by simp [mulM, hAl]
    have hRP : Right (mulM A B) i := ⟨hn1, by omega, by omega, hPl⟩
    have hux : total (turnedM B i) x < 2 ^ i := by have := total_lt (turnedM_lt' (L := B) (n := i)) x; rwa [hBl] at this
    have hvx : total (turnedM A i) (total (turnedM B i) x) < 2 ^ i := by have := total_lt (turnedM_lt' (L := A) (n := i)) (total (turnedM B i) x); rwa [hAl] at this
    have happ := mul_apply (A := A) (B := B) (n := i) (x := x) (by rw [hBl]; exact hAx) hx
    rw [hBl] at happ
    have hRT : Right (turnedM A i) i := ⟨hn1, by omega, by rw [turnedM_length]; omega, fun y hy => by have := turnedM_lt' y hy; rwa [hAl] at this⟩
    have hTT := turned_turned hAx
    rw [hAl] at hTT
    have hTr := turned_rank hRA.n24 hRA.len hAx
    have hri := rank_iff hRA
    refine sCall2 rfl call33 rfl rfl h57 ?_
    refine sAs (v := nv _) rfl ?_
    refine sNil (kSeqN ?_)
    refine cSeq ?_
    refine cRegion ?_
    refine sMv (v := .slice _ _ _) rfl ?_
    refine sMv (v := nv _) rfl ?_
    refine sMv (v := .slice _ _ _) rfl ?_
    refine sMv (v := nv _) rfl ?_
    obtain ⟨v63, m63, h63, w63, rfl, o63, e63⟩ := sp_Mul hRA hRB hBl iA iB
    obtain ⟨q63, c63, rfl⟩ := o63.ints.lenN
    refine sCall4 rfl kall51 rfl rfl rfl rfl h63 ?_
    refine sMv (v := .tuple _) rfl ?_
    refine sP (v := .slice _ _ _) rfl ?_   -- extract ['t58', '0']
    refine sP (v := nv _) rfl ?_   -- extract ['t58', '1']
    refine sAs (v := .slice _ _ _) rfl ?_
    refine sAs (v := nv _) rfl ?_
    refine sNil (kSeqN ?_)
    refine cSeq ?_
    refine cRegion ?_
    refine sMv (v := .slice _ _ _) rfl ?_
    refine sMv (v := nv _) rfl ?_
    refine sMv (v := nv _) rfl ?_
    obtain ⟨v70, m70, h70, rfl, e70⟩ := sp_Apply hRB hx (iB.ext e63)
    have z70 := e63.trans e70
    refine sCall3 rfl kall22 rfl rfl rfl h70 ?_
    refine sMv (v := .tuple _) rfl ?_
    refine sP (v := nv _) rfl ?_   -- extract ['t66', '0']
    refine sP (v := nv _) rfl ?_   -- extract ['t66', '1']
    refine sAs (v := nv _) rfl ?_
    refine sAs (v := nv _) rfl ?_
    refine sNil (kSeqN ?_)
    refine cSeq ?_
    refine cRegion ?_
    refine sMv (v := .slice _ _ _) rfl ?_
    refine sMv (v := nv _) rfl ?_
    refine sMv (v := nv _) rfl ?_
    obtain ⟨v77, m77, h77, rfl, e77⟩ := sp_Apply hRA hux (iA.ext z70)
    have z77 := z70.trans e77
    refine sCall3 rfl kall22 rfl rfl rfl h77 ?_
    refine sMv (v := .tuple _) rfl ?_
    refine sP (v := nv _) rfl ?_   -- extract ['t73', '0']
    refine sP (v := nv _) rfl ?_   -- extract ['t73', '1']
    refine sAs (v := nv _) rfl ?_
    refine sAs (v := nv _) rfl ?_
    refine sNil (kSeqN ?_)
    refine cSeq ?_   -- seq 13
    refine cSeq ?_
    refine cRegion ?_
    refine sMv (v := nv _) rfl ?_
    refine sBin (v := .bool false) (a := 0) (b := 0) rfl rfl (neqF rfl) ?_
    refine sMv (v := .bool _) rfl ?_
    refine sG rfl rfl ?_
    refine sMv (v := nv _) rfl ?_
    refine sG rfl rfl ?_
    refine sBin (v := .bool false) (a := 0) (b := 0) rfl rfl (neqF rfl) ?_
    refine sP (v := .bool _) rfl ?_   -- t85 pick ['t82', '(bool true)', 't84']
    refine sMv (v := .bool _) rfl ?_
    refine sG rfl rfl ?_
    refine sMv (v := nv _) rfl ?_
    refine sG rfl rfl ?_
    refine sBin (v := .bool false) (a := 0) (b := 0) rfl rfl (neqF rfl) ?_
    refine sP (v := .bool _) rfl ?_   -- t89 pick ['t86', '(bool true)', 't88']
    refine sMv (v := .bool _) rfl ?_
    refine sG rfl rfl ?_
    refine sMv (v := .slice _ _ _) rfl ?_
    refine sG rfl rfl ?_
    refine sLen T22 rfl ?_
    refine sG rfl rfl ?_
    refine sMv (v := nv _) rfl ?_
    refine sG rfl rfl ?_
    refine sBin (v := .bool false) rfl rfl (neqF hPn) ?_
    refine sP (v := .bool _) rfl ?_   -- t95 pick ['t90', '(bool true)', 't94']
    refine sMv (v := .bool _) rfl ?_
    refine sG rfl rfl ?_
    refine sMv (v := .slice _ _ _) rfl ?_
    refine sG rfl rfl ?_
    refine sMv (v := nv _) rfl ?_
    refine sG rfl rfl ?_
    obtain ⟨v99, m99, h99, rfl, e99⟩ := spec_rows (o63.ext (e70.trans e77)).ints (by omega) hRA.n24 hPl
    have z99 := z77.trans e99
    refine sCall2 rfl call41 rfl rfl h99 ?_
    refine sG rfl rfl ?_
    refine sP (v := .bool false) rfl ?_
    refine sP (v := .bool _) rfl ?_   -- t101 pick ['t96', '(bool true)', 't100']
    refine sNil (kSeqN ?_)
    refine cCondF rfl ?_
    refine cSkip (kSeqN ?_)
    refine cSeq ?_
    refine cRegion ?_
    refine sMv (v := .slice _ _ _) rfl ?_
    refine sMv (v := nv _) rfl ?_
    refine sMv (v := nv _) rfl ?_
    obtain ⟨v106, m106, h106, rfl, e106⟩ := sp_Apply hRP hx (o63.ext ((e70.trans e77).trans e99)).ints
    have z106 := z99.trans e106
    rw [happ] at h106
    refine sCall3 rfl kall22 rfl rfl rfl h106 ?_
    refine sMv (v := .tuple _) rfl ?_
    refine sP (v := nv _) rfl ?_   -- extract ['t102', '0']
    refine sP (v := nv _) rfl ?_   -- extract ['t102', '1']
    refine sAs (v := nv _) rfl ?_
    refine sAs (v := nv _) rfl ?_
    refine sNil (kSeqN ?_)
    refine cSeq ?_
    refine cRegion ?_
    refine sMv (v := .slice _ _ _) rfl ?_
    refine sMv (v := nv _) rfl ?_
    obtain ⟨v112, m112, h112, w112, rfl, o112, e112⟩ := sp_Transpose hRA (by omega) (by omega) (iA.ext z106)
    obtain ⟨q112, c112, rfl⟩ := o112.ints.lenN
    have z112 := z106.trans e112
    refine sCall2 rfl kall52 rfl rfl h112 ?_
    refine sMv (v := .tuple _) rfl ?_
    refine sP (v := .slice _ _ _) rfl ?_   -- extract ['t109', '0']
    refine sP (v := nv _) rfl ?_   -- extract ['t109', '1']
    refine sAs (v := .slice _ _ _) rfl ?_
    refine sAs (v := nv _) rfl ?_
    refine sNil (kSeqN ?_)
    refine cSeq ?_
    refine cRegion ?_
    refine sMv (v := .slice _ _ _) rfl ?_
    refine sMv (v := nv _) rfl ?_
    obtain ⟨v118, m118, h118, rfl, e118⟩ := sp_Rank hRA (iA.ext z112)
    have z118 := z112.trans e118
    refine sCall2 rfl kall40 rfl rfl h118 ?_
    refine sMv (v := .tuple _) rfl ?_
    refine sP (v := nv _) rfl ?_   -- extract ['t115', '0']
    refine sP (v := nv _) rfl ?_   -- extract ['t115', '1']
    refine sAs (v := nv _) rfl ?_
    refine sAs (v := nv _) rfl ?_
    refine sNil (kSeqN ?_)
    refine cSeq ?_   -- seq 18
    refine cSeq ?_
    refine cRegion ?_
    refine sMv (v := nv _) rfl ?_
    refine sBin (v := .bool false) (a := 0) (b := 0) rfl rfl (neqF rfl) ?_
    refine sMv (v := .bool _) rfl ?_
    refine sG rfl rfl ?_
    refine sMv (v := nv _) rfl ?_
    refine sG rfl rfl ?_
    refine sMv (v := nv _) rfl ?_
    refine sG rfl rfl ?_
    refine sBin (v := .bool false) rfl rfl (neqF rfl) ?_
    refine sP (v := .bool _) rfl ?_   -- t127 pick ['t123', '(bool true)', 't126']
    refine sMv (v := .bool _) rfl ?_
    refine sG rfl rfl ?_
    refine sMv (v := nv _) rfl ?_
    refine sG rfl rfl ?_
    refine sBin (v := .bool false) (a := 0) (b := 0) rfl rfl (neqF rfl) ?_
    refine sP (v := .bool _) rfl ?_   -- t131 pick ['t128', '(bool true)', 't130']
    refine sMv (v := .bool _) rfl ?_
    refine sG rfl rfl ?_
    refine sMv (v := nv _) rfl ?_
    refine sG rfl rfl ?_
    refine sBin (v := .bool false) (a := 0) (b := 0) rfl rfl (neqF rfl) ?_
    refine sP (v := .bool _) rfl ?_   -- t135 pick ['t132', '(bool true)', 't134']
    refine sMv (v := .bool _) rfl ?_
    refine sG rfl rfl ?_
    refine sMv (v := .slice _ _ _) rfl ?_
    refine sG rfl rfl ?_
    refine sLen T22 rfl ?_
    refine sG rfl rfl ?_
    refine sMv (v := nv _) rfl ?_
    refine sG rfl rfl ?_
    refine sBin (v := .bool false) rfl rfl (neqF (turnedM_length A i)) ?_
    refine sP (v := .bool _) rfl ?_   -- t141 pick ['t136', '(bool true)', 't140']
    refine sMv (v := .bool _) rfl ?_
    refine sG rfl rfl ?_
    refine sMv (v := .slice _ _ _) rfl ?_
    refine sG rfl rfl ?_
    refine sMv (v := nv _) rfl ?_
    refine sG rfl rfl ?_
    obtain ⟨v145, m145, h145, rfl, e145⟩ := spec_rows (o112.ext e118).ints (by rw [turnedM_length]; omega) hRA.n24 hRT.lt
    have z145 := z118.trans e145
    refine sCall2 rfl call41 rfl rfl h145 ?_
    refine sG rfl rfl ?_
    refine sP (v := .bool false) rfl ?_
    refine sP (v := .bool _) rfl ?_   -- t147 pick ['t142', '(bool true)', 't146']
    refine sNil (kSeqN ?_)
    refine cCondF rfl ?_
    refine cSkip (kSeqN ?_)
    refine cSeq ?_
    refine cRegion ?_
    refine sMv (v := .slice _ _ _) rfl ?_
    refine sMv (v := nv _) rfl ?_
    obtain ⟨v151, m151, h151, w151, rfl, o151, e151⟩ := sp_Transpose hRT (by rw [turnedM_length]; omega) (by rw [turnedM_length]; omega) (o112.ext (e118.trans e145)).ints
    rw [hTT] at o151
    obtain ⟨q151, c151, rfl⟩ := o151.ints.lenN
    have z151 := z145.trans e151
    refine sCall2 rfl kall52 rfl rfl h151 ?_
    refine sMv (v := .tuple _) rfl ?_
    refine sP (v := .slice _ _ _) rfl ?_   -- extract ['t148', '0']
    refine sP (v := nv _) rfl ?_   -- extract ['t148', '1']
    refine sAs (v := .slice _ _ _) rfl ?_
    refine sAs (v := nv _) rfl ?_
    refine sNil (kSeqN ?_)
    refine cSeq ?_
    refine cRegion ?_
    refine sMv (v := .slice _ _ _) rfl ?_
    refine sMv (v := nv _) rfl ?_
    obtain ⟨v157, m157, h157, rfl, e157⟩ := sp_Rank hRT (o112.ext (e118.trans (e145.trans e151))).ints
    have z157 := z151.trans e157
    rw [hTr] at h157
    refine sCall2 rfl kall40 rfl rfl h157 ?_
    refine sMv (v := .tuple _) rfl ?_
    refine sP (v := nv _) rfl ?_   -- extract ['t154', '0']
    refine sP (v := nv _) rfl ?_   -- extract ['t154', '1']
    refine sAs (v := nv _) rfl ?_
    refine sAs (v := nv _) rfl ?_
    refine sNil (kSeqN ?_)
    refine cSeq ?_
    refine cRegion ?_
    refine sMv (v := .slice _ _ _) rfl ?_
    refine sMv (v := nv _) rfl ?_
    obtain ⟨v163, m163, h163, w163, rfl, o163, e163⟩ := sp_Invert hRA hAl (iA.ext z157)
    obtain ⟨q163, c163, rfl⟩ := o163.ints.lenN
    have z163 := z157.trans e163
    refine sCall2 rfl kall53 rfl rfl h163 ?_
    refine sMv (v := .tuple _) rfl ?_
    refine sP (v := .slice _ _ _) rfl ?_   -- extract ['t160', '0']
    refine sP (v := nv _) rfl ?_   -- extract ['t160', '1']
    refine sAs (v := .slice _ _ _) rfl ?_
    refine sAs (v := nv _) rfl ?_
    refine sNil (kSeqN ?_)
    refine cSeq ?_   -- seq 23
    refine cSeq ?_
    refine cRegion ?_
    refine sMv (v := nv _) rfl ?_
    refine sBin (v := .bool false) (a := 0) (b := 0) rfl rfl (neqF rfl) ?_
    refine sMv (v := .bool _) rfl ?_
    refine sG rfl rfl ?_
    refine sMv (v := .slice _ _ _) rfl ?_
    refine sG rfl rfl ?_
    refine sMv (v := .slice _ _ _) rfl ?_
    refine sG rfl rfl ?_
    obtain ⟨v171, m171, h171, rfl, k171⟩ := spec_Eq (o151.ext (e157.trans e163)).ints (iA.ext z163) (by omega)
    rw [k171, decide_eq_true rfl] at h171
    refine sCall2 rfl call23 rfl rfl h171 ?_
    refine sG rfl rfl ?_
    refine sP (v := .bool false) rfl ?_
    refine sP (v := .bool _) rfl ?_   -- t173 pick ['t168', '(bool true)', 't172']
    refine sMv (v := .bool _) rfl ?_
    refine sG rfl rfl ?_
    refine sMv (v := nv _) rfl ?_
    refine sG rfl rfl ?_
    refine sBin (v := .bool false) (a := 0) (b := 0) rfl rfl (neqF rfl) ?_
    refine sP (v := .bool _) rfl ?_   -- t177 pick ['t174', '(bool true)', 't176']
    refine sMv (v := .bool _) rfl ?_
    refine sG rfl rfl ?_
    refine sMv (v := nv _) rfl ?_
    refine sG rfl rfl ?_
    refine sMv (v := nv _) rfl ?_
    refine sG rfl rfl ?_
    refine sBin (v := .bool false) rfl rfl (neqF rfl) ?_
    refine sP (v := .bool _) rfl ?_   -- t182 pick ['t178', '(bool true)', 't181']
    refine sMv (v := .bool _) rfl ?_
    refine sG rfl rfl ?_
    refine sMv (v := nv _) rfl ?_
    refine sG rfl rfl ?_
    refine sBin (a := if invOk A i then 0 else 6) (b := 0) rfl rfl aInt_eql ?_
    refine sG rfl rfl ?_
    refine sMv (v := nv _) rfl ?_
    refine sG rfl rfl ?_
    refine sMv (v := nv _) rfl ?_
    refine sG rfl rfl ?_
    refine sBin rfl rfl aInt_eql ?_
    refine sG rfl rfl ?_
    refine sBinA (v := .bool false) rfl rfl (bneB hri) ?_
    refine sP (v := .bool _) rfl ?_   -- t190 pick ['t183', '(bool true)', 't189']
    refine sNil (kSeqN ?_)
    refine cCondF rfl ?_
    refine cSkip (kSeqN ?_)
    refine cSeq ?_   -- seq 25
    refine cSeq ?_
    refine cRegion ?_
    refine sMv (v := nv _) rfl ?_
    refine sBin (a := if invOk A i then 0 else 6) (b := 0) rfl rfl aInt_neq ?_
    refine sNil (kSeqN ?_)
    refine cCond (p := (if invOk A i then 0 else 6) ≠ 0) rfl (fun c4 => ?_) (fun c4 => ?_)
    ·
      have h6 : (if invOk A i then 0 else 6) = 6 := by split at c4 <;> simp_all
      refine cSeq ?_
      refine cRegion ?_
      refine sMv (v := nv _) rfl ?_
      refine sBin (v := .bool true) (a := if invOk A i then 0 else 6) (b := 6) rfl rfl (eqlT h6) ?_
      refine sMv (v := .bool _) rfl ?_
      refine sG rfl rfl ?_
      obtain ⟨v196, m196, h196, rfl, e196⟩ := spec_awake (hG.ext (yE.trans z163))
      refine sCall0 rfl call17 h196 ?_
      refine sP (v := .bool _) rfl ?_   -- t197 pick ['t195', 't196', '(bool false)']
      refine sAs (v := .bool _) rfl ?_
      refine sNil (kSeqN ?_)
      refine cRet (kSeqR ?_)
      exact ⟨.inr rfl, _, rfl, rfl, trivial⟩
    ·
      have hok : invOk A i = true := by
        cases hk : invOk A i with
        | true => rfl
        | false => rw [hk] at c4; simp at c4
      have hLI : (if invOk A i = true then invL A i else []) = invL A i := if_pos hok
      rw [hLI] at o163
      rw [hLI]
      have hIl : (invL A i).length = i := by simp [invL]
      have hRI : Right (invL A i) i := ⟨hn1, by omega, by omega, invL_lt hRA.n24 hAl hAx hok⟩
      have hleft := inv_left hRA.n24 hAx hok
      have hright := inv_right hRA.n24 hAl hAx hok
      have hol : (oneM i).length = i := by simp [oneM]
      refine cSkip (kSeqN ?_)
      refine cSeq ?_
      refine cRegion ?_
      refine sMv (v := nv _) rfl ?_
      obtain ⟨v200, m200, h200, w200, rfl, o200, e200⟩ := sp_Identity (m := m163) (n := i) hn1 (by omega)
      obtain ⟨q200, c200, rfl⟩ := o200.ints.lenN
      refine sCall1 rfl kall54 rfl h200 ?_
      refine sMv (v := .tuple _) rfl ?_
      refine sP (v := .slice _ _ _) rfl ?_   -- extract ['t198', '0']
      refine sP (v := nv _) rfl ?_   -- extract ['t198', '1']
      refine sAs (v := .slice _ _ _) rfl ?_
      refine sAs (v := nv _) rfl ?_
      refine sNil (kSeqN ?_)
      refine cSeq ?_
      refine cRegion ?_
      refine sMv (v := .slice _ _ _) rfl ?_
      refine sMv (v := nv _) rfl ?_
      refine sMv (v := .slice _ _ _) rfl ?_
      refine sMv (v := nv _) rfl ?_
      obtain ⟨v208, m208, h208, w208, rfl, o208, e208⟩ := sp_Mul hRI hRA hAl (o163.ext e200).ints (iA.ext (z163.trans e200))
      rw [hleft] at o208
      obtain ⟨q208, c208, rfl⟩ := o208.ints.lenN
      refine sCall4 rfl kall51 rfl rfl rfl rfl h208 ?_
      refine sMv (v := .tuple _) rfl ?_
      refine sP (v := .slice _ _ _) rfl ?_   -- extract ['t203', '0']
      refine sP (v := nv _) rfl ?_   -- extract ['t203', '1']
      refine sAs (v := .slice _ _ _) rfl ?_
      refine sAs (v := nv _) rfl ?_
      refine sNil (kSeqN ?_)
      refine cSeq ?_
      refine cRegion ?_
      refine sMv (v := .slice _ _ _) rfl ?_
      refine sMv (v := nv _) rfl ?_
      refine sMv (v := .slice _ _ _) rfl ?_
      refine sMv (v := nv _) rfl ?_
      obtain ⟨v216, m216, h216, w216, rfl, o216, e216⟩ := sp_Mul hRA hRI hIl (iA.ext ((z163.trans e200).trans e208)) (o163.ext (e200.trans e208)).ints
      rw [hright] at o216
      obtain ⟨q216, c216, rfl⟩ := o216.ints.lenN
      refine sCall4 rfl kall51 rfl rfl rfl rfl h216 ?_
      refine sMv (v := .tuple _) rfl ?_
      refine sP (v := .slice _ _ _) rfl ?_   -- extract ['t211', '0']
      refine sP (v := nv _) rfl ?_   -- extract ['t211', '1']
      refine sAs (v := .slice _ _ _) rfl ?_
      refine sAs (v := nv _) rfl ?_
      refine sNil (kSeqN ?_)
      refine cSeq ?_
      refine cRegion ?_
      refine sMv (v := nv _) rfl ?_
      refine sBin (v := .bool true) (a := 0) (b := 0) rfl rfl (eqlT rfl) ?_
      refine sMv (v := .bool _) rfl ?_
      refine sG rfl rfl ?_
      refine sMv (v := nv _) rfl ?_
      refine sG rfl rfl ?_
      refine sBin (v := .bool true) (a := 0) (b := 0) rfl rfl (eqlT rfl) ?_
      refine sP (v := .bool _) rfl ?_   -- t224 pick ['t221', 't223', '(bool false)']
      refine sMv (v := .bool _) rfl ?_
      refine sG rfl rfl ?_
      refine sMv (v := nv _) rfl ?_
      refine sG rfl rfl ?_
      refine sBin (v := .bool true) (a := 0) (b := 0) rfl rfl (eqlT rfl) ?_
      refine sP (v := .bool _) rfl ?_   -- t228 pick ['t225', 't227', '(bool false)']
      refine sMv (v := .bool _) rfl ?_
      refine sG rfl rfl ?_
      refine sMv (v := .slice _ _ _) rfl ?_
      refine sG rfl rfl ?_
      refine sMv (v := .slice _ _ _) rfl ?_
      refine sG rfl rfl ?_
      obtain ⟨v232, m232, h232, rfl, k232⟩ := spec_Eq (o208.ext e216).ints (o200.ext (e208.trans e216)).ints (by omega)
      rw [k232, decide_eq_true rfl] at h232
      refine sCall2 rfl call23 rfl rfl h232 ?_
      refine sP (v := .bool _) rfl ?_   -- t233 pick ['t229', 't232', '(bool false)']
      refine sMv (v := .bool _) rfl ?_
      refine sG rfl rfl ?_
      refine sMv (v := .slice _ _ _) rfl ?_
      refine sG rfl rfl ?_
      refine sMv (v := .slice _ _ _) rfl ?_
      refine sG rfl rfl ?_
      obtain ⟨v237, m237, h237, rfl, k237⟩ := spec_Eq o216.ints (o200.ext (e208.trans e216)).ints (by omega)
      rw [k237, decide_eq_true rfl] at h237
      refine sCall2 rfl call23 rfl rfl h237 ?_
      refine sP (v := .bool _) rfl ?_   -- t238 pick ['t234', 't237', '(bool false)']
      refine sMv (v := .bool _) rfl ?_
      refine sG rfl rfl ?_
      obtain ⟨v240, m240, h240, rfl, e240⟩ := spec_awake (hG.ext (yE.trans (((z163.trans e200).trans e208).trans e216)))
      refine sCall0 rfl call17 h240 ?_
      refine sP (v := .bool _) rfl ?_   -- t241 pick ['t239', 't240', '(bool false)']
      refine sAs (v := .bool _) rfl ?_
      refine sNil (kSeqN ?_)
      refine cRet ?_
      exact ⟨.inr rfl, _, rfl, rfl, trivial⟩

end Go.AM

/-! ### F13 -/
namespace Go.Proofs.YtgiidbomifmcaaaDoor
open Go Go.AM Go.ChangeShapes Go.WideShapes Go.ChangeAt Go.WideMaps Go.WideElems Go.RowKit
set_option maxRecDepth 100000
set_option linter.unusedVariables false
theorem own : ownKnob Tryd.prog.godebug = none := by kernel_rfl
/-- The door's own heap meets the condition: three closed facts. -/
theorem door_met (os : Os) (args : Array Value) : laidMetH Tryd.prog laid3 ((World.doorLaid Tryd.prog 400 os).forCall (fun _ _ => 0) ⟨#[], args, []⟩).memory :=
  laidMetH_of_parts3 (fuel := 8) (laidMet_of_run' 8 (by kernel_rfl) (by kernel_rfl)) (by kernel_rfl) (by kernel_rfl)
theorem lifted14 (os : Os) (started : os.Started) (H : Type) (enc : TypeId × Value → H) :
    ReturnsInHanded {} Tryd.checked os 14 .any (fun w args => (Rows.bitsInverseSpec.pre enc Tryd.prog Tryd.f14 [] false w args ∧ laidMetH Tryd.prog laid3 w) ∧ sizedMet enc Tryd.prog Tryd.f14 (OpenSpec.ofChange Rows.bitsInverseSpec) false w args)
      (Rows.bitsInverseSpec.post enc Tryd.prog Tryd.f14 false true false false) := by
  refine returnsInHanded_of_change_and (C := Tryd.checked) (X := fun w _ => laidMetH Tryd.prog laid3 w) (fun _ _ _ hh h => h.of_heap hh) own started (by kernel_rfl) Tryd.func14
    (ChangeSpec.witness_shaped (enc := enc) (C := Tryd.checked) (os := os) (X := fun w _ => laidMetH Tryd.prog laid3 w) false (World.doorLaid Tryd.prog 400 os) #[.slice none 0 0, .slice none 0 0, .int .u8 0] 8 rfl (World.shaped_of_RefB (by kernel_rfl) (by kernel_rfl)) (by kernel_rfl) (by kernel_rfl) (by kernel_rfl) (door_met os _)) ?_
  intro W base args ds gs before hval0 hW _ _ hL _
  have hval : ∀ (j : Nat) t v, Tryd.f14.params[j]? = some t → args[j]? = some v → Value.okWide Tryd.prog W .any base t v := hval0
  have hW' := hW
  obtain ⟨p, q, hA0, hV, rfl, hfz, hnd⟩ := hW
  have hA : DataW.TrodAll enc Tryd.prog W 0 (fun _ => true) true [35, 35, 5] args.toList ds p := hA0
  obtain ⟨v0, vs0, d0, ds0, p0, q0, hargs, rfl, rfl, h0, r0⟩ := trodAll_cons hA
  obtain ⟨v1, vs1, d1, ds1, p1, q1, rfl, rfl, rfl, h1, r1⟩ := trodAll_cons r0
  obtain ⟨v2, vs2, d2, ds2, p2, q2, rfl, rfl, rfl, h2, r2⟩ := trodAll_cons r1
  obtain ⟨rfl, rfl, rfl⟩ := trodAll_nil r2
  obtain rfl : args = #[v0, v1, v2] := by cases args; simp_all
  obtain ⟨rfl, rfl⟩ := trodVars_none hV
  obtain ⟨a0, l0, f0, ok0, wf0, A0⟩ := ints_arg hL u35 u5 c5 (hval 0 35 v0 rfl rfl) h0
  have lt0 : ∀ x ∈ p0, x.block < W.heap.size := by obtain ⟨m, hm⟩ := h0; exact DataW.trod_lt m _ _ _ hm
  obtain ⟨a1, l1, f1, ok1, wf1, A1⟩ := ints_arg hL u35 u5 c5 (hval 1 35 v1 rfl rfl) h1
  have lt1 : ∀ x ∈ p1, x.block < W.heap.size := by obtain ⟨m, hm⟩ := h1; exact DataW.trod_lt m _ _ _ hm
  obtain ⟨n2, rfl, rfl, rfl, w2⟩ := open_int u5 (hval 2 5 v2 rfl rfl) h2
  obtain ⟨c2, hc2, rfl⟩ := u8_nat w2
  refine (entry (args := #[f0 0, f1 1, .int .u8 (Int.ofNat c2)]) (A := [a0, a1]) hL (by intro a ha; simp only [List.mem_cons, List.not_mem_nil, or_false] at ha; rcases ha with rfl | rfl <;> assumption) (fun bm => (arel_cons ((A0 _ 0 rfl).2 bm) (arel_cons ((A1 _ 1 rfl).2 bm) (arel_cons (.int _ _) arel_nil)))) (fun b => ?_)).mono ?_
  · obtain ⟨v, m, h, hv, _⟩ := spec_BitsInverse (glob0 b _) ((A0 [a0, a1] 0 rfl).1 b) ((A1 [a0, a1] 1 rfl).1 b) hc2
    exact ⟨v, m, h, hv⟩
  · rintro e W' ⟨rfl, bel⟩
    exact ⟨_, rfl, _, _, _, [], _, [], hW', trodAll_mk1 (shut_bool u4 _), (trodAll_cons_mk (Below.trod laidOut (by kernel_rfl) (of_decide_eq_true (by kernel_rfl)) h0 bel lt0) (trodAll_cons_mk (Below.trod laidOut (by kernel_rfl) (of_decide_eq_true (by kernel_rfl)) h1 bel lt1) (trodAll_cons_mk (shut_int u5 w2) trodAll_mk0))), rfl, bel.frame _, fun h => by cases h⟩
theorem bitsInverse_holds : Rows.BitsInverseSaid :=
  OpenClaim.holds_of_wide 14 Tryd.f14 rfl rfl rfl rfl rfl rfl rfl ⟨rfl, rfl, rfl, rfl, rfl⟩ rfl rfl rfl rfl rfl (by kernel_rfl) Tryd.func14 (by kernel_rfl)
    (of_decide_eq_true (by kernel_rfl)) (by unfold Func.isWrapper; first | (rw [if_pos (by decide +kernel)]; kernel_rfl) | (rw [if_neg (by decide +kernel)]; exact ⟨rfl, rfl⟩))
    (fun os started H enc _ => lifted14 os started H enc)
theorem bitsInverseCard_holds : Rows.BitsInverseCardSaid :=
  Claim7.holds_tied_plain_at .later [] [.data, .data, .funcs] true (true, "4e90e708c3a0b8b9bd838c7bc74774a1a5a946fb69b32deeeece4d3212f6d5ce") false
    bitsInverse_holds (fun _ h => by cases h) (by kernel_rfl) (fun _ h => by cases h) bitsInverse_row_tie rfl ⟨rfl, rfl⟩ (by kernel_rfl) rfl
    (fun f fn hf hfn => by
      obtain rfl : f = 14 := Option.some.inj ((show Tryd.prog.funcNamed "spoondrift/spoondriftlaw02.BitsInverse" = some 14 by kernel_rfl).symm.trans hf) |>.symm
      obtain rfl : fn = Tryd.f14 := (Option.some.inj (Tryd.func14.symm.trans hfn)).symm
      exact ⟨by kernel_rfl, fun j t ht => by
        have hm : t ∈ [35, 35, 5] := by simpa using Array.mem_of_getElem? (show (#[35, 35, 5] : Array Nat)[j]? = some t from ht)
        have hall : ([35, 35, 5].all fun u => !Tryd.prog.wantsStandIn u) = true := by kernel_rfl
        exact (show Tryd.prog.wantsStandIn t = false by simpa using List.all_eq_true.1 hall t hm)⟩)
    (by kernel_rfl)
end Go.Proofs.YtgiidbomifmcaaaDoor
