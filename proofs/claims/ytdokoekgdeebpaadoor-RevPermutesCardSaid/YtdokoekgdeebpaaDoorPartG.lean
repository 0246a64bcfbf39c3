/- Part 7 of the proof: Plain laws, and contracts of the program's functions. -/
import Derived.Test.YtdokoekgdeebpaaDoorPartF
import Derived.WideKeyElems2
import Derived.ChangeMaps
import Derived.Test.YtdokoekgdeebpaaDoorRows
import Derived.ProofKit
import Derived.LaidMore
import Derived.LaidHandle
import Derived.OpenShut
import Derived.Stop.Joined
import Derived.Below
import Derived.Carry
import Derived.ChangeSlices
import Derived.WideShapes
set_option linter.unusedVariables false
set_option linter.unusedSimpArgs false
/-! ### R29 -/
namespace Go.AM
open Go.Proofs
set_option maxRecDepth 100000
set_option linter.unusedVariables false
set_option linter.unusedSimpArgs false
def cleanS (Gs : List (Nat × List Nat)) (mk x : Nat) : Bool := decide (x &&& mk = 0) && decide (runM Gs x &&& mk ≠ 0)
def borrS (Gs : List (Nat × List Nat)) (mk x : Nat) : Bool := decide ((runM Gs x ^^^ x) &&& mk ≠ 0) || decide (offM (runM Gs x ^^^ runM Gs (offM x mk)) mk ≠ 0)
theorem spec_Clean1X {m : Mem} {N n x p1 p2 mk : Nat} {r1 r2 : Bool} {s : Value} {cs : Array Value} {Gs : List (Nat × List Nat)} (hC : GlobC m) (hG : OwnG N m s cs Gs) (hc : CircOk n Gs) (hx : x < 2 ^ n) (g1 : Mem.get m p1 = .cells r1 #[nv mk]) (g2 : Mem.get m p2 = .cells r2 #[nv n, nv 0, s]) (hmk : mk < 2 ^ 10) : ∃ v m', ACalls Tryd.prog 104 #[nv x, .pointer (some ⟨p1, 0, none⟩), .pointer (some ⟨p2, 0, none⟩)] m v m' ∧ (v = .bool (cleanS Gs mk x) ∧ Ext m m') := by
  obtain ⟨q, cap, rfl⟩ := hG.1.len
  have h10 := hc.ten
  have hp10 : 2 ^ n ≤ 2 ^ 10 := Nat.pow_le_pow_right (by omega) h10
  have hrl := runM_lt hx hc.all
  refine wpF (args := [_, _, _]) mixed okf104 (fn := Tryd.f104) rfl rfl rfl (by simp) ?_
  refine cSeq ?_
  refine cRegion ?_
  refine sAs (v := .bool _) rfl ?_
  refine sNil (kSeqN ?_)
  refine cSeq ?_
  refine cDrawH (hs := [(1, 8), (5, 8), (8, 0)]) rfl (by decide) ?_
  refine lStepO (sMv (v := nv _) rfl (sNil fun e0 hm0 => ?_))
  refine lStepLd (v := nv mk) A3 rfl g1 rfl fun e1 hm1 hv1 hr1 => ?_
  refine lStepO (sBin (a := x) (b := mk) rfl rfl (aInt_and ⟨by omega, by omega⟩) (sNil fun e2 hm2 => ?_))
  refine lStepO (sBin (v := .bool (decide (x &&& mk = 0))) (b := 0) rfl rfl aInt_eql (sNil fun e3 hm3 => ?_))
  refine lStepO (sMv (v := .bool _) rfl (sNil fun e4 hm4 => ?_))
  by_cases h1 : x &&& mk = 0
  ·
    rw [decide_eq_true h1]
    refine lG rfl rfl ?_
    refine lStepLdA A30 S30 rfl g2 rfl fun e5 hm5 hv5 hr5 => ?_
    refine lG rfl rfl ?_
    refine lStepO (sMv (v := nv _) rfl (sNil fun e6 hm6 => ?_))
    refine lG rfl rfl ?_
    obtain ⟨v12, m12, h12, rfl, ex12⟩ := spec_run hC hG hc hx
    refine lStepO (sCall2 rfl call97 rfl rfl h12 (sNil fun e7 hm7 => ?_))
    refine lG rfl rfl ?_
    refine lStepLd (v := nv mk) A3 rfl (ex12.cells g1) rfl fun e8 hm8 hv8 hr8 => ?_
    refine lG rfl rfl ?_
    refine lStepO (sBin (a := runM Gs x) (b := mk) rfl rfl (aInt_and ⟨by omega, by omega⟩) (sNil fun e9 hm9 => ?_))
    refine lG rfl rfl ?_
    refine lStepO (sBin (a := runM Gs x &&& mk) (b := 0) rfl rfl aInt_neq (sNil fun e10 hm10 => ?_))
    refine lStepO (sP (v := .bool _) rfl (sNil fun e11 hm11 => ?_))
    refine lStepO (sAs (v := .bool _) rfl (sNil fun e12 hm12 => ?_))
    refine ⟨?_, (kSeqN ?_)⟩
    ·
      refine obl_atE (e := e1) (e' := e8) (by simp) (by rfl) (by simp) ((hr1 e8.m _ _ (by rw [hm8]; exact ex12.cells g1) (by rfl)).trans (congrArg some hv1.symm)) ?_
      refine obl_atE (e := e5) (e' := e8) (by simp) (by rfl) (by simp) ((hr5 e8.m _ (by rw [hm8]; exact ex12.cells g2)).trans (congrArg some hv5.symm)) ?_
      refine obl_atE (e := e8) (e' := e0) (by simp) (by rfl) (by simp) ((hr8 e0.m _ _ (by rw [hm0]; exact g1) (by rfl)).trans (congrArg some hv8.symm)) ?_
      trivial
    refine cRet ?_
    exact ⟨.inr rfl, _, rfl, by rw [cleanS, decide_eq_true h1]; rfl, ex12⟩
  ·
    rw [decide_eq_false h1]
    refine lGno (q' := false) rfl rfl (by simp) fun e5 hm5 hq5 => ?_
    refine lGno (q' := false) rfl rfl (by simp) fun e6 hm6 hq6 => ?_
    refine lGno (q' := false) rfl rfl (by simp) fun e7 hm7 hq7 => ?_
    refine lGno (q' := false) rfl rfl (by simp) fun e8 hm8 hq8 => ?_
    refine lGno (q' := false) rfl rfl (by simp) fun e9 hm9 hq9 => ?_
    refine lGno (q' := false) rfl rfl (by simp) fun e10 hm10 hq10 => ?_
    refine lStepO (sP (v := .bool _) rfl (sNil fun e11 hm11 => ?_))
    refine lStepO (sAs (v := .bool _) rfl (sNil fun e12 hm12 => ?_))
    refine ⟨?_, (kSeqN ?_)⟩
    ·
      refine obl_atE (e := e1) (e' := e8) (by simp) (by rfl) (by simp) ((hr1 e8.m _ _ (by rw [hm8]; exact g1) (by rfl)).trans (congrArg some hv1.symm)) ?_
      refine obl_no (e := e5) (by simp) (by rfl) rfl rfl hq5 (by simp) ?_
      refine obl_no (e := e8) (by simp) (by rfl) rfl rfl hq8 (by simp) ?_
      trivial
    refine cRet ?_
    exact ⟨.inr rfl, _, rfl, by rw [cleanS, decide_eq_false h1]; rfl, .refl _⟩
def H106r : Nat → List (Nat × Nat) := fun id => if id = 2 then [(3, 13), (8, 13), (10, 13), (14, 0)] else []
theorem okf106 : okF Tryd.prog H106r 106 27 = true := by kernel_rfl
theorem spec_Borr1 {m : Mem} {N n x p1 p2 mk : Nat} {r1 r2 : Bool} {s : Value} {cs : Array Value} {Gs : List (Nat × List Nat)} (hC : GlobC m) (hG : OwnG N m s cs Gs) (hc : CircOk n Gs) (hx : x < 2 ^ n) (g1 : Mem.get m p2 = .cells r1 #[nv mk]) (g2 : Mem.get m p1 = .cells r2 #[nv n, nv 0, s]) (hmk : mk < 2 ^ 10) : ∃ v m', ACalls Tryd.prog 106 #[nv x, .pointer (some ⟨p1, 0, none⟩), .pointer (some ⟨p2, 0, none⟩)] m v m' ∧ (v = .bool (borrS Gs mk x) ∧ Ext m m') := by
  obtain ⟨q, cap, rfl⟩ := hG.1.len
  have h10 := hc.ten
  have hp10 : 2 ^ n ≤ 2 ^ 10 := Nat.pow_le_pow_right (by omega) h10
  have hrl := runM_lt hx hc.all
  have hxl : runM Gs x ^^^ x < 2 ^ 10 := Nat.xor_lt_two_pow (by omega) (by omega)
  have hofl := offM_le x mk
  have hrl2 := runM_lt (x := offM x mk) (n := n) (Gs := Gs) (by omega) hc.all
  have hxl2 : runM Gs x ^^^ runM Gs (offM x mk) < 2 ^ 10 := Nat.xor_lt_two_pow (by omega) (by omega)
  refine wpF (args := [_, _, _]) mixed okf106 (fn := Tryd.f106) rfl rfl rfl (by simp) ?_
  refine cSeq ?_
  refine cRegion ?_
  refine sAs (v := .bool _) rfl ?_
  refine sNil (kSeqN ?_)
  refine cSeq ?_
  refine cRegion ?_
  refine sLdAll A30 S30 rfl g2 rfl ?_
  refine sMv (v := nv _) rfl ?_
  obtain ⟨v8, m8, h8, rfl, ex8⟩ := spec_run hC hG hc hx
  refine sCall2 rfl call97 rfl rfl h8 ?_
  have g1' := ex8.cells g1
  have g2' := ex8.cells g2
  refine sAs (v := nv _) rfl ?_
  refine sNil (kSeqN ?_)
  refine cSeq ?_
  refine cDrawH (hs := [(3, 13), (8, 13), (10, 13), (14, 0)]) rfl (by decide) ?_
  refine lStepO (sMv (v := nv _) rfl (sNil fun e0 hm0 => ?_))
  refine lStepO (sMv (v := nv _) rfl (sNil fun e1 hm1 => ?_))
  refine lStepO (sBin (a := runM Gs x) (b := x) rfl rfl (aInt_xor ⟨by omega, by omega⟩) (sNil fun e2 hm2 => ?_))
  refine lStepLd (v := nv mk) A3 rfl g1' rfl fun e3 hm3 hv3 hr3 => ?_
  refine lStepO (sBin (a := runM Gs x ^^^ x) (b := mk) rfl rfl (aInt_and ⟨by omega, by omega⟩) (sNil fun e4 hm4 => ?_))
  refine lStepO (sBin (a := (runM Gs x ^^^ x) &&& mk) (b := 0) rfl rfl aInt_neq (sNil fun e5 hm5 => ?_))
  refine lStepO (sMv (v := .bool _) rfl (sNil fun e6 hm6 => ?_))
  by_cases h1 : (runM Gs x ^^^ x) &&& mk ≠ 0
  ·
    rw [decide_eq_true h1]
    refine lGno (q' := true) rfl rfl (by simp) fun e7 hm7 hq7 => ?_
    refine lGno (q' := true) rfl rfl (by simp) fun e8 hm8 hq8 => ?_
    refine lGno (q' := true) rfl rfl (by simp) fun e9 hm9 hq9 => ?_
    refine lGno (q' := true) rfl rfl (by simp) fun e10 hm10 hq10 => ?_
    refine lGno (q' := true) rfl rfl (by simp) fun e11 hm11 hq11 => ?_
    refine lGno (q' := true) rfl rfl (by simp) fun e12 hm12 hq12 => ?_
    refine lGno (q' := true) rfl rfl (by simp) fun e13 hm13 hq13 => ?_
    refine lGno (q' := true) rfl rfl (by simp) fun e14 hm14 hq14 => ?_
    refine lGno (q' := true) rfl rfl (by simp) fun e15 hm15 hq15 => ?_
    refine lGno (q' := true) rfl rfl (by simp) fun e16 hm16 hq16 => ?_
    refine lStepO (sP (v := .bool _) rfl (sNil fun e17 hm17 => ?_))
    refine lStepO (sAs (v := .bool _) rfl (sNil fun e18 hm18 => ?_))
    refine ⟨?_, (kSeqN ?_)⟩
    ·
      refine obl_atE (e := e3) (e' := e13) (by simp) (by rfl) (by simp) ((hr3 e13.m _ _ (by rw [hm13]; exact g1') (by rfl)).trans (congrArg some hv3.symm)) ?_
      refine obl_no (e := e8) (by simp) (by rfl) rfl rfl hq8 (by simp) ?_
      refine obl_no (e := e10) (by simp) (by rfl) rfl rfl hq10 (by simp) ?_
      refine obl_no (e := e14) (by simp) (by rfl) rfl rfl hq14 (by simp) ?_
      trivial
    refine cRet ?_
    exact ⟨.inr rfl, _, rfl, by rw [borrS, decide_eq_true h1]; rfl, ex8⟩
  ·
    rw [decide_eq_false h1]
    refine lG rfl rfl ?_
    refine lStepO (sMv (v := nv _) rfl (sNil fun e7 hm7 => ?_))
    refine lG rfl rfl ?_
    refine lStepLdA A30 S30 rfl g2' rfl fun e8 hm8 hv8 hr8 => ?_
    refine lG rfl rfl ?_
    refine lStepO (sMv (v := nv _) rfl (sNil fun e9 hm9 => ?_))
    refine lG rfl rfl ?_
    refine lStepLd (v := nv mk) A3 rfl g1' rfl fun e10 hm10 hv10 hr10 => ?_
    refine lG rfl rfl ?_
    refine lStepO (sBin (a := x) (b := mk) rfl rfl (aInt_andNot ⟨by omega, by omega⟩) (sNil fun e11 hm11 => ?_))
    refine lG rfl rfl ?_
    obtain ⟨v12, m12, h12, rfl, ex12⟩ := spec_run (hC.ext ex8) (hG.ext ex8) hc (x := offM x mk) (by omega)
    refine lStepO (sCall2 rfl call97 rfl rfl h12 (sNil fun e12 hm12 => ?_))
    refine lG rfl rfl ?_
    refine lStepO (sBin (a := runM Gs x) (b := runM Gs (offM x mk)) rfl rfl (aInt_xor ⟨by omega, by omega⟩) (sNil fun e13 hm13 => ?_))
    refine lG rfl rfl ?_
    refine lStepLd (v := nv mk) A3 rfl (ex12.cells g1') rfl fun e14 hm14 hv14 hr14 => ?_
    refine lG rfl rfl ?_
    refine lStepO (sBin (a := runM Gs x ^^^ runM Gs (offM x mk)) (b := mk) rfl rfl (aInt_andNot ⟨by omega, by omega⟩) (sNil fun e15 hm15 => ?_))
    refine lG rfl rfl ?_
    refine lStepO (sBin (a := offM (runM Gs x ^^^ runM Gs (offM x mk)) mk) (b := 0) rfl rfl aInt_neq (sNil fun e16 hm16 => ?_))
    refine lStepO (sP (v := .bool _) rfl (sNil fun e17 hm17 => ?_))
    refine lStepO (sAs (v := .bool _) rfl (sNil fun e18 hm18 => ?_))
    refine ⟨?_, (kSeqN ?_)⟩
    ·
      refine obl_atE (e := e3) (e' := e13) (by simp) (by rfl) (by simp) ((hr3 e13.m _ _ (by rw [hm13]; exact ex12.cells g1') (by rfl)).trans (congrArg some hv3.symm)) ?_
      refine obl_atE (e := e8) (e' := e13) (by simp) (by rfl) (by simp) ((hr8 e13.m _ (by rw [hm13]; exact ex12.cells g2')).trans (congrArg some hv8.symm)) ?_
      refine obl_atE (e := e10) (e' := e13) (by simp) (by rfl) (by simp) ((hr10 e13.m _ _ (by rw [hm13]; exact ex12.cells g1') (by rfl)).trans (congrArg some hv10.symm)) ?_
      refine obl_atE (e := e14) (e' := e0) (by simp) (by rfl) (by simp) ((hr14 e0.m _ _ (by rw [hm0]; exact g1') (by rfl)).trans (congrArg some hv14.symm)) ?_
      trivial
    refine cRet ?_
    exact ⟨.inr rfl, _, rfl, by rw [borrS, decide_eq_false h1]; rfl, ex8.trans ex12⟩
theorem spec_CleanX {m : Mem} {N n : Nat} {s a : Value} {cs : Array Value} {Gs : List (Nat × List Nat)} {l : List Nat} (hC : GlobC m) (hG : OwnG N m s cs Gs) (hc : CircOk n Gs) (ha : IntsAt m a (ofs l)) (hlt : ∀ y ∈ l, y < n) (hnd : l.Nodup) : ∃ v m', ACalls Tryd.prog 46 #[.agg #[nv n, nv 0, s], a] m v m' ∧ (v = .tuple #[nv (foundN n (cleanS Gs (posM l))), nv (foundE n (cleanS Gs (posM l)))] ∧ Ext m m') := by
  obtain ⟨q, cap, rfl⟩ := hG.1.len
  obtain ⟨qa, ca, rfl⟩ := ha.lenN
  have h10 := hc.ten
  have hpl : posM l < 2 ^ 10 := posM_lt fun y hy => by have := hlt y hy; omega
  refine wpF (args := [_, _]) mixed okf46 (fn := Tryd.f46) rfl rfl rfl (by simp) ?_
  refine cSeq ?_
  refine cRegion ?_
  refine sBox (v := .agg _) rfl ?_
  change wpOps _ _ _ _ _ (m.push (.cells true #[nv n, nv 0, .slice q Gs.length cap]))
  have e1 : Ext m (m.push (.cells true #[nv n, nv 0, .slice q Gs.length cap])) := .push _ _
  have g1 : Mem.get (m.push (.cells true #[nv n, nv 0, .slice q Gs.length cap])) m.size = .cells true #[nv n, nv 0, .slice q Gs.length cap] := gP rfl
  refine sAs (v := nv 0) rfl ?_
  refine sAs (v := nv 0) rfl ?_
  refine sNil (kSeqN ?_)
  refine cSeq ?_
  refine cRegion ?_
  refine sLdAll A30 S30 rfl g1 rfl ?_
  refine sMv (v := .slice _ _ _) rfl ?_
  obtain ⟨v11, m11, h11, rfl, e11⟩ := spec_mask (hC.ext e1) (hG.ext e1) hc (ha.ext e1) hlt hnd
  refine sCall2 rfl call102 rfl rfl h11 ?_
  replace g1 := e11.cells g1
  replace e1 := e1.trans e11
  refine sMv (v := .tuple _) rfl ?_
  refine sP (v := nv _) rfl ?_   -- extract ['t8', '0']
  refine sP (v := nv _) rfl ?_   -- extract ['t8', '1']
  refine sAlloc Z3 (by kernel_rfl) ?_
  refine sStN (v := nv (posM l)) S3 rfl rfl rfl rfl rfl ?_
  have e2 : Ext m11 (m11.push (.cells true #[nv (posM l)])) := .push _ _
  have g2 : Mem.get (m11.push (.cells true #[nv (posM l)])) m11.size = .cells true #[nv (posM l)] := gP rfl
  replace g1 := e2.cells g1
  replace e1 := e1.trans e2
  refine sAs (v := nv _) rfl ?_
  refine sNil (kSeqN ?_)
  refine cSeq ?_   -- seq 2
  refine cSeq ?_
  refine cRegion ?_
  refine sMv (v := nv _) rfl ?_
  refine sBin (v := .bool false) (a := 0) (b := 0) rfl rfl (neqF rfl) ?_
  refine sNil (kSeqN ?_)
  refine cCondF rfl ?_
  refine cSkip (kSeqN ?_)
  refine cSeq ?_
  refine cRegion ?_
  refine sFA F30_0 rfl ?_
  refine sLd (v := nv n) A3 rfl g1 rfl ?_
  refine sMFc2 rfl rfl ?_
  obtain ⟨v20, m20, h20, rfl, e20⟩ := spec_foundX (m := m11.push (.cells true #[nv (posM l)])) (fid := 104) (so := cleanS Gs (posM l)) (c1 := .pointer (some ⟨m11.size, 0, none⟩)) (c2 := .pointer (some ⟨m.size, 0, none⟩)) h10 call104 fun x hx m' he => spec_Clean1X ((hC.ext e1).ext he) ((hG.ext e1).ext he) hc hx (he.cells g2) (he.cells g1) hpl
  refine sCall2 rfl call103 rfl rfl h20 ?_
  refine sP (v := nv _) rfl ?_   -- extract ['t20', '0']
  refine sP (v := nv _) rfl ?_   -- extract ['t20', '1']
  refine sAs (v := nv _) rfl ?_
  refine sAs (v := nv _) rfl ?_
  refine sNil (kSeqN ?_)
  refine cRet ?_
  exact ⟨.inr rfl, _, rfl, rfl, e1.trans e20⟩
theorem okf48 : okF Tryd.prog H0 48 23 = true := by kernel_rfl
theorem spec_BorrX {m : Mem} {N n : Nat} {s a : Value} {cs : Array Value} {Gs : List (Nat × List Nat)} {l : List Nat} (hC : GlobC m) (hG : OwnG N m s cs Gs) (hc : CircOk n Gs) (ha : IntsAt m a (ofs l)) (hlt : ∀ y ∈ l, y < n) (hnd : l.Nodup) : ∃ v m', ACalls Tryd.prog 48 #[.agg #[nv n, nv 0, s], a] m v m' ∧ (v = .tuple #[nv (foundN n (borrS Gs (posM l))), nv (foundE n (borrS Gs (posM l)))] ∧ Ext m m') := by
  obtain ⟨q, cap, rfl⟩ := hG.1.len
  obtain ⟨qa, ca, rfl⟩ := ha.lenN
  have h10 := hc.ten
  have hpl : posM l < 2 ^ 10 := posM_lt fun y hy => by have := hlt y hy; omega
  refine wpF (args := [_, _]) mixed okf48 (fn := Tryd.f48) rfl rfl rfl (by simp) ?_
  refine cSeq ?_
  refine cRegion ?_
  refine sBox (v := .agg _) rfl ?_
  change wpOps _ _ _ _ _ (m.push (.cells true #[nv n, nv 0, .slice q Gs.length cap]))
  have e1 : Ext m (m.push (.cells true #[nv n, nv 0, .slice q Gs.length cap])) := .push _ _
  have g1 : Mem.get (m.push (.cells true #[nv n, nv 0, .slice q Gs.length cap])) m.size = .cells true #[nv n, nv 0, .slice q Gs.length cap] := gP rfl
  refine sAs (v := nv 0) rfl ?_
  refine sAs (v := nv 0) rfl ?_
  refine sNil (kSeqN ?_)
  refine cSeq ?_
  refine cRegion ?_
  refine sLdAll A30 S30 rfl g1 rfl ?_
  refine sMv (v := .slice _ _ _) rfl ?_
  obtain ⟨v11, m11, h11, rfl, e11⟩ := spec_mask (hC.ext e1) (hG.ext e1) hc (ha.ext e1) hlt hnd
  refine sCall2 rfl call102 rfl rfl h11 ?_
  replace g1 := e11.cells g1
  replace e1 := e1.trans e11
  refine sMv (v := .tuple _) rfl ?_
  refine sP (v := nv _) rfl ?_   -- extract ['t8', '0']
  refine sP (v := nv _) rfl ?_   -- extract ['t8', '1']
  refine sAlloc Z3 (by kernel_rfl) ?_
  refine sStN (v := nv (posM l)) S3 rfl rfl rfl rfl rfl ?_
  have e2 : Ext m11 (m11.push (.cells true #[nv (posM l)])) := .push _ _
  have g2 : Mem.get (m11.push (.cells true #[nv (posM l)])) m11.size = .cells true #[nv (posM l)] := gP rfl
  replace g1 := e2.cells g1
  replace e1 := e1.trans e2
  refine sAs (v := nv _) rfl ?_
  refine sNil (kSeqN ?_)
  refine cSeq ?_   -- seq 2
  refine cSeq ?_
  refine cRegion ?_
  refine sMv (v := nv _) rfl ?_
  refine sBin (v := .bool false) (a := 0) (b := 0) rfl rfl (neqF rfl) ?_
  refine sNil (kSeqN ?_)
  refine cCondF rfl ?_
  refine cSkip (kSeqN ?_)
  refine cSeq ?_
  refine cRegion ?_
  refine sFA F30_0 rfl ?_
  refine sLd (v := nv n) A3 rfl g1 rfl ?_
  refine sMFc2 rfl rfl ?_
  obtain ⟨v20, m20, h20, rfl, e20⟩ := spec_foundX (m := m11.push (.cells true #[nv (posM l)])) (fid := 106) (so := borrS Gs (posM l)) (c1 := .pointer (some ⟨m.size, 0, none⟩)) (c2 := .pointer (some ⟨m11.size, 0, none⟩)) h10 call106 fun x hx m' he => spec_Borr1 ((hC.ext e1).ext he) ((hG.ext e1).ext he) hc hx (he.cells g2) (he.cells g1) hpl
  refine sCall2 rfl call103 rfl rfl h20 ?_
  refine sP (v := nv _) rfl ?_   -- extract ['t20', '0']
  refine sP (v := nv _) rfl ?_   -- extract ['t20', '1']
  refine sAs (v := nv _) rfl ?_
  refine sAs (v := nv _) rfl ?_
  refine sNil (kSeqN ?_)
  refine cRet ?_
  exact ⟨.inr rfl, _, rfl, rfl, e1.trans e20⟩
end Go.AM

/-! ### R30 -/
namespace Go.AM
open Go.Proofs
set_option maxRecDepth 100000
set_option linter.unusedVariables false
set_option linter.unusedSimpArgs false
/-- A row of given numbers. -/
theorem sRow {ρ : Env} {m : Mem} {K : Env → Mem → Prop} {ops : Array Oper} {l : List Oper} {d : Option Nat} {ty : TypeId} {pos : String} {af : Array Edge} {len : Nat} {ps : Array (Nat × Operand)} (r : List Nat) (hlen : len = r.length) (h1 : len * 1 ≤ 16777216)
    (hf : Instr.fill (fun i => some (i * 1, 1)) (if len * 1 = 0 then #[] else (Array.range (len * 1)).map ((nv 0).cells[· % (nv 0).cells.size]!)) (ps.toList.map fun p => (p.1, evR ρ p.2)) = some (cellsN r))
    (hk : ∀ q m', OwnF 0 m' (.slice q r.length r.length) (ofs r) → Ext m m' → wpOps Tryd.prog ops K l (updO ρ d (.slice q r.length r.length)) m') : wpOps Tryd.prog ops K (⟨d, .buildSlice 22 len ps, ty, pos, af, none⟩ :: l) ρ m := by
  subst hlen
  refine sBuildS T22 S3 Z3 (by decide) h1 (by decide) (by kernel_rfl) hf (by simp) ?_
  refine hk (some ⟨m.size, 0, some 1⟩) _ ?_ (.push _ _)
  have := OwnF.ofCells (N := 0) (m := m.push (.cells true (cellsN r))) (b := m.size) (l := r) (r := []) (Nat.zero_le _) (by rw [List.append_nil]; exact gP rfl)
  rw [List.append_nil] at this
  exact this
def quadsC (l : List (Nat × Value × List Nat)) : Array Value := (l.flatMap fun t => [nv t.1, t.2.1, nv 0, nv 0]).toArray
theorem quads_len (l : List (Nat × Value × List Nat)) : (l.flatMap fun t => [nv t.1, t.2.1, nv 0, nv 0]).length = l.length * 4 := by
  induction l with
  | nil => rfl
  | cons t l ih => rw [List.flatMap_cons, List.length_append, ih, List.length_cons]; simp; omega
theorem quadsC_size (l : List (Nat × Value × List Nat)) : (quadsC l).size = l.length * 4 := by unfold quadsC; rw [List.size_toArray, quads_len]
theorem CircOk.of {n : Nat} {Gs : List (Nat × List Nat)} (h : 1 ≤ n ∧ n ≤ 10 ∧ Gs.length ≤ 120 ∧ ∀ g ∈ Gs, ((g.1 = 1 ∧ g.2.length = 1) ∨ (g.1 = 9 ∧ g.2.length = 2) ∨ (g.1 = 12 ∧ g.2.length = 3)) ∧ (∀ w ∈ g.2, w < n) ∧ g.2.Nodup) : CircOk n Gs :=
  ⟨h.1, h.2.1, h.2.2.1, fun g hg => ⟨(h.2.2.2 g hg).1, (h.2.2.2 g hg).2.1, (h.2.2.2 g hg).2.2⟩⟩
theorem quads_get : ∀ (l : List (Nat × Value × List Nat)) (i : Nat) (t : Nat × Value × List Nat), l[i]? = some t → ∀ j, j < 4 → (l.flatMap fun t => [nv t.1, t.2.1, nv 0, nv 0])[i * 4 + j]? = [nv t.1, t.2.1, nv 0, nv 0][j]?
  | [], i, t, h, j, hj => by simp at h
  | a :: l, 0, t, h, j, hj => by
    obtain rfl : a = t := by simpa using h
    rw [List.flatMap_cons, List.getElem?_append_left (by simp; omega), Nat.zero_mul, Nat.zero_add]
  | a :: l, i + 1, t, h, j, hj => by
    rw [List.flatMap_cons, List.getElem?_append_right (by simp; omega)]
    have := quads_get l i t (by simpa using h) j hj
    rw [← this]; congr 1; simp; omega
theorem ownG_build {m : Mem} (l : List (Nat × Value × List Nat)) (h : ∀ t ∈ l, OwnF 0 m t.2.1 (ofs t.2.2)) : OwnG 0 (m.push (.cells true (quadsC l))) (.slice (some ⟨m.size, 0, some 4⟩) l.length l.length) (quadsC l) (l.map fun t => (t.1, t.2.2)) := by
  refine ⟨.inr ⟨m.size, l.length, quadsC l, by rw [List.length_map], Nat.zero_le _, gP rfl, by rw [List.length_map]; exact Nat.le_refl _, quadsC_size l, by rw [quadsC_size, List.length_map], fun i _ => rfl⟩, fun i g hi => ?_⟩
  rw [List.getElem?_map] at hi
  obtain ⟨t, ht, rfl⟩ := Option.map_eq_some_iff.1 hi
  have hq := quads_get l i t ht
  have ho := h t (List.mem_of_getElem? ht)
  refine ⟨t.2.1, ?_, ?_, ?_, ?_, ho.ext (.push _ _), fun b hb e => ?_⟩
  · have := hq 0 (by omega); simp [quadsC] at this ⊢; exact this
  · have := hq 1 (by omega); simp [quadsC] at this ⊢; exact this
  · have := hq 2 (by omega); simp [quadsC] at this ⊢; exact this
  · have := hq 3 (by omega); simp [quadsC] at this ⊢; exact this
  · have h1 := (ho.lt hb).2
    have e' : m.size = b := Option.some.inj e
    omega
/-- Gates that have been made. -/
theorem sGates {ρ : Env} {m : Mem} {K : Env → Mem → Prop} {ops : Array Oper} {l : List Oper} {d : Option Nat} {ty : TypeId} {pos : String} {af : Array Edge} {len : Nat} {ps : Array (Nat × Operand)} (r : List (Nat × Value × List Nat)) (hr : ∀ t ∈ r, OwnF 0 m t.2.1 (ofs t.2.2)) (hlen : len = r.length) (h1 : len * 4 ≤ 16777216)
    (hf : Instr.fill (fun i => some (i * 4, 4)) (if len * 4 = 0 then #[] else (Array.range (len * 4)).map ((Value.agg #[nv 0, .slice none 0 0, nv 0, nv 0]).cells[· % (Value.agg #[nv 0, .slice none 0 0, nv 0, nv 0]).cells.size]!)) (ps.toList.map fun p => (p.1, evR ρ p.2)) = some (quadsC r))
    (hk : ∀ q m' cs, OwnG 0 m' (.slice q r.length r.length) cs (r.map fun t => (t.1, t.2.2)) → Ext m m' → wpOps Tryd.prog ops K l (updO ρ d (.slice q r.length r.length)) m') : wpOps Tryd.prog ops K (⟨d, .buildSlice 28 len ps, ty, pos, af, none⟩ :: l) ρ m := by
  subst hlen
  refine sBuildS T28 S49 Z49 (by decide) h1 (by decide) (by kernel_rfl) hf (quadsC_size r) ?_
  exact hk (some ⟨m.size, 0, some 4⟩) _ _ (ownG_build r hr) (.push _ _)
theorem B49k {k : Nat} {q : Option Addr} {n c : Nat} : aBuild Tryd.prog 49 [(0, nv k), (1, .slice q n c)] = some (.agg #[nv k, .slice q n c, nv 0, nv 0]) := by kernel_rfl
theorem B30k {k : Nat} {q : Option Addr} {n c : Nat} : aBuild Tryd.prog 30 [(0, nv k), (2, .slice q n c)] = some (.agg #[nv k, nv 0, .slice q n c]) := by kernel_rfl
theorem B66k {k : Nat} {q : Option Addr} {n c : Nat} : aBuild Tryd.prog 66 [(0, nv k), (2, .slice q n c)] = some (.agg #[nv k, nv 0, .slice q n c]) := by kernel_rfl
theorem B66v {k : Nat} : aBuild Tryd.prog 66 [(0, nv 1), (1, nv k)] = some (.agg #[nv 1, nv k, .slice none 0 0]) := by kernel_rfl
theorem okf69 : okF Tryd.prog H0 69 8 = true := by kernel_rfl
theorem spec_lgate {m : Mem} {k n c : Nat} {q : Option Addr} : ∃ v m', ACalls Tryd.prog 69 #[nv k, .slice q n c] m v m' ∧ (v = .agg #[nv k, .slice q n c, nv 0, nv 0] ∧ Ext m m') := by
  refine wpF (args := [_, _]) mixed okf69 (fn := Tryd.f69) rfl rfl rfl (by simp) ?_
  refine cSeq ?_
  refine cRegion ?_
  refine sAlloc Z49 (by kernel_rfl) ?_
  refine sNil (kSeqN ?_)
  refine cSeq ?_
  refine cRegion ?_
  refine sMv (v := nv _) rfl ?_
  refine sMv (v := .slice _ _ _) rfl ?_
  refine sBuild B49k ?_
  refine sStAll S49 rfl rfl (gP rfl) rfl rfl (by kernel_rfl) ?_
  refine sNil (kSeqN ?_)
  refine cRet ?_
  exact ⟨.inr rfl, _, resRs_agg A49 S49 rfl (gS rfl (by simp)) rfl, rfl, (Ext.push _ _).set (Nat.le_refl _) _⟩
theorem okf68 : okF Tryd.prog H0 68 8 = true := by kernel_rfl
theorem spec_lof {m : Mem} {k n c : Nat} {q : Option Addr} : ∃ v m', ACalls Tryd.prog 68 #[nv k, .slice q n c] m v m' ∧ (v = .agg #[nv k, nv 0, .slice q n c] ∧ Ext m m') := by
  refine wpF (args := [_, _]) mixed okf68 (fn := Tryd.f68) rfl rfl rfl (by simp) ?_
  refine cSeq ?_
  refine cRegion ?_
  refine sAlloc Z30 (by kernel_rfl) ?_
  refine sNil (kSeqN ?_)
  refine cSeq ?_
  refine cRegion ?_
  refine sMv (v := nv _) rfl ?_
  refine sMv (v := .slice _ _ _) rfl ?_
  refine sBuild B30k ?_
  refine sStAll S30 rfl rfl (gP rfl) rfl rfl (by kernel_rfl) ?_
  refine sNil (kSeqN ?_)
  refine cRet ?_
  exact ⟨.inr rfl, _, resRs_agg A30 S30 rfl (gS rfl (by simp)) rfl, rfl, (Ext.push _ _).set (Nat.le_refl _) _⟩
theorem okf71 : okF Tryd.prog H0 71 8 = true := by kernel_rfl
theorem spec_lmade {m : Mem} {k n c : Nat} {q : Option Addr} : ∃ v m', ACalls Tryd.prog 71 #[nv k, .slice q n c] m v m' ∧ (v = .agg #[nv k, nv 0, .slice q n c] ∧ Ext m m') := by
  refine wpF (args := [_, _]) mixed okf71 (fn := Tryd.f71) rfl rfl rfl (by simp) ?_
  refine cSeq ?_
  refine cRegion ?_
  refine sAlloc Z66 (by kernel_rfl) ?_
  refine sNil (kSeqN ?_)
  refine cSeq ?_
  refine cRegion ?_
  refine sMv (v := nv _) rfl ?_
  refine sMv (v := .slice _ _ _) rfl ?_
  refine sBuild B66k ?_
  refine sStAll S66 rfl rfl (gP rfl) rfl rfl (by kernel_rfl) ?_
  refine sNil (kSeqN ?_)
  refine cRet ?_
  exact ⟨.inr rfl, _, resRs_agg A66 S66 rfl (gS rfl (by simp)) rfl, rfl, (Ext.push _ _).set (Nat.le_refl _) _⟩
theorem okf72 : okF Tryd.prog H0 72 5 = true := by kernel_rfl
theorem spec_lvar {m : Mem} {k : Nat} : ∃ v m', ACalls Tryd.prog 72 #[nv k] m v m' ∧ (v = .agg #[nv 1, nv k, .slice none 0 0] ∧ Ext m m') := by
  refine wpF (args := [_]) mixed okf72 (fn := Tryd.f72) rfl rfl rfl (by simp) ?_
  refine cSeq ?_
  refine cRegion ?_
  refine sAlloc Z66 (by kernel_rfl) ?_
  refine sNil (kSeqN ?_)
  refine cSeq ?_
  refine cRegion ?_
  refine sMv (v := nv _) rfl ?_
  refine sBuild B66v ?_
  refine sStAll S66 rfl rfl (gP rfl) rfl rfl (by kernel_rfl) ?_
  refine sNil (kSeqN ?_)
  refine cRet ?_
  exact ⟨.inr rfl, _, resRs_agg A66 S66 rfl (gS rfl (by simp)) rfl, rfl, (Ext.push _ _).set (Nat.le_refl _) _⟩
theorem okf70 : okF Tryd.prog H0 70 14 = true := by kernel_rfl
theorem spec_known {m : Mem} {a b : Value} {W B W' B' er : Nat} {l r : List GateV} (ha : GatesAt m a l) (hb : GatesAt m b r) (hl : l.length < 4611686018427387904) (hw : ∀ g ∈ l, g.2.1.length < 4611686018427387904) : ∃ v m', ACalls Tryd.prog 70 #[.agg #[nv W, nv B, a], nv er, .agg #[nv W', nv B', b]] m v m' ∧ (v = .bool (decide (er = 0) && decide (W = W' ∧ B = B' ∧ l = r)) ∧ Ext m m') := by
  obtain ⟨q, cap, rfl⟩ := ha.len
  obtain ⟨q', cap', rfl⟩ := hb.len
  refine wpF (args := [_, _, _]) mixed okf70 (fn := Tryd.f70) rfl rfl rfl (by simp) ?_
  refine cSeq ?_
  refine cRegion ?_
  refine sBox (v := .agg _) rfl ?_
  change wpOps _ _ _ _ _ (m.push (.cells true #[nv W, nv B, .slice q l.length cap]))
  refine sBoxB (bl := m.size + 1) (v := .agg _) (by simp) rfl ?_
  change wpOps _ _ _ _ _ ((m.push (.cells true #[nv W, nv B, .slice q l.length cap])).push (.cells true #[nv W', nv B', .slice q' r.length cap']))
  refine sAs (v := .bool _) rfl ?_
  refine sNil (kSeqN ?_)
  refine cSeq ?_
  refine cRegion ?_
  refine sMv (v := nv _) rfl ?_
  refine sBin (a := er) (b := 0) rfl rfl aInt_eql ?_
  refine sMv (v := .bool _) rfl ?_
  by_cases h0 : er = 0
  ·
    rw [decide_eq_true h0]
    refine sG rfl rfl ?_
    refine sLdAll A30 S30 rfl ((gPn (by simp)).trans (gP rfl)) rfl ?_
    refine sG rfl rfl ?_
    refine sLdAll A30 S30 rfl (gP (by simp)) rfl ?_
    refine sG rfl rfl ?_
    obtain ⟨v12, m12, h12, rfl, e12⟩ := spec_Same (W := W) (B := B) (W' := W') (B' := B') (m := (m.push (.cells true #[nv W, nv B, .slice q l.length cap])).push (.cells true #[nv W', nv B', .slice q' r.length cap'])) ((ha.ext (.push _ _)).ext (.push _ _)) ((hb.ext (.push _ _)).ext (.push _ _)) hl hw
    refine sCall2 rfl call20 rfl rfl h12 ?_
    refine sP (v := .bool _) rfl ?_
    refine sAs (v := .bool _) rfl ?_
    refine sNil (kSeqN ?_)
    refine cRet ?_
    exact ⟨.inr rfl, _, rfl, rfl, ((Ext.push _ _).trans (.push _ _)).trans e12⟩
  ·
    rw [decide_eq_false h0]
    refine sGno (q' := false) rfl rfl (by simp) ?_
    refine sGno (q' := false) rfl rfl (by simp) ?_
    refine sGno (q' := false) rfl rfl (by simp) ?_
    refine sP (v := .bool _) rfl ?_
    refine sAs (v := .bool _) rfl ?_
    refine sNil (kSeqN ?_)
    refine cRet ?_
    exact ⟨.inr rfl, _, rfl, rfl, (Ext.push _ _).trans (.push _ _)⟩
end Go.AM

/-! ### R31 -/
namespace Go.AM
open Go.Proofs
set_option maxRecDepth 100000
set_option linter.unusedVariables false
set_option linter.unusedSimpArgs false
theorem awT : rtabM 2 [(9, [0, 1])] = [0, 3, 2, 1] := by decide +kernel
theorem awA : runM [(12, [0, 1, 2])] 3 = 7 := by decide +kernel
theorem awC : circP (ofs [0, 2, 1, 3]) = [(9, [1, 0]), (9, [0, 1]), (9, [1, 0])] := by decide +kernel
theorem awY : cyclesP (ofs [0, 2, 1, 3]) = [[1, 2]] := by decide +kernel
theorem awEv : evenP (ofs [0, 2, 1, 3]) = false := by decide +kernel
theorem awWE : wideE (ofs [0, 2, 1, 3]) = 0 := by decide +kernel
theorem awWN : wideN (ofs [0, 2, 1, 3]) = 2 := by decide +kernel
theorem awCn : countV 3 2 = 102 ∧ countE 3 2 = 0 := by decide +kernel
theorem awS2 : shortE (ofs [0, 2, 1, 3]) 2 = 6 := by decide +kernel
theorem awS2n : shortN (ofs [0, 2, 1, 3]) 2 = 0 := by decide +kernel
theorem awS3 : shortE (ofs [0, 2, 1, 3]) 3 = 0 := by decide +kernel
theorem awS3n : shortN (ofs [0, 2, 1, 3]) 3 = 2 := by decide +kernel
theorem awS3l : (shortP (ofs [0, 2, 1, 3]) 3).length = 3 := by decide +kernel
theorem awF1n : foundN 2 (cleanS [(9, [0, 1])] (posM [1])) = 1 := by decide +kernel
theorem awF1e : foundE 2 (cleanS [(9, [0, 1])] (posM [1])) = 0 := by decide +kernel
theorem awF2n : foundN 2 (borrS [(9, [0, 1])] (posM [0])) = 1 := by decide +kernel
theorem awF2e : foundE 2 (borrS [(9, [0, 1])] (posM [0])) = 0 := by decide +kernel
theorem awF3n : foundN 2 (borrS [(9, [0, 1]), (9, [0, 1])] (posM [0])) = 0 := by decide +kernel
theorem awF3e : foundE 2 (borrS [(9, [0, 1]), (9, [0, 1])] (posM [0])) = 6 := by decide +kernel
def orX : BX := .mk 5 0 [.mk 1 0 [], .mk 1 1 []]
theorem awPE : cpE 2 2 orX = 0 := by decide +kernel
theorem awPN : cpN 2 2 orX = 5 := by decide +kernel
theorem awPG : cpG 2 2 orX = [(9, [0, 3]), (1, [3]), (9, [1, 4]), (1, [4]), (12, [3, 4, 2]), (1, [4]), (9, [1, 4]), (1, [3]), (9, [0, 3]), (1, [2])] := by decide +kernel
theorem c21 : CircOk 2 [(9, [0, 1])] := .of (by decide)
theorem c31 : CircOk 3 [(12, [0, 1, 2])] := .of (by decide)
theorem c174 : CircOk 2 [(9, [0, 1]), (9, [0, 1])] := .of (by decide)
theorem allS {α : Type} {p : α → Prop} {a : α} {l : List α} (hl : ∀ t ∈ l, p t) (h : p a) : ∀ t ∈ l ++ [a], p t := fun t ht => by
  rcases List.mem_append.1 ht with ht | ht
  · exact hl t ht
  · rw [List.mem_singleton.1 ht]; exact h
theorem obl3 {P : Program} {l : List Oper} {log : List Ent} {m' m0 : Mem} {hs : List (Nat × Nat)} {e17 e36 e42 : Ent} {o17 o36 o42 : Oper} (hE : ∀ e ∈ log, Ext m0 e.m) (hE' : Ext m0 m')
    (h17 : log[17]? = some e17) (l17 : l[17]? = some o17) (h36 : log[36]? = some e36) (l36 : l[36]? = some o36) (h42 : log[42]? = some e42) (l42 : l[42]? = some o42)
    (f17 : ∀ M, Ext m0 M → aRead P M (evR e17.ρ) o17.op = some e17.v) (f36 : aPure P (evR e36.ρ) o36.op = some e36.v) (f42 : ∀ M, Ext m0 M → aRead P M (evR e42.ρ) o42.op = some e42.v)
    (hh : ∀ p ∈ hs, p.1 = 17 ∨ p.1 = 36 ∨ p.1 = 42) : obl P ⟨l⟩ log m' hs := by
  refine obl_ext hE hE' fun p hp e o he ho M hM => ?_
  rcases hh p hp with h | h | h <;> rw [h] at he ho
  · rw [h17] at he; rw [l17] at ho; cases he; cases ho; exact .inl (f17 M hM)
  · rw [h36] at he; rw [l36] at ho; cases he; cases ho; exact .inr f36
  · rw [h42] at he; rw [l42] at ho; cases he; cases ho; exact .inl (f42 M hM)
theorem mem_nil {α : Type} {p : α → Prop} : ∀ t ∈ ([] : List α), p t := fun t h => by cases h
theorem mem_cons {α : Type} {p : α → Prop} {a : α} {l : List α} (h : p a) (hl : ∀ t ∈ l, p t) : ∀ t ∈ a :: l, p t := fun t ht => by
  rcases List.mem_cons.1 ht with rfl | ht
  · exact h
  · exact hl t ht
theorem orAt {m : Mem} {b : Nat} (hg : Mem.get m b = .cells true #[nv 1, nv 0, .slice none 0 0, nv 1, nv 1, .slice none 0 0]) : BAt (fun b => b < m.size) m 2 (.agg #[nv 5, nv 0, .slice (some ⟨b, 0, some 3⟩) 2 2]) orX := by
  refine ⟨_, rfl, .inr ⟨b, 0, 2, true, _, rfl, live hg, hg, fun i a hi => ?_⟩⟩
  have h1 := (List.getElem?_eq_some_iff.1 hi).1
  have hi' : i = 0 ∨ i = 1 := by have : orX.args.length = 2 := rfl; omega
  rcases hi' with rfl | rfl
  · obtain rfl : BX.mk 1 0 [] = a := by injection hi
    exact ⟨by simp, _, rfl, .inl ⟨rfl, _, _, rfl⟩⟩
  · obtain rfl : BX.mk 1 1 [] = a := by injection hi
    exact ⟨by simp, _, rfl, .inl ⟨rfl, _, _, rfl⟩⟩
def H14r : Nat → List (Nat × Nat) := fun id => if id = 8 then [(999999, 0), (17, 0), (17, 5), (17, 20), (17, 21), (17, 23), (17, 25), (17, 26), (17, 27), (17, 28), (17, 44), (17, 45), (36, 0), (36, 5), (36, 6), (36, 20), (36, 21), (36, 23), (36, 25), (36, 26), (36, 27), (36, 44), (36, 45), (42, 0), (42, 5), (42, 6), (42, 20), (42, 21), (42, 23), (42, 25), (42, 26), (42, 27), (42, 44), (42, 45)] else []
theorem okf14 : okF Tryd.prog H14r 14 218 = true := by kernel_rfl
set_option maxHeartbeats 8000000 in
theorem spec_awake {m : Mem} (hC : GlobC m) (hW : GlobW m) : ∃ v m', ACalls Tryd.prog 14 #[] m v m' ∧ (v = .bool true ∧ Ext m m') := by
  refine wpF (args := []) mixed okf14 (fn := Tryd.f14) rfl rfl rfl (by simp) ?_
  refine cSeq ?_
  refine cRegion ?_
  refine sAs (v := .bool _) rfl ?_
  refine sNil (kSeqN ?_)
  refine cSeq ?_
  refine cRegion ?_
  refine sRow [0, 1] rfl (by decide) (by kernel_rfl) fun q19 m19 o19 x19 => ?_
  obtain ⟨v20, m20, h20, rfl, x20⟩ := spec_lgate (m := m19) (k := 9) (q := q19) (n := [0, 1].length) (c := [0, 1].length)
  refine sCall2 rfl call69 rfl rfl h20 ?_
  refine sGates [(9, .slice q19 [0, 1].length [0, 1].length, [0, 1])] (mem_cons (o19.ext x20) (mem_nil)) rfl (by decide) (by kernel_rfl) fun q21 m21 cs21 o21 x21 => ?_
  replace o21 : OwnG 0 m21 (.slice q21 1 1) cs21 [(9, [0, 1])] := o21
  obtain ⟨v22, m22, h22, rfl, x22⟩ := spec_lof (m := m21) (k := 2) (q := q21) (n := 1) (c := 1)
  refine sCall2 rfl call68 rfl rfl h22 ?_
  refine sAllocB (bl := m22.size) rfl Z30 (by kernel_rfl) ?_
  refine sStNAB rfl S30 rfl rfl rfl rfl (by kernel_rfl) ?_
  have xs1 : Ext m22 (m22.push (.cells true #[nv 2, nv 0, .slice q21 1 1])) := .push _ _
  have gs1 : Mem.get (m22.push (.cells true #[nv 2, nv 0, .slice q21 1 1])) m22.size = .cells true #[nv 2, nv 0, .slice q21 1 1] := gP rfl
  generalize m22.push (.cells true #[nv 2, nv 0, .slice q21 1 1]) = ms1 at *
  refine sNil (kSeqN ?_)
  refine cSeq ?_
  refine cRegion ?_
  refine sLdAll A30 S30 rfl gs1 rfl ?_
  obtain ⟨v25, m25, h25, w25, rfl, o25, x25⟩ := spec_Table (hC.ext ((((x19.trans x20).trans x21).trans x22).trans xs1)) (o21.ext (x22.trans xs1)) c21
  rw [awT] at o25
  replace o25 := o25.mono (Nat.zero_le _)
  obtain ⟨q25, c25, rfl⟩ := o25.ints.lenN
  refine sCall1 rfl call41 rfl h25 ?_
  refine sMv (v := .tuple _) rfl ?_
  refine sP (v := .slice _ _ _) rfl ?_   -- extract ['t23', '0']
  refine sP (v := nv _) rfl ?_   -- extract ['t23', '1']
  refine sAs (v := .slice _ _ _) rfl ?_
  refine sAs (v := nv _) rfl ?_
  refine sNil (kSeqN ?_)
  refine cSeq ?_
  refine cRegion ?_
  refine sRow [0, 1, 2] rfl (by decide) (by kernel_rfl) fun q29 m29 o29 x29 => ?_
  obtain ⟨v30, m30, h30, rfl, x30⟩ := spec_lgate (m := m29) (k := 12) (q := q29) (n := [0, 1, 2].length) (c := [0, 1, 2].length)
  refine sCall2 rfl call69 rfl rfl h30 ?_
  refine sGates [(12, .slice q29 [0, 1, 2].length [0, 1, 2].length, [0, 1, 2])] (mem_cons (o29.ext x30) (mem_nil)) rfl (by decide) (by kernel_rfl) fun q31 m31 cs31 o31 x31 => ?_
  replace o31 : OwnG 0 m31 (.slice q31 1 1) cs31 [(12, [0, 1, 2])] := o31
  obtain ⟨v32, m32, h32, rfl, x32⟩ := spec_lof (m := m31) (k := 3) (q := q31) (n := 1) (c := 1)
  refine sCall2 rfl call68 rfl rfl h32 ?_
  obtain ⟨v33, m33, h33, rfl, x33⟩ := spec_Apply (hC.ext (((((((((x19.trans x20).trans x21).trans x22).trans xs1).trans x25).trans x29).trans x30).trans x31).trans x32)) (o31.ext x32) c31 (x := 3) (by decide)
  rw [awA] at h33
  refine sCall2 rfl call39 rfl rfl h33 ?_
  refine sMv (v := .tuple _) rfl ?_
  refine sP (v := nv _) rfl ?_   -- extract ['t28', '0']
  refine sP (v := nv _) rfl ?_   -- extract ['t28', '1']
  refine sAs (v := nv _) rfl ?_
  refine sAs (v := nv _) rfl ?_
  refine sNil (kSeqN ?_)
  refine cSeq ?_
  refine cRegion ?_
  refine sRow [0, 2, 1, 3] rfl (by decide) (by kernel_rfl) fun q37 m37 o37 x37 => ?_
  obtain ⟨v38, m38, h38, s38, cs38, rfl, o38, x38⟩ := spec_Circuit (p := (ofs [0, 2, 1, 3])) o37.ints (by decide)
  rw [awWE, awWN] at h38
  rw [awC] at o38
  replace o38 := o38.mono (Nat.zero_le _)
  obtain ⟨q38, c38, rfl⟩ := o38.1.len
  refine sCall1 rfl call18 rfl h38 ?_
  refine sMv (v := .tuple _) rfl ?_
  refine sP (v := .agg _) rfl ?_   -- extract ['t36', '0']
  refine sP (v := nv _) rfl ?_   -- extract ['t36', '1']
  refine sAllocB (bl := m38.size) rfl Z30 (by kernel_rfl) ?_
  refine sStNAB rfl S30 rfl rfl rfl rfl (by kernel_rfl) ?_
  have xs6 : Ext m38 (m38.push (.cells true #[nv 2, nv 0, .slice q38 3 c38])) := .push _ _
  have gs6 : Mem.get (m38.push (.cells true #[nv 2, nv 0, .slice q38 3 c38])) m38.size = .cells true #[nv 2, nv 0, .slice q38 3 c38] := gP rfl
  generalize m38.push (.cells true #[nv 2, nv 0, .slice q38 3 c38]) = ms6 at *
  refine sAs (v := nv _) rfl ?_
  refine sNil (kSeqN ?_)
  refine cSeq ?_
  refine cRegion ?_
  refine sRow [0, 2, 1, 3] rfl (by decide) (by kernel_rfl) fun q42 m42 o42 x42 => ?_
  obtain ⟨v43, m43, h43, w43, cs43, rfl, o43, x43⟩ := spec_Cycles (p := (ofs [0, 2, 1, 3])) o42.ints (by decide)
  rw [awWE] at h43
  rw [awY] at o43
  have r43 := o43.rows
  obtain ⟨b43, oo43, cp43, rr43, cd43, ee43, g43, xx43⟩ := r43.at (by decide)
  obtain ⟨s43, hs43, ha43⟩ := xx43 0 (ofs [1, 2]) rfl
  obtain ⟨q43, c43, rfl⟩ := ha43.lenN
  subst ee43
  refine sCall1 rfl call21 rfl h43 ?_
  refine sMv (v := .tuple _) rfl ?_
  refine sP (v := .slice _ _ _) rfl ?_   -- extract ['t41', '0']
  refine sP (v := nv _) rfl ?_   -- extract ['t41', '1']
  refine sAs (v := .slice _ _ _) rfl ?_
  refine sAs (v := nv _) rfl ?_
  refine sNil (kSeqN ?_)
  refine cSeq ?_
  refine cRegion ?_
  refine sRow [0, 2, 1, 3] rfl (by decide) (by kernel_rfl) fun q47 m47 o47 x47 => ?_
  obtain ⟨v48, m48, h48, rfl, x48⟩ := spec_Even (p := (ofs [0, 2, 1, 3])) o47.ints (by decide)
  rw [awEv, awWE] at h48
  refine sCall1 rfl call23 rfl h48 ?_
  refine sMv (v := .tuple _) rfl ?_
  refine sP (v := .bool _) rfl ?_   -- extract ['t46', '0']
  refine sP (v := nv _) rfl ?_   -- extract ['t46', '1']
  refine sAs (v := .bool _) rfl ?_
  refine sAs (v := nv _) rfl ?_
  refine sNil (kSeqN ?_)
  refine cSeq ?_
  refine cRegion ?_
  obtain ⟨v52, m52, h52, rfl, x52⟩ := spec_Count (m := m48) (w := 3) (g := 2)
  rw [awCn.1, awCn.2] at h52
  refine sCall2 rfl call35 rfl rfl h52 ?_
  refine sMv (v := .tuple _) rfl ?_
  refine sP (v := nv _) rfl ?_   -- extract ['t51', '0']
  refine sP (v := nv _) rfl ?_   -- extract ['t51', '1']
  refine sAs (v := nv _) rfl ?_
  refine sAs (v := nv _) rfl ?_
  refine sNil (kSeqN ?_)
  refine cSeq ?_   -- seq 8
  refine cSeq ?_
  refine cDrawH (hs := [(999999, 0), (17, 0), (17, 5), (17, 20), (17, 21), (17, 23), (17, 25), (17, 26), (17, 27), (17, 28), (17, 44), (17, 45), (36, 0), (36, 5), (36, 6), (36, 20), (36, 21), (36, 23), (36, 25), (36, 26), (36, 27), (36, 44), (36, 45), (42, 0), (42, 5), (42, 6), (42, 20), (42, 21), (42, 23), (42, 25), (42, 26), (42, 27), (42, 44), (42, 45)]) rfl (by decide) ?_
  refine lStepO (sMv (v := nv _) rfl (sNil fun e0 hm0 => ?_))
  refine lStepO (sBin (v := .bool false) (a := 0) (b := 0) rfl rfl (neqF rfl) (sNil fun e1 hm1 => ?_))
  refine lStepO (sMv (v := .bool false) rfl (sNil fun e2 hm2 => ?_))
  refine lG rfl rfl ?_
  refine lStepO (sMv (v := .slice _ _ _) rfl (sNil fun e3 hm3 => ?_))
  refine lG rfl rfl ?_
  refine lStepO (sRow [0, 3, 2, 1] rfl (by decide) (by kernel_rfl) fun q59 m59 o59 x59 => (sNil fun e4 hm4 => ?_))
  refine lG rfl rfl ?_
  have h60 := spec_Equal (o25.ints.ext (((((((((((((x29.trans x30).trans x31).trans x32).trans x33).trans x37).trans x38).trans xs6).trans x42).trans x43).trans x47).trans x48).trans x52).trans x59)) o59.ints (by decide)
  rw [decide_eq_true rfl] at h60
  refine lStepO (sCall2 rfl call28 rfl rfl h60 (sNil fun e5 hm5 => ?_))
  refine lG rfl rfl ?_
  refine lStepO (sP (v := .bool false) rfl (sNil fun e6 hm6 => ?_))
  refine lStepO (sP (v := .bool false) rfl (sNil fun e7 hm7 => ?_))
  refine lStepO (sMv (v := .bool false) rfl (sNil fun e8 hm8 => ?_))
  refine lG rfl rfl ?_
  refine lStepO (sMv (v := nv _) rfl (sNil fun e9 hm9 => ?_))
  refine lG rfl rfl ?_
  refine lStepO (sBin (v := .bool false) (a := 0) (b := 0) rfl rfl (neqF rfl) (sNil fun e10 hm10 => ?_))
  refine lStepO (sP (v := .bool false) rfl (sNil fun e11 hm11 => ?_))
  refine lStepO (sMv (v := .bool false) rfl (sNil fun e12 hm12 => ?_))
  refine lG rfl rfl ?_
  refine lStepO (sMv (v := nv _) rfl (sNil fun e13 hm13 => ?_))
  refine lG rfl rfl ?_
  refine lStepO (sBin (v := .bool false) (a := 7) (b := 7) rfl rfl (neqF rfl) (sNil fun e14 hm14 => ?_))
  refine lStepO (sP (v := .bool false) rfl (sNil fun e15 hm15 => ?_))
  refine lStepO (sMv (v := .bool false) rfl (sNil fun e16 hm16 => ?_))
  refine lG rfl rfl ?_
  refine lStepLdA A30 S30 rfl ((((((x42.trans x43).trans x47).trans x48).trans x52).trans x59).cells gs6) rfl fun e17 hm17 hv17 hr17 => ?_
  refine lG rfl rfl ?_
  refine lStepO (sMv (v := nv _) rfl (sNil fun e18 hm18 => ?_))
  refine lG rfl rfl ?_
  refine lStepO (sRow [1, 0] rfl (by decide) (by kernel_rfl) fun q74 m74 o74 x74 => (sNil fun e19 hm19 => ?_))
  refine lG rfl rfl ?_
  obtain ⟨v75, m75, h75, rfl, x75⟩ := spec_lgate (m := m74) (k := 9) (q := q74) (n := [1, 0].length) (c := [1, 0].length)
  refine lStepO (sCall2 rfl call69 rfl rfl h75 (sNil fun e20 hm20 => ?_))
  refine lG rfl rfl ?_
  refine lStepO (sRow [0, 1] rfl (by decide) (by kernel_rfl) fun q76 m76 o76 x76 => (sNil fun e21 hm21 => ?_))
  refine lG rfl rfl ?_
  obtain ⟨v77, m77, h77, rfl, x77⟩ := spec_lgate (m := m76) (k := 9) (q := q76) (n := [0, 1].length) (c := [0, 1].length)
  refine lStepO (sCall2 rfl call69 rfl rfl h77 (sNil fun e22 hm22 => ?_))
  refine lG rfl rfl ?_
  refine lStepO (sRow [1, 0] rfl (by decide) (by kernel_rfl) fun q78 m78 o78 x78 => (sNil fun e23 hm23 => ?_))
  refine lG rfl rfl ?_
  obtain ⟨v79, m79, h79, rfl, x79⟩ := spec_lgate (m := m78) (k := 9) (q := q78) (n := [1, 0].length) (c := [1, 0].length)
  refine lStepO (sCall2 rfl call69 rfl rfl h79 (sNil fun e24 hm24 => ?_))
  refine lG rfl rfl ?_
  refine lStepO (sGates [(9, .slice q74 [1, 0].length [1, 0].length, [1, 0]), (9, .slice q76 [0, 1].length [0, 1].length, [0, 1]), (9, .slice q78 [1, 0].length [1, 0].length, [1, 0])] (mem_cons (o74.ext ((((x75.trans x76).trans x77).trans x78).trans x79)) (mem_cons (o76.ext ((x77.trans x78).trans x79)) (mem_cons (o78.ext x79) (mem_nil)))) rfl (by decide) (by kernel_rfl) fun q80 m80 cs80 o80 x80 => (sNil fun e25 hm25 => ?_))
  replace o80 : OwnG 0 m80 (.slice q80 3 3) cs80 [(9, [1, 0]), (9, [0, 1]), (9, [1, 0])] := o80
  refine lG rfl rfl ?_
  obtain ⟨v81, m81, h81, rfl, x81⟩ := spec_lof (m := m80) (k := 2) (q := q80) (n := 3) (c := 3)
  refine lStepO (sCall2 rfl call68 rfl rfl h81 (sNil fun e26 hm26 => ?_))
  refine lG rfl rfl ?_
  obtain ⟨v82, m82, h82, rfl, x82⟩ := spec_known (W := 2) (B := 0) (W' := 2) (B' := 0) (er := 0) (o38.gates.ext ((((((((((((((xs6.trans x42).trans x43).trans x47).trans x48).trans x52).trans x59).trans x74).trans x75).trans x76).trans x77).trans x78).trans x79).trans x80).trans x81)) (o80.gates.ext x81) (by decide) (by decide)
  rw [show (decide ((0 : Nat) = 0) && decide (2 = 2 ∧ 0 = 0 ∧ [(9, [1, 0]), (9, [0, 1]), (9, [1, 0])].map gvM = [(9, [1, 0]), (9, [0, 1]), (9, [1, 0])].map gvM)) = true by simp] at h82
  refine lStepO (sCall3 rfl call70 rfl rfl rfl h82 (sNil fun e27 hm27 => ?_))
  refine lG rfl rfl ?_
  refine lStepO (sP (v := .bool false) rfl (sNil fun e28 hm28 => ?_))
  refine lStepO (sP (v := .bool false) rfl (sNil fun e29 hm29 => ?_))
  refine lStepO (sMv (v := .bool false) rfl (sNil fun e30 hm30 => ?_))
  refine lG rfl rfl ?_
  refine lStepO (sMv (v := nv _) rfl (sNil fun e31 hm31 => ?_))
  refine lG rfl rfl ?_
  refine lStepO (sBin (v := .bool false) (a := 0) (b := 0) rfl rfl (neqF rfl) (sNil fun e32 hm32 => ?_))
  refine lStepO (sP (v := .bool false) rfl (sNil fun e33 hm33 => ?_))
  refine lStepO (sMv (v := .bool false) rfl (sNil fun e34 hm34 => ?_))
  refine lG rfl rfl ?_
  refine lStepO (sMv (v := .slice _ _ _) rfl (sNil fun e35 hm35 => ?_))
  refine lG rfl rfl ?_
  refine lStepLen T34 rfl fun e36 hm36 hv36 hr36 => ?_
  refine lG rfl rfl ?_
  refine lStepO (sBin (v := .bool false) (a := 1) (b := 1) rfl rfl (neqF rfl) (sNil fun e37 hm37 => ?_))
  refine lStepO (sP (v := .bool false) rfl (sNil fun e38 hm38 => ?_))
  refine lStepO (sMv (v := .bool false) rfl (sNil fun e39 hm39 => ?_))
  refine lG rfl rfl ?_
  refine lStepO (sMv (v := .slice _ _ _) rfl (sNil fun e40 hm40 => ?_))
  refine lG rfl rfl ?_
  refine lStepO (sIx T34 S22 rfl rfl (show 0 < (ofs2 [[1, 2]]).length by decide) (sNil fun e41 hm41 => ?_))
  refine lG rfl rfl ?_
  refine lStepLd (v := .slice q43 [1, 2].length c43) A22 rfl (((((((((((((x47.trans x48).trans x52).trans x59).trans x74).trans x75).trans x76).trans x77).trans x78).trans x79).trans x80).trans x81).trans x82).cells g43) hs43 fun e42 hm42 hv42 hr42 => ?_
  refine lG rfl rfl ?_
  refine lStepO (sRow [1, 2] rfl (by decide) (by kernel_rfl) fun q98 m98 o98 x98 => (sNil fun e43 hm43 => ?_))
  refine lG rfl rfl ?_
  have h99 := spec_Equal (ha43.ext (((((((((((((x47.trans x48).trans x52).trans x59).trans x74).trans x75).trans x76).trans x77).trans x78).trans x79).trans x80).trans x81).trans x82).trans x98)) o98.ints (by decide)
  rw [decide_eq_true rfl] at h99
  refine lStepO (sCall2 rfl call28 rfl rfl h99 (sNil fun e44 hm44 => ?_))
  refine lG rfl rfl ?_
  refine lStepO (sP (v := .bool false) rfl (sNil fun e45 hm45 => ?_))
  refine lStepO (sP (v := .bool false) rfl (sNil fun e46 hm46 => ?_))
  refine lStepO (sMv (v := .bool false) rfl (sNil fun e47 hm47 => ?_))
  refine lG rfl rfl ?_
  refine lStepO (sMv (v := nv _) rfl (sNil fun e48 hm48 => ?_))
  refine lG rfl rfl ?_
  refine lStepO (sBin (v := .bool false) (a := 0) (b := 0) rfl rfl (neqF rfl) (sNil fun e49 hm49 => ?_))
  refine lStepO (sP (v := .bool false) rfl (sNil fun e50 hm50 => ?_))
  refine lStepO (sMv (v := .bool false) rfl (sNil fun e51 hm51 => ?_))
  refine lG rfl rfl ?_
  refine lStepO (sMv (v := .bool false) rfl (sNil fun e52 hm52 => ?_))
  refine lStepO (sP (v := .bool false) rfl (sNil fun e53 hm53 => ?_))
  refine lStepO (sMv (v := .bool false) rfl (sNil fun e54 hm54 => ?_))
  refine lG rfl rfl ?_
  refine lStepO (sMv (v := nv _) rfl (sNil fun e55 hm55 => ?_))
  refine lG rfl rfl ?_
  refine lStepO (sBin (v := .bool false) (a := 0) (b := 0) rfl rfl (neqF rfl) (sNil fun e56 hm56 => ?_))
  refine lStepO (sP (v := .bool false) rfl (sNil fun e57 hm57 => ?_))
  refine lStepO (sMv (v := .bool false) rfl (sNil fun e58 hm58 => ?_))
  refine lG rfl rfl ?_
  refine lStepO (sMv (v := nv _) rfl (sNil fun e59 hm59 => ?_))
  refine lG rfl rfl ?_
  refine lStepO (sBin (v := .bool false) (a := 102) (b := 102) rfl rfl (neqF rfl) (sNil fun e60 hm60 => ?_))
  refine lStepO (sP (v := .bool false) rfl (sNil fun e61 hm61 => ?_))
  refine ⟨?_, (kSeqN ?_)⟩
  ·
    refine obl_fl (by simp) ?_
    refine obl3 (m0 := m52) (e17 := e17) (e36 := e36) (e42 := e42) ?_ ((((((((((x59.trans x74).trans x75).trans x76).trans x77).trans x78).trans x79).trans x80).trans x81).trans x82).trans x98) (by kernel_rfl) rfl (by kernel_rfl) rfl (by kernel_rfl) rfl (fun M hM => (hr17 M _ (hM.cells (((((x42.trans x43).trans x47).trans x48).trans x52).cells gs6))).trans (congrArg some hv17.symm)) (by rw [hv36]; exact hr36) (fun M hM => (hr42 M _ _ (hM.cells (((x47.trans x48).trans x52).cells g43)) hs43).trans (congrArg some hv42.symm)) (by decide)
    refine allS ?_ (by rw [hm61]; exact ((((((((((x59.trans x74).trans x75).trans x76).trans x77).trans x78).trans x79).trans x80).trans x81).trans x82).trans x98))
    refine allS ?_ (by rw [hm60]; exact ((((((((((x59.trans x74).trans x75).trans x76).trans x77).trans x78).trans x79).trans x80).trans x81).trans x82).trans x98))
    refine allS ?_ (by rw [hm59]; exact ((((((((((x59.trans x74).trans x75).trans x76).trans x77).trans x78).trans x79).trans x80).trans x81).trans x82).trans x98))
    refine allS ?_ (by rw [hm58]; exact ((((((((((x59.trans x74).trans x75).trans x76).trans x77).trans x78).trans x79).trans x80).trans x81).trans x82).trans x98))
    refine allS ?_ (by rw [hm57]; exact ((((((((((x59.trans x74).trans x75).trans x76).trans x77).trans x78).trans x79).trans x80).trans x81).trans x82).trans x98))
    refine allS ?_ (by rw [hm56]; exact ((((((((((x59.trans x74).trans x75).trans x76).trans x77).trans x78).trans x79).trans x80).trans x81).trans x82).trans x98))
    refine allS ?_ (by rw [hm55]; exact ((((((((((x59.trans x74).trans x75).trans x76).trans x77).trans x78).trans x79).trans x80).trans x81).trans x82).trans x98))
    refine allS ?_ (by rw [hm54]; exact ((((((((((x59.trans x74).trans x75).trans x76).trans x77).trans x78).trans x79).trans x80).trans x81).trans x82).trans x98))
    refine allS ?_ (by rw [hm53]; exact ((((((((((x59.trans x74).trans x75).trans x76).trans x77).trans x78).trans x79).trans x80).trans x81).trans x82).trans x98))
    refine allS ?_ (by rw [hm52]; exact ((((((((((x59.trans x74).trans x75).trans x76).trans x77).trans x78).trans x79).trans x80).trans x81).trans x82).trans x98))
    refine allS ?_ (by rw [hm51]; exact ((((((((((x59.trans x74).trans x75).trans x76).trans x77).trans x78).trans x79).trans x80).trans x81).trans x82).trans x98))
    refine allS ?_ (by rw [hm50]; exact ((((((((((x59.trans x74).trans x75).trans x76).trans x77).trans x78).trans x79).trans x80).trans x81).trans x82).trans x98))
    refine allS ?_ (by rw [hm49]; exact ((((((((((x59.trans x74).trans x75).trans x76).trans x77).trans x78).trans x79).trans x80).trans x81).trans x82).trans x98))
    refine allS ?_ (by rw [hm48]; exact ((((((((((x59.trans x74).trans x75).trans x76).trans x77).trans x78).trans x79).trans x80).trans x81).trans x82).trans x98))
    refine allS ?_ (by rw [hm47]; exact ((((((((((x59.trans x74).trans x75).trans x76).trans x77).trans x78).trans x79).trans x80).trans x81).trans x82).trans x98))
    refine allS ?_ (by rw [hm46]; exact ((((((((((x59.trans x74).trans x75).trans x76).trans x77).trans x78).trans x79).trans x80).trans x81).trans x82).trans x98))
    refine allS ?_ (by rw [hm45]; exact ((((((((((x59.trans x74).trans x75).trans x76).trans x77).trans x78).trans x79).trans x80).trans x81).trans x82).trans x98))
    refine allS ?_ (by rw [hm44]; exact ((((((((((x59.trans x74).trans x75).trans x76).trans x77).trans x78).trans x79).trans x80).trans x81).trans x82).trans x98))
    refine allS ?_ (by rw [hm43]; exact (((((((((x59.trans x74).trans x75).trans x76).trans x77).trans x78).trans x79).trans x80).trans x81).trans x82))
    refine allS ?_ (by rw [hm42]; exact (((((((((x59.trans x74).trans x75).trans x76).trans x77).trans x78).trans x79).trans x80).trans x81).trans x82))
    refine allS ?_ (by rw [hm41]; exact (((((((((x59.trans x74).trans x75).trans x76).trans x77).trans x78).trans x79).trans x80).trans x81).trans x82))
    refine allS ?_ (by rw [hm40]; exact (((((((((x59.trans x74).trans x75).trans x76).trans x77).trans x78).trans x79).trans x80).trans x81).trans x82))
    refine allS ?_ (by rw [hm39]; exact (((((((((x59.trans x74).trans x75).trans x76).trans x77).trans x78).trans x79).trans x80).trans x81).trans x82))
    refine allS ?_ (by rw [hm38]; exact (((((((((x59.trans x74).trans x75).trans x76).trans x77).trans x78).trans x79).trans x80).trans x81).trans x82))
    refine allS ?_ (by rw [hm37]; exact (((((((((x59.trans x74).trans x75).trans x76).trans x77).trans x78).trans x79).trans x80).trans x81).trans x82))
    refine allS ?_ (by rw [hm36]; exact (((((((((x59.trans x74).trans x75).trans x76).trans x77).trans x78).trans x79).trans x80).trans x81).trans x82))
    refine allS ?_ (by rw [hm35]; exact (((((((((x59.trans x74).trans x75).trans x76).trans x77).trans x78).trans x79).trans x80).trans x81).trans x82))
    refine allS ?_ (by rw [hm34]; exact (((((((((x59.trans x74).trans x75).trans x76).trans x77).trans x78).trans x79).trans x80).trans x81).trans x82))
    refine allS ?_ (by rw [hm33]; exact (((((((((x59.trans x74).trans x75).trans x76).trans x77).trans x78).trans x79).trans x80).trans x81).trans x82))
    refine allS ?_ (by rw [hm32]; exact (((((((((x59.trans x74).trans x75).trans x76).trans x77).trans x78).trans x79).trans x80).trans x81).trans x82))
    refine allS ?_ (by rw [hm31]; exact (((((((((x59.trans x74).trans x75).trans x76).trans x77).trans x78).trans x79).trans x80).trans x81).trans x82))
    refine allS ?_ (by rw [hm30]; exact (((((((((x59.trans x74).trans x75).trans x76).trans x77).trans x78).trans x79).trans x80).trans x81).trans x82))
    refine allS ?_ (by rw [hm29]; exact (((((((((x59.trans x74).trans x75).trans x76).trans x77).trans x78).trans x79).trans x80).trans x81).trans x82))
    refine allS ?_ (by rw [hm28]; exact (((((((((x59.trans x74).trans x75).trans x76).trans x77).trans x78).trans x79).trans x80).trans x81).trans x82))
    refine allS ?_ (by rw [hm27]; exact ((((((((x59.trans x74).trans x75).trans x76).trans x77).trans x78).trans x79).trans x80).trans x81))
    refine allS ?_ (by rw [hm26]; exact (((((((x59.trans x74).trans x75).trans x76).trans x77).trans x78).trans x79).trans x80))
    refine allS ?_ (by rw [hm25]; exact ((((((x59.trans x74).trans x75).trans x76).trans x77).trans x78).trans x79))
    refine allS ?_ (by rw [hm24]; exact (((((x59.trans x74).trans x75).trans x76).trans x77).trans x78))
    refine allS ?_ (by rw [hm23]; exact ((((x59.trans x74).trans x75).trans x76).trans x77))
    refine allS ?_ (by rw [hm22]; exact (((x59.trans x74).trans x75).trans x76))
    refine allS ?_ (by rw [hm21]; exact ((x59.trans x74).trans x75))
    refine allS ?_ (by rw [hm20]; exact (x59.trans x74))
    refine allS ?_ (by rw [hm19]; exact x59)
    refine allS ?_ (by rw [hm18]; exact x59)
    refine allS ?_ (by rw [hm17]; exact x59)
    refine allS ?_ (by rw [hm16]; exact x59)
    refine allS ?_ (by rw [hm15]; exact x59)
    refine allS ?_ (by rw [hm14]; exact x59)
    refine allS ?_ (by rw [hm13]; exact x59)
    refine allS ?_ (by rw [hm12]; exact x59)
    refine allS ?_ (by rw [hm11]; exact x59)
    refine allS ?_ (by rw [hm10]; exact x59)
    refine allS ?_ (by rw [hm9]; exact x59)
    refine allS ?_ (by rw [hm8]; exact x59)
    refine allS ?_ (by rw [hm7]; exact x59)
    refine allS ?_ (by rw [hm6]; exact x59)
    refine allS ?_ (by rw [hm5]; exact x59)
    refine allS ?_ (by rw [hm4]; exact .refl _)
    refine allS ?_ (by rw [hm3]; exact .refl _)
    refine allS ?_ (by rw [hm2]; exact .refl _)
    refine allS ?_ (by rw [hm1]; exact .refl _)
    refine allS ?_ (by rw [hm0]; exact .refl _)
    exact fun e h => by cases h
  refine cCondF rfl ?_
  refine cSkip (kSeqN ?_)
  refine cSeq ?_
  refine cRegion ?_
  refine sRow [0, 2, 1, 3] rfl (by decide) (by kernel_rfl) fun q118 m118 o118 x118 => ?_
  obtain ⟨v119, m119, h119, s119, cs119, rfl, o119, x119⟩ := spec_Shortest (p := (ofs [0, 2, 1, 3])) (most := 2) o118.ints (by decide)
  rw [awS2, awS2n] at h119
  obtain ⟨q119, c119, rfl⟩ := o119.1.len
  refine sCall2 rfl call29 rfl rfl h119 ?_
  refine sMv (v := .tuple _) rfl ?_
  refine sP (v := .agg _) rfl ?_   -- extract ['t117', '0']
  refine sP (v := nv _) rfl ?_   -- extract ['t117', '1']
  refine sAs (v := nv _) rfl ?_
  refine sNil (kSeqN ?_)
  refine cSeq ?_
  refine cRegion ?_
  refine sRow [0, 2, 1, 3] rfl (by decide) (by kernel_rfl) fun q123 m123 o123 x123 => ?_
  obtain ⟨v124, m124, h124, s124, cs124, rfl, o124, x124⟩ := spec_Shortest (p := (ofs [0, 2, 1, 3])) (most := 3) o123.ints (by decide)
  rw [awS3, awS3n] at h124
  obtain ⟨q124, c124, rfl⟩ := o124.1.len
  rw [awS3l] at h124
  refine sCall2 rfl call29 rfl rfl h124 ?_
  refine sMv (v := .tuple _) rfl ?_
  refine sP (v := .agg _) rfl ?_   -- extract ['t122', '0']
  refine sP (v := nv _) rfl ?_   -- extract ['t122', '1']
  refine sAllocB (bl := m124.size) rfl Z30 (by kernel_rfl) ?_
  refine sStNAB rfl S30 rfl rfl rfl rfl (by kernel_rfl) ?_
  have xs14 : Ext m124 (m124.push (.cells true #[nv 2, nv 0, .slice q124 3 c124])) := .push _ _
  have gs14 : Mem.get (m124.push (.cells true #[nv 2, nv 0, .slice q124 3 c124])) m124.size = .cells true #[nv 2, nv 0, .slice q124 3 c124] := gP rfl
  generalize m124.push (.cells true #[nv 2, nv 0, .slice q124 3 c124]) = ms14 at *
  refine sAs (v := nv _) rfl ?_
  refine sNil (kSeqN ?_)
  refine cSeq ?_
  refine cRegion ?_
  obtain ⟨v128, m128, h128, rfl, x128⟩ := spec_lvar (m := ms14) (k := 0)
  refine sCall1 rfl call72 rfl h128 ?_
  obtain ⟨v129, m129, h129, rfl, x129⟩ := spec_lvar (m := m128) (k := 1)
  refine sCall1 rfl call72 rfl h129 ?_
  refine sBuildS (c := #[nv 1, nv 0, .slice none 0 0, nv 1, nv 1, .slice none 0 0]) T64 S66 Z66 (by decide) (by decide) (by decide) (by kernel_rfl) (by kernel_rfl) rfl ?_
  have x130 : Ext m129 (m129.push (.cells true #[nv 1, nv 0, .slice none 0 0, nv 1, nv 1, .slice none 0 0])) := .push _ _
  have g130 : Mem.get (m129.push (.cells true #[nv 1, nv 0, .slice none 0 0, nv 1, nv 1, .slice none 0 0])) m129.size = .cells true #[nv 1, nv 0, .slice none 0 0, nv 1, nv 1, .slice none 0 0] := gP rfl
  generalize m129.push (.cells true #[nv 1, nv 0, .slice none 0 0, nv 1, nv 1, .slice none 0 0]) = m130 at *
  obtain ⟨v131, m131, h131, rfl, x131⟩ := spec_lmade (m := m130) (k := 5) (q := some ⟨m129.size, 0, some 3⟩) (n := 2) (c := 2)
  refine sCall2 rfl call71 rfl rfl h131 ?_
  obtain ⟨v132, m132, h132, s132, cs132, rfl, o132, x132⟩ := spec_Compile 2 2 (hW.ext ((((((((((((((((((((((((((((((((((((((x19.trans x20).trans x21).trans x22).trans xs1).trans x25).trans x29).trans x30).trans x31).trans x32).trans x33).trans x37).trans x38).trans xs6).trans x42).trans x43).trans x47).trans x48).trans x52).trans x59).trans x74).trans x75).trans x76).trans x77).trans x78).trans x79).trans x80).trans x81).trans x82).trans x98).trans x118).trans x119).trans x123).trans x124).trans xs14).trans x128).trans x129).trans x130).trans x131)) (orAt (x131.cells g130)) (by decide)
  rw [awPE, awPN] at h132
  rw [awPG] at o132
  replace o132 := o132.mono (Nat.zero_le _)
  obtain ⟨q132, c132, rfl⟩ := o132.1.len
  refine sCall2 rfl call55 rfl rfl h132 ?_
  refine sMv (v := .tuple _) rfl ?_
  refine sP (v := .agg _) rfl ?_   -- extract ['t127', '0']
  refine sP (v := nv _) rfl ?_   -- extract ['t127', '1']
  refine sAllocB (bl := m132.size) rfl Z30 (by kernel_rfl) ?_
  refine sStNAB rfl S30 rfl rfl rfl rfl (by kernel_rfl) ?_
  have xs15 : Ext m132 (m132.push (.cells true #[nv 5, nv 0, .slice q132 10 c132])) := .push _ _
  have gs15 : Mem.get (m132.push (.cells true #[nv 5, nv 0, .slice q132 10 c132])) m132.size = .cells true #[nv 5, nv 0, .slice q132 10 c132] := gP rfl
  generalize m132.push (.cells true #[nv 5, nv 0, .slice q132 10 c132]) = ms15 at *
  refine sAs (v := nv _) rfl ?_
  refine sNil (kSeqN ?_)
  refine cSeq ?_
  refine cRegion ?_
  refine sRow [0, 3] rfl (by decide) (by kernel_rfl) fun q135 m135 o135 x135 => ?_
  obtain ⟨v136, m136, h136, rfl, x136⟩ := spec_lgate (m := m135) (k := 9) (q := q135) (n := [0, 3].length) (c := [0, 3].length)
  refine sCall2 rfl call69 rfl rfl h136 ?_
  refine sRow [3] rfl (by decide) (by kernel_rfl) fun q137 m137 o137 x137 => ?_
  obtain ⟨v138, m138, h138, rfl, x138⟩ := spec_lgate (m := m137) (k := 1) (q := q137) (n := [3].length) (c := [3].length)
  refine sCall2 rfl call69 rfl rfl h138 ?_
  refine sRow [1, 4] rfl (by decide) (by kernel_rfl) fun q139 m139 o139 x139 => ?_
  obtain ⟨v140, m140, h140, rfl, x140⟩ := spec_lgate (m := m139) (k := 9) (q := q139) (n := [1, 4].length) (c := [1, 4].length)
  refine sCall2 rfl call69 rfl rfl h140 ?_
  refine sRow [4] rfl (by decide) (by kernel_rfl) fun q141 m141 o141 x141 => ?_
  obtain ⟨v142, m142, h142, rfl, x142⟩ := spec_lgate (m := m141) (k := 1) (q := q141) (n := [4].length) (c := [4].length)
  refine sCall2 rfl call69 rfl rfl h142 ?_
  refine sRow [3, 4, 2] rfl (by decide) (by kernel_rfl) fun q143 m143 o143 x143 => ?_
  obtain ⟨v144, m144, h144, rfl, x144⟩ := spec_lgate (m := m143) (k := 12) (q := q143) (n := [3, 4, 2].length) (c := [3, 4, 2].length)
  refine sCall2 rfl call69 rfl rfl h144 ?_
  refine sRow [4] rfl (by decide) (by kernel_rfl) fun q145 m145 o145 x145 => ?_
  obtain ⟨v146, m146, h146, rfl, x146⟩ := spec_lgate (m := m145) (k := 1) (q := q145) (n := [4].length) (c := [4].length)
  refine sCall2 rfl call69 rfl rfl h146 ?_
  refine sRow [1, 4] rfl (by decide) (by kernel_rfl) fun q147 m147 o147 x147 => ?_
  obtain ⟨v148, m148, h148, rfl, x148⟩ := spec_lgate (m := m147) (k := 9) (q := q147) (n := [1, 4].length) (c := [1, 4].length)
  refine sCall2 rfl call69 rfl rfl h148 ?_
  refine sRow [3] rfl (by decide) (by kernel_rfl) fun q149 m149 o149 x149 => ?_
  obtain ⟨v150, m150, h150, rfl, x150⟩ := spec_lgate (m := m149) (k := 1) (q := q149) (n := [3].length) (c := [3].length)
  refine sCall2 rfl call69 rfl rfl h150 ?_
  refine sRow [0, 3] rfl (by decide) (by kernel_rfl) fun q151 m151 o151 x151 => ?_
  obtain ⟨v152, m152, h152, rfl, x152⟩ := spec_lgate (m := m151) (k := 9) (q := q151) (n := [0, 3].length) (c := [0, 3].length)
  refine sCall2 rfl call69 rfl rfl h152 ?_
  refine sRow [2] rfl (by decide) (by kernel_rfl) fun q153 m153 o153 x153 => ?_
  obtain ⟨v154, m154, h154, rfl, x154⟩ := spec_lgate (m := m153) (k := 1) (q := q153) (n := [2].length) (c := [2].length)
  refine sCall2 rfl call69 rfl rfl h154 ?_
  refine sGates [(9, .slice q135 [0, 3].length [0, 3].length, [0, 3]), (1, .slice q137 [3].length [3].length, [3]), (9, .slice q139 [1, 4].length [1, 4].length, [1, 4]), (1, .slice q141 [4].length [4].length, [4]), (12, .slice q143 [3, 4, 2].length [3, 4, 2].length, [3, 4, 2]), (1, .slice q145 [4].length [4].length, [4]), (9, .slice q147 [1, 4].length [1, 4].length, [1, 4]), (1, .slice q149 [3].length [3].length, [3]), (9, .slice q151 [0, 3].length [0, 3].length, [0, 3]), (1, .slice q153 [2].length [2].length, [2])] (mem_cons (o135.ext ((((((((((((((((((x136.trans x137).trans x138).trans x139).trans x140).trans x141).trans x142).trans x143).trans x144).trans x145).trans x146).trans x147).trans x148).trans x149).trans x150).trans x151).trans x152).trans x153).trans x154)) (mem_cons (o137.ext ((((((((((((((((x138.trans x139).trans x140).trans x141).trans x142).trans x143).trans x144).trans x145).trans x146).trans x147).trans x148).trans x149).trans x150).trans x151).trans x152).trans x153).trans x154)) (mem_cons (o139.ext ((((((((((((((x140.trans x141).trans x142).trans x143).trans x144).trans x145).trans x146).trans x147).trans x148).trans x149).trans x150).trans x151).trans x152).trans x153).trans x154)) (mem_cons (o141.ext ((((((((((((x142.trans x143).trans x144).trans x145).trans x146).trans x147).trans x148).trans x149).trans x150).trans x151).trans x152).trans x153).trans x154)) (mem_cons (o143.ext ((((((((((x144.trans x145).trans x146).trans x147).trans x148).trans x149).trans x150).trans x151).trans x152).trans x153).trans x154)) (mem_cons (o145.ext ((((((((x146.trans x147).trans x148).trans x149).trans x150).trans x151).trans x152).trans x153).trans x154)) (mem_cons (o147.ext ((((((x148.trans x149).trans x150).trans x151).trans x152).trans x153).trans x154)) (mem_cons (o149.ext ((((x150.trans x151).trans x152).trans x153).trans x154)) (mem_cons (o151.ext ((x152.trans x153).trans x154)) (mem_cons (o153.ext x154) (mem_nil))))))))))) rfl (by decide) (by kernel_rfl) fun q155 m155 cs155 o155 x155 => ?_
  replace o155 : OwnG 0 m155 (.slice q155 10 10) cs155 [(9, [0, 3]), (1, [3]), (9, [1, 4]), (1, [4]), (12, [3, 4, 2]), (1, [4]), (9, [1, 4]), (1, [3]), (9, [0, 3]), (1, [2])] := o155
  obtain ⟨v156, m156, h156, rfl, x156⟩ := spec_lof (m := m155) (k := 5) (q := q155) (n := 10) (c := 10)
  refine sCall2 rfl call68 rfl rfl h156 ?_
  refine sAllocB (bl := m156.size) rfl Z30 (by kernel_rfl) ?_
  refine sStNAB rfl S30 rfl rfl rfl rfl (by kernel_rfl) ?_
  have xs16 : Ext m156 (m156.push (.cells true #[nv 5, nv 0, .slice q155 10 10])) := .push _ _
  have gs16 : Mem.get (m156.push (.cells true #[nv 5, nv 0, .slice q155 10 10])) m156.size = .cells true #[nv 5, nv 0, .slice q155 10 10] := gP rfl
  generalize m156.push (.cells true #[nv 5, nv 0, .slice q155 10 10]) = ms16 at *
  refine sNil (kSeqN ?_)
  refine cSeq ?_
  refine cRegion ?_
  refine sLdAll A30 S30 rfl (((((((((((((((((((((((((((((((((((((((((((((((((((((((((((x25.trans x29).trans x30).trans x31).trans x32).trans x33).trans x37).trans x38).trans xs6).trans x42).trans x43).trans x47).trans x48).trans x52).trans x59).trans x74).trans x75).trans x76).trans x77).trans x78).trans x79).trans x80).trans x81).trans x82).trans x98).trans x118).trans x119).trans x123).trans x124).trans xs14).trans x128).trans x129).trans x130).trans x131).trans x132).trans xs15).trans x135).trans x136).trans x137).trans x138).trans x139).trans x140).trans x141).trans x142).trans x143).trans x144).trans x145).trans x146).trans x147).trans x148).trans x149).trans x150).trans x151).trans x152).trans x153).trans x154).trans x155).trans x156).trans xs16).cells gs1) rfl ?_
  refine sRow [1] rfl (by decide) (by kernel_rfl) fun q159 m159 o159 x159 => ?_
  obtain ⟨v160, m160, h160, rfl, x160⟩ := spec_CleanX (hC.ext ((((((((((((((((((((((((((((((((((((((((((((((((((((((((((((((((x19.trans x20).trans x21).trans x22).trans xs1).trans x25).trans x29).trans x30).trans x31).trans x32).trans x33).trans x37).trans x38).trans xs6).trans x42).trans x43).trans x47).trans x48).trans x52).trans x59).trans x74).trans x75).trans x76).trans x77).trans x78).trans x79).trans x80).trans x81).trans x82).trans x98).trans x118).trans x119).trans x123).trans x124).trans xs14).trans x128).trans x129).trans x130).trans x131).trans x132).trans xs15).trans x135).trans x136).trans x137).trans x138).trans x139).trans x140).trans x141).trans x142).trans x143).trans x144).trans x145).trans x146).trans x147).trans x148).trans x149).trans x150).trans x151).trans x152).trans x153).trans x154).trans x155).trans x156).trans xs16).trans x159)) (o21.ext (((((((((((((((((((((((((((((((((((((((((((((((((((((((((((((x22.trans xs1).trans x25).trans x29).trans x30).trans x31).trans x32).trans x33).trans x37).trans x38).trans xs6).trans x42).trans x43).trans x47).trans x48).trans x52).trans x59).trans x74).trans x75).trans x76).trans x77).trans x78).trans x79).trans x80).trans x81).trans x82).trans x98).trans x118).trans x119).trans x123).trans x124).trans xs14).trans x128).trans x129).trans x130).trans x131).trans x132).trans xs15).trans x135).trans x136).trans x137).trans x138).trans x139).trans x140).trans x141).trans x142).trans x143).trans x144).trans x145).trans x146).trans x147).trans x148).trans x149).trans x150).trans x151).trans x152).trans x153).trans x154).trans x155).trans x156).trans xs16).trans x159)) c21 o159.ints (by decide) (by decide)
  rw [awF1n, awF1e] at h160
  refine sCall2 rfl call46 rfl rfl h160 ?_
  refine sMv (v := .tuple _) rfl ?_
  refine sP (v := nv _) rfl ?_   -- extract ['t157', '0']
  refine sP (v := nv _) rfl ?_   -- extract ['t157', '1']
  refine sAs (v := nv _) rfl ?_
  refine sAs (v := nv _) rfl ?_
  refine sNil (kSeqN ?_)
  refine cSeq ?_
  refine cRegion ?_
  refine sLdAll A30 S30 rfl (((((((((((((((((((((((((((((((((((((((((((((((((((((((((((((x25.trans x29).trans x30).trans x31).trans x32).trans x33).trans x37).trans x38).trans xs6).trans x42).trans x43).trans x47).trans x48).trans x52).trans x59).trans x74).trans x75).trans x76).trans x77).trans x78).trans x79).trans x80).trans x81).trans x82).trans x98).trans x118).trans x119).trans x123).trans x124).trans xs14).trans x128).trans x129).trans x130).trans x131).trans x132).trans xs15).trans x135).trans x136).trans x137).trans x138).trans x139).trans x140).trans x141).trans x142).trans x143).trans x144).trans x145).trans x146).trans x147).trans x148).trans x149).trans x150).trans x151).trans x152).trans x153).trans x154).trans x155).trans x156).trans xs16).trans x159).trans x160).cells gs1) rfl ?_
  refine sRow [0] rfl (by decide) (by kernel_rfl) fun q165 m165 o165 x165 => ?_
  obtain ⟨v166, m166, h166, rfl, x166⟩ := spec_BorrX (hC.ext ((((((((((((((((((((((((((((((((((((((((((((((((((((((((((((((((((x19.trans x20).trans x21).trans x22).trans xs1).trans x25).trans x29).trans x30).trans x31).trans x32).trans x33).trans x37).trans x38).trans xs6).trans x42).trans x43).trans x47).trans x48).trans x52).trans x59).trans x74).trans x75).trans x76).trans x77).trans x78).trans x79).trans x80).trans x81).trans x82).trans x98).trans x118).trans x119).trans x123).trans x124).trans xs14).trans x128).trans x129).trans x130).trans x131).trans x132).trans xs15).trans x135).trans x136).trans x137).trans x138).trans x139).trans x140).trans x141).trans x142).trans x143).trans x144).trans x145).trans x146).trans x147).trans x148).trans x149).trans x150).trans x151).trans x152).trans x153).trans x154).trans x155).trans x156).trans xs16).trans x159).trans x160).trans x165)) (o21.ext (((((((((((((((((((((((((((((((((((((((((((((((((((((((((((((((x22.trans xs1).trans x25).trans x29).trans x30).trans x31).trans x32).trans x33).trans x37).trans x38).trans xs6).trans x42).trans x43).trans x47).trans x48).trans x52).trans x59).trans x74).trans x75).trans x76).trans x77).trans x78).trans x79).trans x80).trans x81).trans x82).trans x98).trans x118).trans x119).trans x123).trans x124).trans xs14).trans x128).trans x129).trans x130).trans x131).trans x132).trans xs15).trans x135).trans x136).trans x137).trans x138).trans x139).trans x140).trans x141).trans x142).trans x143).trans x144).trans x145).trans x146).trans x147).trans x148).trans x149).trans x150).trans x151).trans x152).trans x153).trans x154).trans x155).trans x156).trans xs16).trans x159).trans x160).trans x165)) c21 o165.ints (by decide) (by decide)
  rw [awF2n, awF2e] at h166
  refine sCall2 rfl call48 rfl rfl h166 ?_
  refine sMv (v := .tuple _) rfl ?_
  refine sP (v := nv _) rfl ?_   -- extract ['t163', '0']
  refine sP (v := nv _) rfl ?_   -- extract ['t163', '1']
  refine sAs (v := nv _) rfl ?_
  refine sAs (v := nv _) rfl ?_
  refine sNil (kSeqN ?_)
  refine cSeq ?_
  refine cRegion ?_
  refine sRow [0, 1] rfl (by decide) (by kernel_rfl) fun q170 m170 o170 x170 => ?_
  obtain ⟨v171, m171, h171, rfl, x171⟩ := spec_lgate (m := m170) (k := 9) (q := q170) (n := [0, 1].length) (c := [0, 1].length)
  refine sCall2 rfl call69 rfl rfl h171 ?_
  refine sRow [0, 1] rfl (by decide) (by kernel_rfl) fun q172 m172 o172 x172 => ?_
  obtain ⟨v173, m173, h173, rfl, x173⟩ := spec_lgate (m := m172) (k := 9) (q := q172) (n := [0, 1].length) (c := [0, 1].length)
  refine sCall2 rfl call69 rfl rfl h173 ?_
  refine sGates [(9, .slice q170 [0, 1].length [0, 1].length, [0, 1]), (9, .slice q172 [0, 1].length [0, 1].length, [0, 1])] (mem_cons (o170.ext ((x171.trans x172).trans x173)) (mem_cons (o172.ext x173) (mem_nil))) rfl (by decide) (by kernel_rfl) fun q174 m174 cs174 o174 x174 => ?_
  replace o174 : OwnG 0 m174 (.slice q174 2 2) cs174 [(9, [0, 1]), (9, [0, 1])] := o174
  obtain ⟨v175, m175, h175, rfl, x175⟩ := spec_lof (m := m174) (k := 2) (q := q174) (n := 2) (c := 2)
  refine sCall2 rfl call68 rfl rfl h175 ?_
  refine sRow [0] rfl (by decide) (by kernel_rfl) fun q176 m176 o176 x176 => ?_
  obtain ⟨v177, m177, h177, rfl, x177⟩ := spec_BorrX (hC.ext ((((((((((((((((((((((((((((((((((((((((((((((((((((((((((((((((((((((((((x19.trans x20).trans x21).trans x22).trans xs1).trans x25).trans x29).trans x30).trans x31).trans x32).trans x33).trans x37).trans x38).trans xs6).trans x42).trans x43).trans x47).trans x48).trans x52).trans x59).trans x74).trans x75).trans x76).trans x77).trans x78).trans x79).trans x80).trans x81).trans x82).trans x98).trans x118).trans x119).trans x123).trans x124).trans xs14).trans x128).trans x129).trans x130).trans x131).trans x132).trans xs15).trans x135).trans x136).trans x137).trans x138).trans x139).trans x140).trans x141).trans x142).trans x143).trans x144).trans x145).trans x146).trans x147).trans x148).trans x149).trans x150).trans x151).trans x152).trans x153).trans x154).trans x155).trans x156).trans xs16).trans x159).trans x160).trans x165).trans x166).trans x170).trans x171).trans x172).trans x173).trans x174).trans x175).trans x176)) (o174.ext (x175.trans x176)) c174 o176.ints (by decide) (by decide)
  rw [awF3n, awF3e] at h177
  refine sCall2 rfl call48 rfl rfl h177 ?_
  refine sMv (v := .tuple _) rfl ?_
  refine sP (v := nv _) rfl ?_   -- extract ['t169', '0']
  refine sP (v := nv _) rfl ?_   -- extract ['t169', '1']
  refine sAs (v := nv _) rfl ?_
  refine sNil (kSeqN ?_)
  refine cSeq ?_
  refine cRegion ?_
  refine sMv (v := nv _) rfl ?_
  refine sBin (v := .bool true) (a := 6) (b := 6) rfl rfl (eqlT rfl) ?_
  refine sMv (v := .bool true) rfl ?_
  refine sG rfl rfl ?_
  refine sMv (v := nv _) rfl ?_
  refine sG rfl rfl ?_
  refine sBin (v := .bool true) (a := 0) (b := 0) rfl rfl (eqlT rfl) ?_
  refine sP (v := .bool true) rfl ?_
  refine sMv (v := .bool true) rfl ?_
  refine sG rfl rfl ?_
  refine sFA F30_2 rfl ?_
  refine sG rfl rfl ?_
  refine sLd (v := .slice q124 3 c124) A28 rfl (((((((((((((((((((((((((((((((((((((((((x128.trans x129).trans x130).trans x131).trans x132).trans xs15).trans x135).trans x136).trans x137).trans x138).trans x139).trans x140).trans x141).trans x142).trans x143).trans x144).trans x145).trans x146).trans x147).trans x148).trans x149).trans x150).trans x151).trans x152).trans x153).trans x154).trans x155).trans x156).trans xs16).trans x159).trans x160).trans x165).trans x166).trans x170).trans x171).trans x172).trans x173).trans x174).trans x175).trans x176).trans x177).cells gs14) rfl ?_
  refine sG rfl rfl ?_
  refine sLen T28 rfl ?_
  refine sG rfl rfl ?_
  refine sBin (v := .bool true) (a := 3) (b := 3) rfl rfl (eqlT rfl) ?_
  refine sP (v := .bool true) rfl ?_
  refine sMv (v := .bool true) rfl ?_
  refine sG rfl rfl ?_
  refine sLdAll A30 S30 rfl (((((((((((((((((((((((((((((((((((x135.trans x136).trans x137).trans x138).trans x139).trans x140).trans x141).trans x142).trans x143).trans x144).trans x145).trans x146).trans x147).trans x148).trans x149).trans x150).trans x151).trans x152).trans x153).trans x154).trans x155).trans x156).trans xs16).trans x159).trans x160).trans x165).trans x166).trans x170).trans x171).trans x172).trans x173).trans x174).trans x175).trans x176).trans x177).cells gs15) rfl ?_
  refine sG rfl rfl ?_
  refine sMv (v := nv _) rfl ?_
  refine sG rfl rfl ?_
  refine sLdAll A30 S30 rfl ((((((((((((x159.trans x160).trans x165).trans x166).trans x170).trans x171).trans x172).trans x173).trans x174).trans x175).trans x176).trans x177).cells gs16) rfl ?_
  refine sG rfl rfl ?_
  obtain ⟨v196, m196, h196, rfl, x196⟩ := spec_known (W := 5) (B := 0) (W' := 5) (B' := 0) (er := 0) (o132.gates.ext (((((((((((((((((((((((((((((((((((xs15.trans x135).trans x136).trans x137).trans x138).trans x139).trans x140).trans x141).trans x142).trans x143).trans x144).trans x145).trans x146).trans x147).trans x148).trans x149).trans x150).trans x151).trans x152).trans x153).trans x154).trans x155).trans x156).trans xs16).trans x159).trans x160).trans x165).trans x166).trans x170).trans x171).trans x172).trans x173).trans x174).trans x175).trans x176).trans x177)) (o155.gates.ext (((((((((((((x156.trans xs16).trans x159).trans x160).trans x165).trans x166).trans x170).trans x171).trans x172).trans x173).trans x174).trans x175).trans x176).trans x177)) (by decide) (by decide)
  rw [show (decide ((0 : Nat) = 0) && decide (5 = 5 ∧ 0 = 0 ∧ [(9, [0, 3]), (1, [3]), (9, [1, 4]), (1, [4]), (12, [3, 4, 2]), (1, [4]), (9, [1, 4]), (1, [3]), (9, [0, 3]), (1, [2])].map gvM = [(9, [0, 3]), (1, [3]), (9, [1, 4]), (1, [4]), (12, [3, 4, 2]), (1, [4]), (9, [1, 4]), (1, [3]), (9, [0, 3]), (1, [2])].map gvM)) = true by simp] at h196
  refine sCall3 rfl call70 rfl rfl rfl h196 ?_
  refine sP (v := .bool true) rfl ?_
  refine sMv (v := .bool true) rfl ?_
  refine sG rfl rfl ?_
  refine sMv (v := nv _) rfl ?_
  refine sG rfl rfl ?_
  refine sBin (v := .bool true) (a := 0) (b := 0) rfl rfl (eqlT rfl) ?_
  refine sP (v := .bool true) rfl ?_
  refine sMv (v := .bool true) rfl ?_
  refine sG rfl rfl ?_
  refine sMv (v := nv _) rfl ?_
  refine sG rfl rfl ?_
  refine sBin (v := .bool true) (a := 1) (b := 1) rfl rfl (eqlT rfl) ?_
  refine sP (v := .bool true) rfl ?_
  refine sMv (v := .bool true) rfl ?_
  refine sG rfl rfl ?_
  refine sMv (v := nv _) rfl ?_
  refine sG rfl rfl ?_
  refine sBin (v := .bool true) (a := 0) (b := 0) rfl rfl (eqlT rfl) ?_
  refine sP (v := .bool true) rfl ?_
  refine sMv (v := .bool true) rfl ?_
  refine sG rfl rfl ?_
  refine sMv (v := nv _) rfl ?_
  refine sG rfl rfl ?_
  refine sBin (v := .bool true) (a := 1) (b := 1) rfl rfl (eqlT rfl) ?_
  refine sP (v := .bool true) rfl ?_
  refine sMv (v := .bool true) rfl ?_
  refine sG rfl rfl ?_
  refine sMv (v := nv _) rfl ?_
  refine sG rfl rfl ?_
  refine sBin (v := .bool true) (a := 6) (b := 6) rfl rfl (eqlT rfl) ?_
  refine sP (v := .bool true) rfl ?_
  refine sAs (v := .bool _) rfl ?_
  refine sNil (kSeqN ?_)
  refine cRet ?_
  exact ⟨.inr rfl, _, rfl, rfl, ((((((((((((((((((((((((((((((((((((((((((((((((((((((((((((((((((((((((((((x19.trans x20).trans x21).trans x22).trans xs1).trans x25).trans x29).trans x30).trans x31).trans x32).trans x33).trans x37).trans x38).trans xs6).trans x42).trans x43).trans x47).trans x48).trans x52).trans x59).trans x74).trans x75).trans x76).trans x77).trans x78).trans x79).trans x80).trans x81).trans x82).trans x98).trans x118).trans x119).trans x123).trans x124).trans xs14).trans x128).trans x129).trans x130).trans x131).trans x132).trans xs15).trans x135).trans x136).trans x137).trans x138).trans x139).trans x140).trans x141).trans x142).trans x143).trans x144).trans x145).trans x146).trans x147).trans x148).trans x149).trans x150).trans x151).trans x152).trans x153).trans x154).trans x155).trans x156).trans xs16).trans x159).trans x160).trans x165).trans x166).trans x170).trans x171).trans x172).trans x173).trans x174).trans x175).trans x176).trans x177).trans x196)⟩
end Go.AM

/-! ### R32 -/
namespace Go.AM
open Go.Proofs
set_option maxRecDepth 100000
set_option linter.unusedVariables false
set_option linter.unusedSimpArgs false
/-- A slice is no longer than its capacity. -/
def CapOk (a : Value) : Prop := ∀ q n c, a = .slice q n c → n ≤ c
theorem wide_pow {n : Nat} (h : n = 2 ∨ n = 4 ∨ n = 8) : n = 2 ^ lenN n ∧ lenN n ≤ 3 ∧ 0 < lenN n := by
  rcases h with h | h | h <;> rw [h] <;> decide
theorem take_nodup_succ {α : Type} {p : List α} {i : Nat} {x : α} (h : (p.take i).Nodup) (hx : p[i]? = some x) (hn : ∀ (j : Nat) (y : α), j < i → p[j]? = some y → y ≠ x) : (p.take (i + 1)).Nodup := by
  rw [List.take_add_one, hx, List.nodup_append]
  refine ⟨h, by simp, fun y hy z hz e => ?_⟩
  simp at hz; subst hz; subst e
  obtain ⟨j, hj, e⟩ := List.getElem_of_mem hy
  rw [List.length_take] at hj
  exact hn j y (by omega) (by rw [List.getElem_take] at e; rw [← e]; exact List.getElem?_eq_getElem _) rfl
theorem okf80 : okF Tryd.prog H0 80 9 = true := by kernel_rfl
theorem spec_bit {m : Mem} {x k : Nat} (hx : x < 9223372036854775808) : ∃ v m', ACalls Tryd.prog 80 #[nv x, nv k] m v m' ∧ (v = nv (x >>> k &&& 1) ∧ m = m') := by
  refine wpF (args := [_, _]) mixed okf80 (fn := Tryd.f80) rfl rfl rfl (by simp) ?_
  refine cSeq ?_
  refine cRegion ?_
  refine sAs (v := nv 0) rfl ?_
  refine sNil (kSeqN ?_)
  refine cSeq ?_
  refine cRegion ?_
  refine sMv (v := nv _) rfl ?_
  refine sMv (v := nv _) rfl ?_
  refine sBin (a := x) (b := k) rfl rfl (aInt_shr (by omega)) ?_
  have hsh := Nat.shiftRight_le x k
  refine sBin (b := 1) rfl rfl (aInt_and (by omega)) ?_
  refine sAs (v := nv _) rfl ?_
  refine sNil (kSeqN ?_)
  refine cRet ?_
  exact ⟨.inr rfl, _, rfl, rfl, rfl⟩
theorem okf17 : okF Tryd.prog H0 17 67 = true := by kernel_rfl
theorem spec_rWide {m : Mem} {a : Value} {p : List Int} (ha : IntsAt m a p) (hk : CapOk a) (hl : p.length < 1000000) : ∃ v m', ACalls Tryd.prog 17 #[a] m v m' ∧ (v = .tuple #[nv (wideN p), nv (wideE p)] ∧ m = m') := by
  obtain ⟨q, cap, rfl⟩ := ha.len
  have hcap := hk _ _ _ rfl
  refine wpF (args := [_]) mixed okf17 (fn := Tryd.f17) rfl rfl rfl (by simp) ?_
  refine cSeq ?_
  refine cRegion ?_
  refine sAs (v := nv 0) rfl ?_
  refine sAs (v := nv 0) rfl ?_
  refine sNil (kSeqN ?_)
  refine cCut (fun ρ m' => (p.length = 2 ∨ p.length = 4 ∨ p.length = 8) ∧ m = m' ∧ Has ρ [(0, .slice q p.length cap)]) ?_ ?_
  ·
    refine cSeq ?_
    refine cRegion ?_
    refine sMv (v := .slice _ _ _) rfl ?_
    refine sLen T22 rfl ?_
    refine sBin (a := p.length) (b := 2) rfl rfl aInt_neq ?_
    refine sMv (v := .bool _) rfl ?_
    by_cases h1 : p.length ≠ 2
    ·
      rw [decide_eq_true h1]
      refine sG rfl rfl ?_
      refine sMv (v := .slice _ _ _) rfl ?_
      refine sG rfl rfl ?_
      refine sLen T22 rfl ?_
      refine sG rfl rfl ?_
      refine sBin (a := p.length) (b := 4) rfl rfl aInt_neq ?_
      refine sP (v := .bool _) rfl ?_
      refine sMv (v := .bool _) rfl ?_
      by_cases h2 : p.length ≠ 4
      ·
        rw [decide_eq_true h2]
        refine sG rfl rfl ?_
        refine sMv (v := .slice _ _ _) rfl ?_
        refine sG rfl rfl ?_
        refine sLen T22 rfl ?_
        refine sG rfl rfl ?_
        refine sBin (a := p.length) (b := 8) rfl rfl aInt_neq ?_
        refine sP (v := .bool _) rfl ?_
        refine sNil (kSeqN ?_)
        refine cCond rfl (fun c0 => ?_) (fun c0 => ?_)
        ·
          refine cSeq ?_
          refine cRegion ?_
          refine sAs (v := nv 0) rfl ?_
          refine sAs (v := nv 2) rfl ?_
          refine sNil (kSeqN ?_)
          refine cRet (kSeqR ?_)
          exact ⟨.inr rfl, _, rfl, by rw [wideN, show wideE p = 2 by rw [wideE, if_neg (by rintro (h | h | h); exact h1 h; exact h2 h; exact c0 h)]]; rfl, rfl⟩
        ·
          refine cSkip (kSeqN ?_)
          exact ⟨.inr (.inr (Decidable.not_not.1 c0)), rfl, rfl, trivial⟩
      ·
        rw [decide_eq_false h2]
        refine sGno (q' := false) rfl rfl (by simp) ?_
        refine sGno (q' := false) rfl rfl (by simp) ?_
        refine sGno (q' := false) rfl rfl (by simp) ?_
        refine sP (v := .bool _) rfl ?_
        refine sNil (kSeqN ?_)
        refine cCondF rfl ?_
        refine cSkip (kSeqN ?_)
        exact ⟨.inr (.inl (Decidable.not_not.1 h2)), rfl, rfl, trivial⟩
    ·
      rw [decide_eq_false h1]
      refine sGno (q' := false) rfl rfl (by simp) ?_
      refine sGno (q' := false) rfl rfl (by simp) ?_
      refine sGno (q' := false) rfl rfl (by simp) ?_
      refine sP (v := .bool _) rfl ?_
      refine sMv (v := .bool _) rfl ?_
      refine sGno (q' := false) rfl rfl (by simp) ?_
      refine sGno (q' := false) rfl rfl (by simp) ?_
      refine sGno (q' := false) rfl rfl (by simp) ?_
      refine sP (v := .bool _) rfl ?_
      refine sNil (kSeqN ?_)
      refine cCondF rfl ?_
      refine cSkip (kSeqN ?_)
      exact ⟨.inl (Decidable.not_not.1 h1), rfl, rfl, trivial⟩
  rintro ρ _ ⟨hn, rfl, hh⟩
  rw [hh.env]; clear hh
  obtain ⟨hp2, hn3, hn0⟩ := wide_pow hn
  refine cSeq ?_
  refine cSeq ?_
  refine cRegion ?_
  refine sMv (v := .slice _ _ _) rfl ?_
  refine sLen T22 rfl ?_
  refine sMv (v := nv 0) rfl ?_
  refine sNil (kSeqN ?_)
  refine cBlock ?_
  refine wpC_loop (fun k ρ m' => ∃ i, k = p.length - i ∧ i ≤ p.length ∧ (∀ (j : Nat) x, j < i → p[j]? = some x → 0 ≤ x ∧ x < Int.ofNat p.length) ∧ m = m' ∧ Has ρ [(0, .slice q p.length cap), (24, .slice q p.length cap), (25, nv p.length), (26, nv i)]) ⟨0, rfl, Nat.zero_le _, by omega, rfl, rfl, rfl, rfl, rfl, trivial⟩ ?_
  rintro k ρ _ ⟨i, rfl, hi, hr, rfl, hh⟩
  rw [hh.env]; clear hh
  refine cSeq ?_
  refine cRegion ?_
  refine sBin rfl rfl (aInt_lss) ?_
  refine sNil (kSeqN ?_)
  refine cSeq ?_   -- seq 7
  refine cCond rfl (fun c3 => ?_) (fun c3 => ?_)
  ·
    obtain ⟨b1, o1, p1, r1, cc, e1, g1, x1⟩ := ha.at (by omega)
    cases e1
    obtain ⟨x, hx⟩ : ∃ x, p[i]? = some x := ⟨_, List.getElem?_eq_getElem c3⟩
    refine cSkip (kSeqN ?_)
    refine cSeq ?_
    refine cBlock ?_
    refine cSeq ?_
    refine cRegion ?_
    refine sIx T22 S3 rfl rfl (by omega) ?_
    refine sLd (v := .int .i64 x) A3 rfl g1 (x1 i x hx) ?_
    refine sAs (v := .int .i64 x) rfl ?_
    refine sNil (kSeqN ?_)
    refine cSeq ?_
    refine cRegion ?_
    refine sMv (v := .int .i64 x) rfl ?_
    refine sBinI (v := .bool (decide (x < 0))) rfl rfl aInt_lssI ?_
    refine sMv (v := .bool _) rfl ?_
    by_cases h1 : x < 0
    ·
      rw [decide_eq_true h1]
      refine sGno (q' := true) rfl rfl (by simp) ?_
      refine sGno (q' := true) rfl rfl (by simp) ?_
      refine sGno (q' := true) rfl rfl (by simp) ?_
      refine sGno (q' := true) rfl rfl (by simp) ?_
      refine sP (v := .bool _) rfl ?_
      refine sNil (kSeqN ?_)
      refine cCondT rfl ?_
      refine cSeq ?_
      refine cRegion ?_
      refine sAs (v := nv 0) rfl ?_
      refine sAs (v := nv 3) rfl ?_
      refine sNil (kSeqN ?_)
      refine cRet (kBlkR (kSeqR (kSeqR (kBlkR (kSeqR ?_)))))
      have hex : ∃ x ∈ p, x < 0 ∨ Int.ofNat p.length ≤ x := ⟨x, List.mem_of_getElem? hx, .inl h1⟩
      exact ⟨.inr rfl, _, rfl, by rw [wideN, show wideE p = 3 by rw [wideE, if_pos hn, if_pos hex]]; rfl, rfl⟩
    ·
      rw [decide_eq_false h1]
      refine sG rfl rfl ?_
      refine sMv (v := .int .i64 x) rfl ?_
      refine sG rfl rfl ?_
      refine sMv (v := .slice _ _ _) rfl ?_
      refine sG rfl rfl ?_
      refine sLen T22 rfl ?_
      refine sG rfl rfl ?_
      refine sBinI (b := Int.ofNat p.length) (v := .bool (decide (Int.ofNat p.length ≤ x))) rfl rfl aInt_geqI ?_
      refine sP (v := .bool _) rfl ?_
      refine sNil (kSeqN ?_)
      refine cCond (p := Int.ofNat p.length ≤ x) rfl (fun c5 => ?_) (fun c5 => ?_)
      ·
        refine cSeq ?_
        refine cRegion ?_
        refine sAs (v := nv 0) rfl ?_
        refine sAs (v := nv 3) rfl ?_
        refine sNil (kSeqN ?_)
        refine cRet (kBlkR (kSeqR (kSeqR (kBlkR (kSeqR ?_)))))
        have hex : ∃ x ∈ p, x < 0 ∨ Int.ofNat p.length ≤ x := ⟨x, List.mem_of_getElem? hx, .inr c5⟩
        exact ⟨.inr rfl, _, rfl, by rw [wideN, show wideE p = 3 by rw [wideE, if_pos hn, if_pos hex]]; rfl, rfl⟩
      ·
        refine cSkip (kBlkN (kSeqN ?_))
        refine cRegion ?_
        refine sBin rfl rfl (aInt_add (b := 1) (by omega)) ?_
        refine sMv (v := nv _) rfl ?_
        refine sNil (kSeqN ?_)
        refine ⟨_, ?_, i + 1, rfl, by omega, fun j y hj hy => ?_, rfl, rfl, rfl, rfl, rfl, trivial⟩
        · omega
        · by_cases h : j = i
          · subst h
            rw [hx] at hy
            obtain rfl := Option.some.inj hy
            have c5' : ¬ ((p.length : Int) ≤ x) := c5
            have : x < (p.length : Int) := by omega
            exact ⟨by omega, this⟩
          · exact hr j y (by omega) hy
  ·
    obtain rfl : i = p.length := by omega
    have hnex : ¬ ∃ x ∈ p, x < 0 ∨ Int.ofNat p.length ≤ x := by
      rintro ⟨x, hx, h⟩
      obtain ⟨j, hj, e⟩ := List.getElem_of_mem hx
      have h3 := hr j x hj (by rw [List.getElem?_eq_getElem hj, e])
      rcases h with h | h
      · omega
      · have h' : (p.length : Int) ≤ x := h
        have h4 : x < (p.length : Int) := h3.2
        omega
    refine cExit (kSeqE (kSeqE (kBlkS (kSeqN ?_))))
    refine cSeq ?_
    refine cSeq ?_
    refine cRegion ?_
    refine sMv (v := .slice _ _ _) rfl ?_
    refine sLen T22 rfl ?_
    refine sMv (v := nv 0) rfl ?_
    refine sNil (kSeqN ?_)
    refine cBlock ?_
    refine wpC_loop (fun k ρ m' => ∃ i, k = p.length - i ∧ i ≤ p.length ∧ (p.take i).Nodup ∧ m = m' ∧ Has ρ [(0, .slice q p.length cap), (39, .slice q p.length cap), (40, nv p.length), (41, nv i)]) ⟨0, rfl, Nat.zero_le _, by simp, rfl, rfl, rfl, rfl, rfl, trivial⟩ ?_
    rintro k ρ _ ⟨i, rfl, hi, hr2, rfl, hh⟩
    rw [hh.env]; clear hh
    refine cSeq ?_
    refine cRegion ?_
    refine sBin rfl rfl (aInt_lss) ?_
    refine sNil (kSeqN ?_)
    refine cSeq ?_   -- seq 16
    refine cCond rfl (fun c6 => ?_) (fun c6 => ?_)
    ·
      obtain ⟨b1, o1, p1, r1, cc, e1, g1, x1⟩ := ha.at (by omega)
      cases e1
      obtain ⟨x, hx⟩ : ∃ x, p[i]? = some x := ⟨_, List.getElem?_eq_getElem c6⟩
      refine cSkip (kSeqN ?_)
      refine cSeq ?_
      refine cBlock ?_
      refine cSeq ?_
      refine cRegion ?_
      refine sMv (v := nv _) rfl ?_
      refine sIx T22 S3 rfl rfl (by omega) ?_
      refine sLd (v := .int .i64 x) A3 rfl g1 (x1 i x hx) ?_
      refine sAs (v := nv _) rfl ?_
      refine sAs (v := .int .i64 x) rfl ?_
      refine sNil (kSeqN ?_)
      refine cSeq ?_
      refine cRegion ?_
      refine sMv (v := .slice _ _ _) rfl ?_
      refine sMv (v := nv _) rfl ?_
      refine sO (v := .slice (some ⟨b1, o1, some 1⟩) i cap) (m' := m) (opF_read rfl (aSlice_hi (m := m) T22 S3 (by omega))) ?_
      refine sLen T22 rfl ?_
      refine sMv (v := nv 0) rfl ?_
      refine sNil (kSeqN ?_)
      refine cBlock ?_
      refine wpC_loop (fun k' ρ m' => ∃ j, k' = i - j ∧ j ≤ i ∧ (∀ (j' : Nat) y, j' < j → p[j']? = some y → y ≠ x) ∧ m = m' ∧ Has ρ [(0, .slice (some ⟨b1, o1, some 1⟩) p.length cap), (7, .int .i64 x), (39, .slice (some ⟨b1, o1, some 1⟩) p.length cap), (40, nv p.length), (41, nv i), (48, .slice (some ⟨b1, o1, some 1⟩) i cap), (49, nv i), (50, nv j)]) ⟨0, rfl, Nat.zero_le _, by omega, rfl, rfl, rfl, rfl, rfl, rfl, rfl, rfl, rfl, trivial⟩ ?_
      rintro k' ρ _ ⟨j, rfl, hj, hr3, rfl, hh⟩
      rw [hh.env]; clear hh
      refine cSeq ?_
      refine cRegion ?_
      refine sBin rfl rfl (aInt_lss) ?_
      refine sNil (kSeqN ?_)
      refine cSeq ?_   -- seq 21
      refine cCond rfl (fun c7 => ?_) (fun c7 => ?_)
      ·
        obtain ⟨y, hy⟩ : ∃ y, p[j]? = some y := ⟨_, List.getElem?_eq_getElem (by omega)⟩
        refine cSkip (kSeqN ?_)
        refine cSeq ?_
        refine cBlock ?_
        refine cSeq ?_
        refine cRegion ?_
        refine sIx T22 S3 rfl rfl (by omega) ?_
        refine sLd (v := .int .i64 y) A3 rfl g1 (x1 j y hy) ?_
        refine sAs (v := .int .i64 y) rfl ?_
        refine sNil (kSeqN ?_)
        refine cSeq ?_
        refine cRegion ?_
        refine sMv (v := .int .i64 y) rfl ?_
        refine sMv (v := .int .i64 x) rfl ?_
        refine sBinI (v := .bool (decide (y = x))) rfl rfl aInt_eqlI ?_
        refine sNil (kSeqN ?_)
        refine cCond rfl (fun c8 => ?_) (fun c8 => ?_)
        ·
          refine cSeq ?_
          refine cRegion ?_
          refine sAs (v := nv 0) rfl ?_
          refine sAs (v := nv 5) rfl ?_
          refine sNil (kSeqN ?_)
          refine cRet (kBlkR (kSeqR (kSeqR (kBlkR (kBlkR (kSeqR (kSeqR (kBlkR (kSeqR ?_)))))))))
          have hnn : ¬ p.Nodup := fun hnd => by
            subst c8
            have := (List.getElem?_inj (show j < p.length by omega) hnd).1 (hy.trans hx.symm)
            omega
          exact ⟨.inr rfl, _, rfl, by rw [wideN, show wideE p = 5 by rw [wideE, if_pos hn, if_neg hnex, if_neg hnn]]; rfl, rfl⟩
        ·
          refine cSkip (kBlkN (kSeqN ?_))
          refine cRegion ?_
          refine sBin rfl rfl (aInt_add (b := 1) (by omega)) ?_
          refine sMv (v := nv _) rfl ?_
          refine sNil (kSeqN ?_)
          refine ⟨_, ?_, j + 1, rfl, by omega, fun j' z hj' hz => ?_, rfl, rfl, rfl, rfl, rfl, rfl, rfl, rfl, rfl, trivial⟩
          · omega
          · by_cases h : j' = j
            · subst h
              rw [hy] at hz
              obtain rfl := Option.some.inj hz
              exact c8
            · exact hr3 j' z (by omega) hz
      ·
        obtain rfl : j = i := by omega
        refine cExit (kSeqE (kSeqE (kBlkS (kBlkN (kSeqN ?_)))))
        refine cRegion ?_
        refine sBin rfl rfl (aInt_add (b := 1) (by omega)) ?_
        refine sMv (v := nv _) rfl ?_
        refine sNil (kSeqN ?_)
        refine ⟨_, ?_, j + 1, rfl, by omega, take_nodup_succ hr2 hx hr3, rfl, rfl, rfl, rfl, rfl, trivial⟩
        omega
    ·
      obtain rfl : i = p.length := by omega
      rw [List.take_length] at hr2
      have hw0 : wideE p = 0 := by rw [wideE, if_pos hn, if_neg hnex, if_pos hr2]
      refine cExit (kSeqE (kSeqE (kBlkS (kSeqN ?_))))
      refine cSeq ?_
      refine cRegion ?_
      refine sAs (v := nv 1) rfl ?_
      refine sNil (kSeqN ?_)
      refine cSeq ?_
      refine cBlock ?_
      refine wpC_loop (fun k ρ m' => ∃ w, k = 3 - w ∧ 1 ≤ w ∧ w ≤ lenN p.length ∧ m = m' ∧ Has ρ [(0, .slice q p.length cap), (10, nv w)]) ⟨1, rfl, by omega, hn0, rfl, rfl, rfl, trivial⟩ ?_
      rintro k ρ _ ⟨w, rfl, hw1, hw2, rfl, hh⟩
      rw [hh.env]; clear hh
      have hw8 : 2 ^ w ≤ 2 ^ 3 := Nat.pow_le_pow_right (by decide) (by omega)
      refine cSeq ?_   -- seq 28
      refine cSeq ?_
      refine cRegion ?_
      refine sMv (v := nv _) rfl ?_
      refine sBin rfl rfl (aInt_shl (a := 1) (by omega)) ?_
      rw [Nat.shiftLeft_eq, Nat.one_mul]
      refine sMv (v := .slice _ _ _) rfl ?_
      refine sLen T22 rfl ?_
      refine sBin (a := 2 ^ w) (b := p.length) rfl rfl aInt_lss ?_
      refine sNil (kSeqN ?_)
      refine cCond rfl (fun c9 => ?_) (fun c9 => ?_)
      ·
        have hwl : w < lenN p.length := by
          rw [hp2] at c9
          exact (Nat.pow_lt_pow_iff_right (by decide)).1 c9
        refine cSkip (kSeqN ?_)
        refine cBlock ?_
        refine cRegion ?_
        refine sMv (v := nv _) rfl ?_
        refine sBin rfl rfl (aInt_add (b := 1) (by omega)) ?_
        refine sAs (v := nv _) rfl ?_
        refine sNil (kBlkN (kSeqN ?_))
        refine ⟨_, ?_, w + 1, rfl, by omega, hwl, rfl, rfl, rfl, trivial⟩
        omega
      ·
        have hwl : w = lenN p.length := by
          rcases Nat.lt_or_ge w (lenN p.length) with h | h
          · exact absurd (by rw [hp2]; exact Nat.pow_lt_pow_right (by decide) h) c9
          · omega
        refine cExit (kSeqE (kSeqE (kBlkS (kSeqN ?_))))
        refine cSeq ?_
        refine cRegion ?_
        refine sMv (v := nv _) rfl ?_
        refine sAs (v := nv _) rfl ?_
        refine sAs (v := nv 0) rfl ?_
        refine sNil (kSeqN ?_)
        refine cRet ?_
        exact ⟨.inr rfl, _, rfl, by rw [wideN, hw0, if_pos rfl, hwl]; rfl, rfl⟩
end Go.AM

/-! ### R33 -/
namespace Go.AM
open Go.Proofs
set_option maxRecDepth 100000
set_option linter.unusedVariables false
set_option linter.unusedSimpArgs false
theorem nodes3 : ∀ c < 8, nodesUp c 3 = wiresM c := by decide +kernel
theorem kind_if (n : Nat) (h : n ≤ 2) : (if n = 2 then 12 else if n = 1 then 9 else 1) = kindM n := by
  have : n = 0 ∨ n = 1 ∨ n = 2 := by omega
  rcases this with rfl | rfl | rfl <;> rfl
theorem okf81 : okF Tryd.prog H0 81 32 = true := by kernel_rfl
theorem spec_controlled {m : Mem} {k c : Nat} (hc : c < 8) (h2 : (wiresM c).length ≤ 2) : ∃ v m', ACalls Tryd.prog 81 #[nv k, nv c] m v m' ∧ (∃ w, v = .agg #[nv (turnG k (wiresM c)).1, w, nv 0, nv 0] ∧ OwnF (m.size + 1) m' w (ofs (turnG k (wiresM c)).2) ∧ Ext m m') := by
  refine wpF (args := [_, _]) mixed okf81 (fn := Tryd.f81) rfl rfl rfl (by simp) ?_
  refine cSeq ?_
  refine cRegion ?_
  refine sAlloc Z49 (by kernel_rfl) ?_
  change wpOps _ _ _ _ _ (m.push (.cells true #[nv 0, .slice none 0 0, nv 0, nv 0]))
  have e1 : Ext m (m.push (.cells true #[nv 0, .slice none 0 0, nv 0, nv 0])) := .push _ _
  have g1 : Mem.get (m.push (.cells true #[nv 0, .slice none 0 0, nv 0, nv 0])) m.size = .cells true #[nv 0, .slice none 0 0, nv 0, nv 0] := gP rfl
  have z1 : (m.push (.cells true #[nv 0, .slice none 0 0, nv 0, nv 0])).size = m.size + 1 := by simp
  generalize m.push (.cells true #[nv 0, .slice none 0 0, nv 0, nv 0]) = m1 at *
  refine sNil (kSeqN ?_)
  refine cSeq ?_
  refine cRegion ?_
  refine sAs (v := .slice _ _ _) rfl ?_
  refine sNil (kSeqN ?_)
  refine cSeq ?_
  refine cSeq ?_
  refine cRegion ?_
  refine sAs (v := nv 0) rfl ?_
  refine sNil (kSeqN ?_)
  refine cBlock ?_
  refine wpC_loop (fun k' ρ m' => ∃ i v, k' = 3 - i ∧ i ≤ 3 ∧ Ext m1 m' ∧ OwnF (m.size + 1) m' v (ofs (nodesUp c i)) ∧ Has ρ [(0, nv k), (1, nv c), (4, .pointer (some ⟨m.size, 0, none⟩)), (5, v), (6, nv i)]) ⟨0, _, rfl, by omega, .refl _, .nil _ _, rfl, rfl, rfl, rfl, rfl, trivial⟩ ?_
  rintro k' ρ m' ⟨i, v, rfl, hi, hE, hO, hh⟩
  obtain ⟨qv, cv, rfl⟩ := hO.ints.lenN
  rw [hh.env]; clear hh
  have hsz := hE.1
  have hnl := nodesUp_len c i
  refine cSeq ?_   -- seq 4
  refine cSeq ?_
  refine cRegion ?_
  refine sMv (v := nv _) rfl ?_
  refine sBin (b := 3) rfl rfl aInt_lss ?_
  refine sNil (kSeqN ?_)
  refine cCond rfl (fun c0 => ?_) (fun c0 => ?_)
  ·
    refine cSkip (kSeqN ?_)
    refine cSeq ?_
    refine cBlock ?_
    refine cSeq ?_
    refine cRegion ?_
    refine sMv (v := nv _) rfl ?_
    refine sMv (v := nv _) rfl ?_
    obtain ⟨v14, m14, h14, rfl, rfl⟩ := spec_bit (m := m') (x := c) (k := i) (by omega)
    refine sCall2 rfl call80 rfl rfl h14 ?_
    refine sBin (b := 1) rfl rfl aInt_eql ?_
    refine sNil (kSeqN ?_)
    refine cCond rfl (fun c1 => ?_) (fun c1 => ?_)
    ·
      have hb := (bit_one c i).1 c1
      refine cRegion ?_
      refine sMv (v := .slice _ _ _) rfl ?_
      refine sMv (v := nv _) rfl ?_
      refine sBuildS T22 S3 Z3 (by decide) (by decide) (by decide) (by kernel_rfl) fill1 rfl ?_
      refine sApp App22 rfl rfl (N := m.size + 1) (hO.ext (.push _ _)) one_ints (by simp; omega) (by simp; omega) fun v3 m3 hO3 hL3 => ?_
      have hI3 := hO3.ints
      obtain ⟨q3, cp3, rfl⟩ := hI3.len
      have hE3 : Ext m1 m3 := Low.to_ext (hE.trans (.push _ _)) hL3 (by omega)
      refine sAs (v := .slice _ _ _) rfl ?_
      refine sNil (kBlkN (kSeqN ?_))
      refine cRegion ?_
      refine sMv (v := nv _) rfl ?_
      refine sBin rfl rfl (aInt_add (b := 1) (by omega)) ?_
      refine sAs (v := nv _) rfl ?_
      refine sNil (kSeqN ?_)
      refine ⟨_, ?_, i + 1, _, rfl, by omega, hE3, by rw [nodesUp_succ, if_pos hb, ofs_append]; exact hO3, rfl, rfl, rfl, rfl, rfl, trivial⟩
      omega
    ·
      refine cSkip (kBlkN (kSeqN ?_))
      refine cRegion ?_
      refine sMv (v := nv _) rfl ?_
      refine sBin rfl rfl (aInt_add (b := 1) (by omega)) ?_
      refine sAs (v := nv _) rfl ?_
      refine sNil (kSeqN ?_)
      refine ⟨_, ?_, i + 1, _, rfl, by omega, hE, by rw [nodesUp_succ, if_neg (fun h => c1 ((bit_one c i).2 h)), List.append_nil]; exact hO, rfl, rfl, rfl, rfl, rfl, trivial⟩
      omega
  ·
    obtain rfl : i = 3 := by omega
    rw [nodes3 c hc] at *
    generalize wiresM c = l at *
    refine cExit (kSeqE (kSeqE (kBlkS (kSeqN ?_))))
    refine cSeq ?_
    refine cRegion ?_
    refine sAs (v := nv 1) rfl ?_
    refine sNil (kSeqN ?_)
    refine cCut (fun ρ M => m' = M ∧ Has ρ [(0, nv k), (4, .pointer (some ⟨m.size, 0, none⟩)), (5, .slice qv l.length cv), (7, nv (if l.length = 1 then 9 else 1))]) ?_ ?_
    ·
      refine cSeq ?_
      refine cRegion ?_
      refine sMv (v := .slice _ _ _) rfl ?_
      refine sLen T22 rfl ?_
      refine sBin (a := l.length) (b := 1) rfl rfl aInt_eql ?_
      refine sNil (kSeqN ?_)
      refine cCond rfl (fun c2 => ?_) (fun c2 => ?_)
      ·
        refine cRegion ?_
        refine sAs (v := nv 9) rfl ?_
        refine sNil (kSeqN ?_)
        exact ⟨rfl, rfl, rfl, rfl, by rw [if_pos c2]; rfl, trivial⟩
      ·
        refine cSkip (kSeqN ?_)
        exact ⟨rfl, rfl, rfl, rfl, by rw [if_neg c2]; rfl, trivial⟩
    rintro ρ _ ⟨rfl, hh⟩
    rw [hh.env]; clear hh
    refine cCut (fun ρ M => m' = M ∧ Has ρ [(0, nv k), (4, .pointer (some ⟨m.size, 0, none⟩)), (5, .slice qv l.length cv), (7, nv (kindM l.length))]) ?_ ?_
    ·
      refine cSeq ?_
      refine cRegion ?_
      refine sMv (v := .slice _ _ _) rfl ?_
      refine sLen T22 rfl ?_
      refine sBin (a := l.length) (b := 2) rfl rfl aInt_eql ?_
      refine sNil (kSeqN ?_)
      refine cCond rfl (fun c3 => ?_) (fun c3 => ?_)
      ·
        refine cRegion ?_
        refine sAs (v := nv 12) rfl ?_
        refine sNil (kSeqN ?_)
        exact ⟨rfl, rfl, rfl, rfl, by rw [← kind_if _ h2, if_pos c3]; rfl, trivial⟩
      ·
        refine cSkip (kSeqN ?_)
        exact ⟨rfl, rfl, rfl, rfl, by rw [← kind_if _ h2, if_neg c3]; rfl, trivial⟩
    rintro ρ _ ⟨rfl, hh⟩
    rw [hh.env]; clear hh
    refine cSeq ?_
    refine cRegion ?_
    refine sMv (v := nv _) rfl ?_
    refine sMv (v := .slice _ _ _) rfl ?_
    refine sMv (v := nv _) rfl ?_
    refine sBuildS T22 S3 Z3 (by decide) (by decide) (by decide) (by kernel_rfl) fill1 rfl ?_
    refine sApp App22 rfl rfl (N := m.size + 1) (hO.ext (.push _ _)) one_ints (by simp; omega) (by rw [ofs_length]; simp; omega) fun v13 m13 hO13 hL13 => ?_
    rw [show ofs l ++ [Int.ofNat k] = ofs (l ++ [k]) by rw [ofs_append]; rfl] at hO13
    obtain ⟨q13, c13, rfl⟩ := hO13.ints.lenN
    have hE13 : Ext m1 m13 := Low.to_ext (hE.trans (.push _ _)) hL13 (by omega)
    have g13 := hE13.cells g1
    refine sBuild B49k ?_
    refine sStAll S49 rfl rfl g13 rfl rfl (by kernel_rfl) ?_
    refine sNil (kSeqN ?_)
    refine cRet ?_
    refine ⟨.inr rfl, _, resRs_agg A49 S49 rfl (gS rfl (live g13)) rfl, _, rfl, ?_, ?_⟩
    · exact hO13.keep fun b hb => gSn (by have := (hO13.lt hb).1; omega)
    · exact (e1.trans hE13).set (b := m.size) (Nat.le_refl _) _
def H82 : Nat → List (Nat × Nat) := fun id => if id = 9 then [(8, 0)] else []
theorem okf82 : okF Tryd.prog H82 82 79 = true := by kernel_rfl
theorem spec_Done {m : Mem} {N kd x : Nat} {ws : Value} {w : List Nat} (hw : OwnF N m ws (ofs w)) (h0 : 0 < w.length) (h3 : w.length ≤ 3) (hkd : kd = kindM (w.length - 1)) (hlt : ∀ y ∈ w, y < 10) (hx : x < 2 ^ 10) : ∃ v m', ACalls Tryd.prog 82 #[.agg #[nv kd, ws, nv 0, nv 0], nv x] m v m' ∧ (v = nv (turnM x w) ∧ Ext m m') := by
  obtain ⟨b1, o1, p1, r1, cc, rfl, g0, x0⟩ := hw.ints.atN h0
  have hkc : (w.length = 1 ∧ kd = 1) ∨ (w.length = 2 ∧ kd = 9) ∨ (w.length = 3 ∧ kd = 12) := by
    have : w.length = 1 ∨ w.length = 2 ∨ w.length = 3 := by omega
    rcases this with h | h | h <;> rw [h] at hkd <;> simp [h, hkd, kindM]
  have hp2 : ∀ y ∈ w, 2 ^ y < 2 ^ 10 := fun y hy => Nat.pow_lt_pow_right (by decide) (hlt y hy)
  refine wpF (args := [_, _]) mixed okf82 (fn := Tryd.f82) rfl rfl rfl (by simp) ?_
  refine cSeq ?_
  refine cRegion ?_
  refine sBox (v := .agg _) rfl ?_
  change wpOps _ _ _ _ _ (m.push (.cells true #[nv kd, .slice (some ⟨b1, o1, some 1⟩) w.length p1, nv 0, nv 0]))
  have e1 : Ext m (m.push (.cells true #[nv kd, .slice (some ⟨b1, o1, some 1⟩) w.length p1, nv 0, nv 0])) := .push _ _
  have g1 : Mem.get (m.push (.cells true #[nv kd, .slice (some ⟨b1, o1, some 1⟩) w.length p1, nv 0, nv 0])) m.size = .cells true #[nv kd, .slice (some ⟨b1, o1, some 1⟩) w.length p1, nv 0, nv 0] := gP rfl
  generalize m.push (.cells true #[nv kd, .slice (some ⟨b1, o1, some 1⟩) w.length p1, nv 0, nv 0]) = M at *
  refine sAs (v := nv 0) rfl ?_
  refine sNil (kSeqN ?_)
  refine cSeq ?_
  refine cRegion ?_
  refine sFA F49_1 rfl ?_
  refine sLd (v := .slice _ _ _) A22 rfl g1 rfl ?_
  refine sAs (v := .slice _ _ _) rfl ?_
  refine sNil (kSeqN ?_)
  refine cSeq ?_
  refine cSeq ?_
  refine cRegion ?_
  refine sFA F49_0 rfl ?_
  refine sLd (v := nv kd) A3 rfl g1 rfl ?_
  refine sNil (kSeqN ?_)
  refine cBlock ?_
  refine cSeq ?_
  refine cRegion ?_
  refine sBin (a := kd) (b := 1) rfl rfl aInt_eql ?_
  refine sAs (v := .bool _) rfl ?_
  refine sNil (kSeqN ?_)
  refine cCond rfl (fun c0 => ?_) (fun c0 => ?_)
  ·
    obtain ⟨a, rfl⟩ : ∃ a, w = [a] := by match w, hkc with | [a], _ => exact ⟨a, rfl⟩ | [], h => simp at h | [_, _], h => simp at h; omega | _ :: _ :: _ :: _, h => simp at h; omega
    have ha := hlt a (by simp)
    have hpa := hp2 a (by simp)
    refine cSeq ?_
    refine cRegion ?_
    refine sMv (v := nv _) rfl ?_
    refine sMv (v := .slice _ _ _) rfl ?_
    refine sIx T22 S3 rfl rfl (show 0 < [a].length by simp) ?_
    refine sLd (v := nv a) A3 rfl (e1.cells g0) (x0 0 a rfl) ?_
    refine sBin rfl rfl (aInt_shl (a := 1) (by omega)) ?_
    rw [Nat.shiftLeft_eq, Nat.one_mul]
    refine sBin (a := x) (b := 2 ^ a) rfl rfl (aInt_xor ⟨by omega, by omega⟩) ?_
    refine sAs (v := nv _) rfl ?_
    refine sNil (kSeqN ?_)
    refine cRet (kBlkR (kSeqR ?_))
    exact ⟨.inr rfl, _, rfl, rfl, e1⟩
  ·
    refine cSeq ?_
    refine cRegion ?_
    refine sBin (a := kd) (b := 9) rfl rfl aInt_eql ?_
    refine sAs (v := .bool _) rfl ?_
    refine sNil (kSeqN ?_)
    refine cCond rfl (fun c1 => ?_) (fun c1 => ?_)
    ·
      obtain ⟨a, b, rfl⟩ : ∃ a b, w = [a, b] := by match w, hkc with | [a, b], _ => exact ⟨a, b, rfl⟩ | [], h => simp at h | [_], h => simp at h; omega | _ :: _ :: _ :: _, h => simp at h; omega
      have ha := hlt a (by simp)
      have hb := hlt b (by simp)
      have hpb := hp2 b (by simp)
      refine cSeq ?_
      refine cRegion ?_
      refine sMv (v := nv _) rfl ?_
      refine sMv (v := .slice _ _ _) rfl ?_
      refine sIx T22 S3 rfl rfl (show 0 < [a, b].length by simp) ?_
      refine sLd (v := nv a) A3 rfl (e1.cells g0) (x0 0 a rfl) ?_
      obtain ⟨v24, m24, h24, rfl, rfl⟩ := spec_bit (m := M) (x := x) (k := a) (by omega)
      refine sCall2 rfl call80 rfl rfl h24 ?_
      refine sBin (b := 1) rfl rfl aInt_eql ?_
      refine sNil (kSeqN ?_)
      refine cCond rfl (fun c2 => ?_) (fun c2 => ?_)
      ·
        refine cSeq ?_
        refine cRegion ?_
        refine sMv (v := nv _) rfl ?_
        refine sMv (v := .slice _ _ _) rfl ?_
        refine sIx T22 S3 rfl rfl (show 1 < [a, b].length by simp) ?_
        refine sLd (v := nv b) A3 rfl (e1.cells g0) (x0 1 b rfl) ?_
        refine sBin (a := 1) (b := b) rfl rfl (aInt_shl (by omega)) ?_
        rw [Nat.shiftLeft_eq, Nat.one_mul (2 ^ b)]
        refine sBin (a := x) (b := 2 ^ b) rfl rfl (aInt_xor ⟨by omega, by omega⟩) ?_
        refine sAs (v := nv _) rfl ?_
        refine sNil (kSeqN ?_)
        refine cRet (kBlkR (kSeqR ?_))
        have ht := (bit_one x a).1 c2
        exact ⟨.inr rfl, _, rfl, by rw [show turnM x [a, b] = x ^^^ 2 ^ b by simp [turnM, ht]]; rfl, e1⟩
      ·
        refine cSkip (kBlkN (kSeqN ?_))
        refine cSeq ?_
        refine cRegion ?_
        refine sMv (v := nv _) rfl ?_
        refine sAs (v := nv _) rfl ?_
        refine sNil (kSeqN ?_)
        refine cRet ?_
        have ht : x.testBit a = false := Bool.eq_false_iff.2 (fun h => c2 ((bit_one x a).2 h))
        exact ⟨.inr rfl, _, rfl, by rw [show turnM x [a, b] = x by simp [turnM, ht]]; rfl, e1⟩
    ·
      refine cSeq ?_
      refine cRegion ?_
      refine sBin (a := kd) (b := 11) rfl rfl aInt_eql ?_
      refine sAs (v := .bool _) rfl ?_
      refine sNil (kSeqN ?_)
      refine cCondF' rfl (by omega) ?_
      refine cSeq ?_
      refine cRegion ?_
      refine sBin (a := kd) (b := 12) rfl rfl aInt_eql ?_
      refine sAs (v := .bool _) rfl ?_
      refine sNil (kSeqN ?_)
      refine cCondT' rfl (by omega) ?_
      refine cSeq ?_
      refine cRegion ?_
      obtain ⟨a, b, c, rfl⟩ : ∃ a b c, w = [a, b, c] := by match w, hkc with | [a, b, c], _ => exact ⟨a, b, c, rfl⟩ | [], h => simp at h | [_], h => simp at h; omega | [_, _], h => simp at h; omega | _ :: _ :: _ :: _ :: _, h => simp at h3
      have ha := hlt a (by simp)
      have hb := hlt b (by simp)
      have hc := hlt c (by simp)
      have hpc := hp2 c (by simp)
      refine sMv (v := nv _) rfl ?_
      refine sMv (v := .slice _ _ _) rfl ?_
      refine sIx T22 S3 rfl rfl (show 0 < [a, b, c].length by simp) ?_
      refine sLd (v := nv a) A3 rfl (e1.cells g0) (x0 0 a rfl) ?_
      obtain ⟨v62, m62, h62, rfl, rfl⟩ := spec_bit (m := M) (x := x) (k := a) (by omega)
      refine sCall2 rfl call80 rfl rfl h62 ?_
      refine sBin (b := 1) rfl rfl aInt_eql ?_
      refine sMv (v := .bool _) rfl ?_
      by_cases h1 : x >>> a &&& 1 = 1
      ·
        rw [decide_eq_true h1]
        refine sG rfl rfl ?_
        refine sMv (v := nv _) rfl ?_
        refine sG rfl rfl ?_
        refine sMv (v := .slice _ _ _) rfl ?_
        refine sG rfl rfl ?_
        refine sIx T22 S3 rfl rfl (show 1 < [a, b, c].length by simp) ?_
        refine sG rfl rfl ?_
        refine sLd (v := nv b) A3 rfl (e1.cells g0) (x0 1 b rfl) ?_
        refine sG rfl rfl ?_
        obtain ⟨v69, m69, h69, rfl, rfl⟩ := spec_bit (m := M) (x := x) (k := b) (by omega)
        refine sCall2 rfl call80 rfl rfl h69 ?_
        refine sG rfl rfl ?_
        refine sBin (b := 1) rfl rfl aInt_eql ?_
        refine sP (v := .bool _) rfl ?_
        refine sNil (kSeqN ?_)
        refine cCond (p := x >>> b &&& 1 = 1) rfl (fun c5 => ?_) (fun c5 => ?_)
        ·
          refine cSeq ?_
          refine cRegion ?_
          refine sMv (v := nv _) rfl ?_
          refine sMv (v := .slice _ _ _) rfl ?_
          refine sIx T22 S3 rfl rfl (show 2 < [a, b, c].length by simp) ?_
          refine sLd (v := nv c) A3 rfl (e1.cells g0) (x0 2 c rfl) ?_
          refine sBin (a := 1) (b := c) rfl rfl (aInt_shl (by omega)) ?_
          rw [Nat.shiftLeft_eq, Nat.one_mul (2 ^ c)]
          refine sBin (a := x) (b := 2 ^ c) rfl rfl (aInt_xor ⟨by omega, by omega⟩) ?_
          refine sAs (v := nv _) rfl ?_
          refine sNil (kSeqN ?_)
          refine cRet (kBlkR (kSeqR ?_))
          have ht := (bit_one x a).1 h1
          have hu := (bit_one x b).1 c5
          exact ⟨.inr rfl, _, rfl, by rw [show turnM x [a, b, c] = x ^^^ 2 ^ c by simp [turnM, ht, hu]]; rfl, e1⟩
        ·
          refine cSkip (kBlkN (kSeqN ?_))
          refine cSeq ?_
          refine cRegion ?_
          refine sMv (v := nv _) rfl ?_
          refine sAs (v := nv _) rfl ?_
          refine sNil (kSeqN ?_)
          refine cRet ?_
          have hu : x.testBit b = false := Bool.eq_false_iff.2 (fun h => c5 ((bit_one x b).2 h))
          exact ⟨.inr rfl, _, rfl, by rw [show turnM x [a, b, c] = x by simp [turnM, hu]]; rfl, e1⟩
      ·
        rw [decide_eq_false h1]
        refine sGno (q' := false) rfl rfl (by simp) ?_
        refine sGno (q' := false) rfl rfl (by simp) ?_
        refine sGno (q' := false) rfl rfl (by simp) ?_
        refine sGno (q' := false) rfl rfl (by simp) ?_
        refine sGno (q' := false) rfl rfl (by simp) ?_
        refine sGno (q' := false) rfl rfl (by simp) ?_
        refine sP (v := .bool _) rfl ?_
        refine sNil (kSeqN ?_)
        refine cCondF rfl ?_
        refine cSkip (kBlkN (kSeqN ?_))
        refine cSeq ?_
        refine cRegion ?_
        refine sMv (v := nv _) rfl ?_
        refine sAs (v := nv _) rfl ?_
        refine sNil (kSeqN ?_)
        refine cRet ?_
        have ht : x.testBit a = false := Bool.eq_false_iff.2 (fun h => h1 ((bit_one x a).2 h))
        exact ⟨.inr rfl, _, rfl, by rw [show turnM x [a, b, c] = x by simp [turnM, ht]]; rfl, e1⟩
end Go.AM

/-! ### N7 -/
namespace Go.AM
open Go.Proofs
set_option maxRecDepth 100000
set_option linter.unusedVariables false
set_option linter.unusedSimpArgs false
def refGate (i a : Nat) : Nat × List Nat := if offM i a = 0 then dnGate i a else upGate i a
def rfW (i : Nat) : Nat → Work → Work
  | 0, s => s
  | f + 1, s => if s.1.getD i 0 = i then s else rfW i f (doW (refGate i (s.1.getD i 0)) s)
def refW (p : List Nat) : Nat → Work
  | 0 => (p, [])
  | i + 1 => rfW i 6 (refW p i)
def measO (i a : Nat) : Nat := (wiresM (offM i a)).length + (wiresM (offM a i)).length
set_option synthInstance.maxSize 2000 in
set_option synthInstance.maxHeartbeats 400000 in
theorem up_more : ∀ a < 8, ∀ i < 8, ¬ a &&& i = i → (wiresM (offM (turnM a (upGate i a).2) i)).length = (wiresM (offM a i)).length := by decide +kernel
theorem off_zero : ∀ a < 8, ∀ i < 8, (offM i a = 0 ↔ a &&& i = i) := by decide +kernel
theorem off_len : ∀ a < 8, ∀ i < 8, ((wiresM (offM i a)).length = 0 → a &&& i = i) ∧ (a &&& i = i → (wiresM (offM i a)).length = 0) ∧ (a &&& i = i → (wiresM (offM a i)).length = 0 → a = i) := by decide +kernel
theorem ref_zero : ∀ a < 8, a ≠ 0 → refGate 0 a = turnG ((wiresM a).headD 0) [] ∧ wiresM (turnM a [(wiresM a).headD 0]) = (wiresM a).tail ∧ wiresM a ≠ [] := by decide +kernel
theorem head_bit : ∀ x < 8, x ≠ 0 → (wiresM x).headD 0 < 3 ∧ ∀ k, k < 3 → k ≤ (wiresM x).headD 0 → (x >>> k &&& 1 = 0 ↔ k < (wiresM x).headD 0) := by decide +kernel
set_option synthInstance.maxSize 2000 in
set_option synthInstance.maxHeartbeats 400000 in
theorem ref_gate : ∀ n < 4, ∀ a < 2 ^ n, ∀ i < 2 ^ n, a ≠ i → refGate i a = turnG ((wiresM (if offM i a = 0 then offM a i else offM i a)).headD 0) (wiresM (if offM i a = 0 then i else a)) ∧ (if offM i a = 0 then offM a i else offM i a) ≠ 0 ∧ (if offM i a = 0 then offM a i else offM i a) < 8 ∧ (if offM i a = 0 then i else a) < 8 ∧ (wiresM (if offM i a = 0 then i else a)).length ≤ 2 ∧ (∀ y ∈ (refGate i a).2, y < 3) ∧ (refGate i a).1 = kindM ((refGate i a).2.length - 1) ∧ (refGate i a).2.length ≤ 3 ∧ 0 < (refGate i a).2.length := by decide +kernel
theorem FInv.ref {n i : Nat} {F : List Nat} (h : FInv n i F) (hn : n ≤ 3) (hi : i < 2 ^ n) (hc : ¬ F.getD i 0 = i) :
    FInv n i (doL (refGate i (F.getD i 0)).2 F) ∧ measO i ((doL (refGate i (F.getD i 0)).2 F).getD i 0) < measO i (F.getD i 0) := by
  obtain ⟨h1, h2⟩ := h.at hi
  have h8 := two_pow3 hn
  have ha : F.getD i 0 < 8 := by omega
  have hi8 : i < 8 := by omega
  by_cases hz : offM i (F.getD i 0) = 0
  · have ha' := (off_zero _ ha _ hi8).1 hz
    obtain ⟨k1, k2, k3⟩ := h.dn hn hi ha' hc
    unfold refGate
    rw [if_pos hz]
    refine ⟨k1, ?_⟩
    have k4 := (k1.at hi).2
    have k5 := (off_len _ (show (doL (dnGate i (F.getD i 0)).2 F).getD i 0 < 8 by omega) _ hi8).2.1 k2
    unfold measO; omega
  · have ha' : ¬ F.getD i 0 &&& i = i := fun h => hz ((off_zero _ ha _ hi8).2 h)
    obtain ⟨k1, k2⟩ := h.up hn hi ha'
    unfold refGate
    rw [if_neg hz]
    refine ⟨k1, ?_⟩
    have k3 := up_more _ ha _ hi8 ha'
    rw [doL_getD h1] at k2 ⊢
    unfold measO; omega
theorem rfW_done {i : Nat} {s : Work} (h : s.1.getD i 0 = i) : ∀ f, rfW i f s = s
  | 0 => rfl
  | f + 1 => by rw [rfW, if_pos h]
theorem rfW_len {i : Nat} : ∀ (f : Nat) (s : Work), (rfW i f s).2.length ≤ s.2.length + f
  | 0, s => Nat.le_refl _
  | f + 1, s => by
    rw [rfW]; split
    · omega
    · have := rfW_len (i := i) f (doW (refGate i (s.1.getD i 0)) s)
      rw [doW_len] at this; omega
theorem refW_len {p : List Nat} : ∀ i, (refW p i).2.length ≤ 6 * i
  | 0 => Nat.le_refl _
  | i + 1 => by have := rfW_len (i := i) 6 (refW p i); have := refW_len (p := p) i; rw [refW]; omega
section
variable {n i : Nat}
theorem rf_dn (hn : n ≤ 3) (hi : i < 2 ^ n) : ∀ (f : Nat) (s : Work), FInv n i s.1 → s.1.getD i 0 &&& i = i → rfW i f s = dnW i f s
  | 0, s, _, _ => rfl
  | f + 1, s, h, ha => by
    have h8 := two_pow3 hn
    have h2 := (h.at hi).2
    rw [rfW, dnW]
    split
    · rfl
    · rename_i hc
      obtain ⟨k1, k2, _⟩ := h.dn hn hi ha hc
      rw [refGate, if_pos ((off_zero _ (by omega) _ (by omega)).2 ha)]
      exact rf_dn hn hi f (doW (dnGate i (s.1.getD i 0)) s) k1 k2
theorem dn_fuel (hn : n ≤ 3) (hi : i < 2 ^ n) : ∀ (f : Nat) (s : Work), FInv n i s.1 → s.1.getD i 0 &&& i = i → (wiresM (offM (s.1.getD i 0) i)).length ≤ f → (∀ g, dnW i (f + g) s = dnW i f s) ∧ FInv n i (dnW i f s).1 ∧ (dnW i f s).1.getD i 0 = i
  | 0, s, h, ha, hl => by
    have h8 := two_pow3 hn
    have h2 := (h.at hi).2
    have e := (off_len _ (show s.1.getD i 0 < 8 by omega) _ (show i < 8 by omega)).2.2 ha (by omega)
    exact ⟨fun g => by rw [dnW_done e, dnW_done e], h, e⟩
  | f + 1, s, h, ha, hl => by
    by_cases hc : s.1.getD i 0 = i
    · rw [dnW_done hc]
      exact ⟨fun g => dnW_done hc _, h, hc⟩
    · obtain ⟨k1, k2, k3⟩ := h.dn hn hi ha hc
      obtain ⟨r1, r2, r3⟩ := dn_fuel hn hi f (doW (dnGate i (s.1.getD i 0)) s) k1 k2 (by show (wiresM (offM ((doL (dnGate i (s.1.getD i 0)).2 s.1).getD i 0) i)).length ≤ f; omega)
      have e : ∀ g, dnW i (f + 1 + g) s = dnW i (f + g) (doW (dnGate i (s.1.getD i 0)) s) := fun g => by rw [show f + 1 + g = f + g + 1 by omega, dnW, if_neg hc]
      have e0 : dnW i (f + 1) s = dnW i f (doW (dnGate i (s.1.getD i 0)) s) := e 0
      rw [e0]
      exact ⟨fun g => by rw [e, r1], r2, r3⟩
theorem rf_up (hn : n ≤ 3) (hi : i < 2 ^ n) : ∀ (fu : Nat) (s : Work), FInv n i s.1 → (wiresM (offM i (s.1.getD i 0))).length ≤ fu → ∀ fd, (wiresM (offM (s.1.getD i 0) i)).length ≤ fd → rfW i (fu + fd) s = dnW i fd (upW i fu s) ∧ FInv n i (dnW i fd (upW i fu s)).1 ∧ (dnW i fd (upW i fu s)).1.getD i 0 = i
  | 0, s, h, hl, fd, hd => by
    have h8 := two_pow3 hn
    have h2 := (h.at hi).2
    have e := (off_len _ (show s.1.getD i 0 < 8 by omega) _ (show i < 8 by omega)).1 (by omega)
    obtain ⟨r1, r2, r3⟩ := dn_fuel hn hi fd s h e hd
    exact ⟨by rw [Nat.zero_add]; exact rf_dn hn hi fd s h e, r2, r3⟩
  | fu + 1, s, h, hl, fd, hd => by
    have h8 := two_pow3 hn
    obtain ⟨h1, h2⟩ := h.at hi
    by_cases hc : s.1.getD i 0 &&& i = i
    · rw [upW_done hc]
      obtain ⟨r1, r2, r3⟩ := dn_fuel hn hi fd s h hc hd
      exact ⟨by rw [rf_dn hn hi _ s h hc, Nat.add_comm, r1], r2, r3⟩
    · obtain ⟨k1, k2⟩ := h.up hn hi hc
      have k3 := up_more _ (show s.1.getD i 0 < 8 by omega) _ (show i < 8 by omega) hc
      have e1 : rfW i (fu + 1 + fd) s = rfW i (fu + fd) (doW (upGate i (s.1.getD i 0)) s) := by
        rw [show fu + 1 + fd = fu + fd + 1 by omega, rfW, if_neg (fun e => hc (by rw [e, Nat.and_self])), refGate, if_neg (fun e => hc ((off_zero _ (by omega) _ (by omega)).1 e))]
      have e2 : upW i (fu + 1) s = upW i fu (doW (upGate i (s.1.getD i 0)) s) := by rw [upW, if_neg hc]
      rw [e1, e2]
      refine rf_up hn hi fu (doW (upGate i (s.1.getD i 0)) s) k1 ?_ fd ?_
      · show (wiresM (offM i ((doL (upGate i (s.1.getD i 0)).2 s.1).getD i 0))).length ≤ fu
        omega
      · show (wiresM (offM ((doL (upGate i (s.1.getD i 0)).2 s.1).getD i 0) i)).length ≤ fd
        rw [doL_getD h1, k3]; exact hd
end
theorem rf_six {n i : Nat} (hn : n ≤ 3) (hi : i < 2 ^ n) {s : Work} (h : FInv n i s.1) : rfW i 6 s = dnW i 3 (upW i 3 s) ∧ FInv n (i + 1) (dnW i 3 (upW i 3 s)).1 := by
  have h8 := two_pow3 hn
  have h2 := (h.at hi).2
  obtain ⟨o1, o2⟩ := off_facts _ (show s.1.getD i 0 < 8 by omega) _ (show i < 8 by omega)
  obtain ⟨r1, r2, r3⟩ := rf_up hn hi 3 s h o1 3 o2
  exact ⟨r1, r2.next hi r3⟩
theorem rf_zer {n : Nat} (hn : n ≤ 3) : ∀ (ks : List Nat) (s : Work) (f : Nat), FInv n 0 s.1 → wiresM (s.1.getD 0 0) = ks → ks.length ≤ f → rfW 0 f s = zerW s ks
  | [], s, f, h, hk, hf => by
    have h8 := two_pow3 hn
    have h2 := (h.at (Nat.pow_pos (by decide))).2
    have e : s.1.getD 0 0 = 0 := Decidable.byContradiction fun e => (ref_zero _ (by omega) e).2.2 hk
    rw [rfW_done e]; rfl
  | k :: ks, s, 0, h, hk, hf => by simp at hf
  | k :: ks, s, f + 1, h, hk, hf => by
    have h8 := two_pow3 hn
    have hp : 0 < 2 ^ n := Nat.pow_pos (by decide)
    obtain ⟨h1, h2⟩ := h.at hp
    have e : ¬ s.1.getD 0 0 = 0 := fun e => by rw [e] at hk; cases hk
    obtain ⟨q1, q2, _⟩ := ref_zero _ (show s.1.getD 0 0 < 8 by omega) e
    obtain ⟨k1, _⟩ := h.ref hn hp e
    rw [rfW, if_neg e]
    rw [hk] at q1 q2
    rw [q1] at k1 ⊢
    exact rf_zer hn ks (doW (turnG k []) s) f k1 (by
      show wiresM ((doL [k] s.1).getD 0 0) = ks
      rw [doL_getD h1]; exact q2) (by simp at hf; omega)
theorem refW_cir {n : Nat} {p : List Nat} (hn : n ≤ 3) (h : FInv n 0 p) : ∀ i, i < 2 ^ n → refW p (i + 1) = cirW p i ∧ FInv n (i + 1) (cirW p i).1
  | 0, hi => by
    have h8 := two_pow3 hn
    have h2 := (h.at hi).2
    refine ⟨?_, zerW_one hn h⟩
    exact rf_zer hn _ (p, []) 6 h rfl (by have := (wires8 _ (show p.getD 0 0 < 8 by omega)).1; show (wiresM (p.getD 0 0)).length ≤ 6; omega)
  | i + 1, hi => by
    obtain ⟨r1, r2⟩ := refW_cir hn h i (by omega)
    obtain ⟨q1, q2⟩ := rf_six hn hi r2
    refine ⟨?_, q2⟩
    rw [refW, r1, q1]; rfl
theorem refW_inv {n : Nat} {p : List Nat} (hn : n ≤ 3) (h : FInv n 0 p) : ∀ i, i ≤ 2 ^ n → FInv n i (refW p i).1
  | 0, _ => h
  | i + 1, hi => by
    obtain ⟨r1, r2⟩ := refW_cir hn h i (by omega)
    rw [r1]; exact r2
theorem circ_ref {L : List Nat} {n : Nat} (hn : n ≤ 3) (hL : L.length = 2 ^ n) (h : FInv n 0 L) (h0 : wideE (ofs L) = 0) : circP (ofs L) = (refW L L.length).2.reverse := by
  have hp : 0 < 2 ^ n := Nat.pow_pos (by decide)
  rw [circP, if_pos h0, nats_ofs, ofs_length]
  obtain ⟨r1, _⟩ := refW_cir hn h (L.length - 1) (by omega)
  rw [show L.length - 1 + 1 = L.length by omega] at r1
  rw [r1]
end Go.AM

/-! ### R34 -/
namespace Go.AM
open Go.Proofs
set_option maxRecDepth 100000
set_option linter.unusedVariables false
set_option linter.unusedSimpArgs false
theorem rfW_ge {i : Nat} : ∀ (f : Nat) (s : Work), s.2.length ≤ (rfW i f s).2.length
  | 0, s => Nat.le_refl _
  | f + 1, s => by
    rw [rfW]; split
    · omega
    · have := rfW_ge (i := i) f (doW (refGate i (s.1.getD i 0)) s)
      rw [doW_len] at this; omega
/-- A gate ahead of others. -/
theorem OwnG.cons {N : Nat} {m : Mem} {bl kd : Nat} {ws : Value} {w : List Nat} (hg : Mem.get m bl = .cells true #[nv kd, ws, nv 0, nv 0]) (hN : N ≤ bl) (hw : OwnF N m ws (ofs w)) (hb : ∀ b, blkOf ws = some b → b ≠ bl) :
    OwnG N m (.slice (some ⟨bl, 0, some 4⟩) 1 1) #[nv kd, ws, nv 0, nv 0] [(kd, w)] := by
  refine ⟨.inr ⟨bl, 1, _, rfl, hN, hg, Nat.le_refl _, rfl, rfl, fun i _ => rfl⟩, fun i g hi => ?_⟩
  have h1 := (List.getElem?_eq_some_iff.1 hi).1
  obtain rfl : i = 0 := by simp at h1; exact h1
  obtain rfl : (kd, w) = g := by simpa using hi
  exact ⟨ws, rfl, rfl, rfl, rfl, hw, fun b h e => by injection e with e; exact hb b h e.symm⟩
theorem okf19 : okF Tryd.prog H0 19 88 = true := by kernel_rfl
theorem spec_rCircuit {m : Mem} {a : Value} {p : List Int} (ha : IntsAt m a p) (hk : CapOk a) (hl : p.length < 1000000) : ∃ v m', ACalls Tryd.prog 19 #[a] m v m' ∧ (∃ s cs, v = .tuple #[.agg #[nv (wideN p), nv 0, s], nv (wideE p)] ∧ OwnG m.size m' s cs (circP p) ∧ Ext m m') := by
  obtain ⟨qp, capp, rfl⟩ := ha.len
  refine wpF (args := [_]) mixed okf19 (fn := Tryd.f19) rfl rfl rfl (by simp) ?_
  refine cSeq ?_
  refine cRegion ?_
  refine sAlloc Z30 (by kernel_rfl) ?_
  change wpOps _ _ _ _ _ (m.push (.cells true #[nv 0, nv 0, .slice none 0 0]))
  have e1 : Ext m (m.push (.cells true #[nv 0, nv 0, .slice none 0 0])) := .push _ _
  have g1 : Mem.get (m.push (.cells true #[nv 0, nv 0, .slice none 0 0])) m.size = .cells true #[nv 0, nv 0, .slice none 0 0] := gP rfl
  have z1 : (m.push (.cells true #[nv 0, nv 0, .slice none 0 0])).size = m.size + 1 := by simp
  generalize m.push (.cells true #[nv 0, nv 0, .slice none 0 0]) = m1 at *
  refine sAs (v := nv 0) rfl ?_
  refine sNil (kSeqN ?_)
  refine cSeq ?_
  refine cRegion ?_
  refine sMv (v := .slice _ _ _) rfl ?_
  obtain ⟨v16, m16, h16, rfl, rfl⟩ := spec_rWide (ha.ext e1) hk hl
  refine sCall1 rfl call17 rfl h16 ?_
  refine sMv (v := .tuple _) rfl ?_
  refine sP (v := nv _) rfl ?_   -- extract ['t14', '0']
  refine sP (v := nv _) rfl ?_   -- extract ['t14', '1']
  refine sAs (v := nv _) rfl ?_
  refine sAs (v := nv _) rfl ?_
  refine sNil (kSeqN ?_)
  refine cSeq ?_   -- seq 2
  refine cSeq ?_
  refine cRegion ?_
  refine sMv (v := nv _) rfl ?_
  refine sBin (a := wideE p) (b := 0) rfl rfl aInt_neq ?_
  refine sNil (kSeqN ?_)
  refine cCond rfl (fun c0 => ?_) (fun c0 => ?_)
  ·
    refine cSeq ?_
    refine cRegion ?_
    refine sBuild B57_0 ?_
    refine sMv (v := nv _) rfl ?_
    refine sStAll S30 rfl rfl g1 rfl rfl (by kernel_rfl) ?_
    refine sAs (v := nv _) rfl ?_
    refine sNil (kSeqN ?_)
    refine cRet (kSeqR ?_)
    refine ⟨.inr rfl, _, resRs_agg2 A30 S30 rfl (gS rfl (live g1)) rfl, .slice none 0 0, #[], ?_, ?_, ?_⟩
    · rw [show wideN p = 0 by rw [wideN, if_neg c0]]; rfl
    · rw [circP, if_neg c0]; exact .nil _ _
    · exact e1.set (Nat.le_refl _) _
  ·
    have h0 := Decidable.not_not.1 c0
    obtain ⟨L, rfl, hLl, hnd, hL8⟩ := wide_nat h0
    rw [show wideN (ofs L) = lenN L.length by rw [wideN, if_pos h0, ofs_length], h0]
    rw [ofs_length] at *
    obtain ⟨hn1, hn3, hn0⟩ := wide_len hL8
    generalize lenN L.length = n at *
    have h8 := two_pow3 hn3
    have hI0 : FInv n 0 L := ⟨hn1, fun x hx => by rw [← hn1]; exact hLl x hx, hnd, fun j hj => by omega⟩
    rw [circ_ref hn3 hn1 hI0 h0]
    refine cSkip (kSeqN ?_)
    refine cSeq ?_
    refine cRegion ?_
    refine sBuildS (c := #[]) T22 S3 Z3 (by decide) (by decide) (by decide) (by kernel_rfl) rfl rfl ?_
    refine sMv (v := .slice _ _ _) rfl ?_
    refine sApp App22 rfl rfl (N := m1.size) (p := []) (.inr ⟨m1.size, 0, #[], rfl, Nat.le_refl _, gP rfl, by simp, by simp, by simp⟩) ((ha.ext e1).ext (.push _ _)) (by simp) (by simp; omega) fun v3 m3 hO3 hL3 => ?_
    rw [List.nil_append] at hO3
    have e3 : Ext m1 m3 := hL3.to_ext (.push _ _) (Nat.le_refl _)
    obtain ⟨rb, cap, cF0, rfl, hrb, gr, hcF⟩ : ∃ rb cap cF, v3 = .slice (some ⟨rb, 0, some 1⟩) L.length cap ∧ m1.size ≤ rb ∧ Mem.get m3 rb = .cells true cF ∧ L.length ≤ cF.size ∧ ∀ (i x : Nat), L[i]? = some x → cF[i]? = some (nv x) := by
      rcases hO3 with ⟨h, _⟩ | ⟨b, cap, c, h1, h2, h3, h4, h5, h6⟩
      · exfalso; have := congrArg List.length h; rw [ofs_length] at this; simp at this; subst this; simp at hL8
      · rw [ofs_length] at h1 h4
        refine ⟨b, cap, c, h1, h2, h3, by omega, fun i x hx => h6 i x ?_⟩
        simp only [ofs, List.getElem?_map, hx]; rfl
    have hrm : rb < m3.size := live gr
    have g3 := e3.cells g1
    have z3 := e3.1
    have e13 : Ext m m3 := e1.trans e3
    refine sAs (v := .slice _ _ _) rfl ?_
    refine sNil (kSeqN ?_)
    refine cSeq ?_
    refine cRegion ?_
    refine sAs (v := .slice _ _ _) rfl ?_
    refine sNil (kSeqN ?_)
    refine cSeq ?_
    refine cSeq ?_
    refine cRegion ?_
    refine sAs (v := nv 0) rfl ?_
    refine sNil (kSeqN ?_)
    refine cBlock ?_
    refine wpC_loop (fun k ρ m' => ∃ i vl cs cF, k = L.length - i ∧ i ≤ L.length ∧ Ext m m' ∧ m3.size ≤ m'.size ∧ Mem.get m' m.size = .cells true #[nv 0, nv 0, .slice none 0 0] ∧ Mem.get m' rb = .cells true cF ∧ L.length ≤ cF.size ∧ (∀ (j x : Nat), (refW L i).1[j]? = some x → cF[j]? = some (nv x)) ∧ OwnG m3.size m' vl cs (refW L i).2.reverse ∧ Has ρ [(0, .slice qp L.length capp), (2, .pointer (some ⟨m.size, 0, none⟩)), (4, nv n), (6, .slice (some ⟨rb, 0, some 1⟩) L.length cap), (7, vl), (8, nv i)]) ⟨0, _, #[], cF0, rfl, Nat.zero_le _, e13, Nat.le_refl _, g3, gr, hcF.1, hcF.2, .nil _ _, rfl, rfl, rfl, rfl, rfl, rfl, trivial⟩ ?_
    rintro k ρ m' ⟨i, vl, cs, cF, rfl, hi, hE, hz, gm, gF, hFs, hFv, hO, hh⟩
    obtain ⟨qv, cv, rfl⟩ := hO.1.len
    rw [List.length_reverse] at *
    rw [hh.env]; clear hh
    refine cSeq ?_   -- seq 9
    refine cSeq ?_
    refine cRegion ?_
    refine sMv (v := nv _) rfl ?_
    refine sMv (v := .slice _ _ _) rfl ?_
    refine sLen T22 rfl ?_
    refine sBin rfl rfl (aInt_lss) ?_
    refine sNil (kSeqN ?_)
    refine cCond rfl (fun c1 => ?_) (fun c1 => ?_)
    ·
      have hi2 : i < 2 ^ n := by omega
      have hI := refW_inv hn3 hI0 i (by omega)
      have h8i := refW_len (p := L) (i + 1)
      refine cSkip (kSeqN ?_)
      refine cSeq ?_
      refine cBlock ?_
      refine cBlock ?_
      refine wpC_loop (fun k' ρ m2 => ∃ f s vl cs cF, k' = f ∧ rfW i f s = refW L (i + 1) ∧ FInv n i s.1 ∧ measO i (s.1.getD i 0) ≤ f ∧ Ext m m2 ∧ m3.size ≤ m2.size ∧ Mem.get m2 m.size = .cells true #[nv 0, nv 0, .slice none 0 0] ∧ Mem.get m2 rb = .cells true cF ∧ L.length ≤ cF.size ∧ (∀ (j x : Nat), s.1[j]? = some x → cF[j]? = some (nv x)) ∧ OwnG m3.size m2 vl cs s.2.reverse ∧ Has ρ [(0, .slice qp L.length capp), (2, .pointer (some ⟨m.size, 0, none⟩)), (4, nv n), (6, .slice (some ⟨rb, 0, some 1⟩) L.length cap), (7, vl), (8, nv i)]) ⟨6, refW L i, _, cs, cF, rfl, rfl, hI, ?_, hE, hz, gm, gF, hFs, hFv, hO, rfl, rfl, rfl, rfl, rfl, rfl, trivial⟩ ?_
      · have h2 := (hI.at hi2).2
        have := off_facts _ (show (refW L i).1.getD i 0 < 8 by omega) _ (show i < 8 by omega)
        unfold measO; omega
      rintro k' ρ m2 ⟨f, s, vl, cs, cF, rfl, hrf, hIs, hms, hE, hz, gm, gF, hFs, hFv, hO, hh⟩
      obtain ⟨qv, cv, rfl⟩ := hO.1.len
      rw [List.length_reverse] at *
      rw [hh.env]; clear hh
      have hsl := rfW_ge (i := i) k' s
      rw [hrf] at hsl
      obtain ⟨hA1, hA2⟩ := hIs.at hi2
      obtain ⟨A, hA⟩ : ∃ A, s.1.getD i 0 = A := ⟨_, rfl⟩
      rw [hA] at hA1 hA2 hms
      have hcA := hFv i A hA1
      have hsL := hIs.1
      refine cSeq ?_   -- seq 12
      refine cSeq ?_
      refine cRegion ?_
      refine sMv (v := .slice _ _ _) rfl ?_
      refine sMv (v := nv _) rfl ?_
      refine sIx T22 S3 rfl rfl (by omega) ?_
      refine sLd (v := nv A) A3 rfl gF (by simpa using hcA) ?_
      refine sMv (v := nv _) rfl ?_
      refine sBin (a := A) (b := i) rfl rfl aInt_neq ?_
      refine sNil (kSeqN ?_)
      refine cCond rfl (fun c2 => ?_) (fun c2 => ?_)
      ·
        obtain ⟨hG1, hG2, hG3, hG4, hG5, hG6, hG7, hG8, hG9⟩ := ref_gate n (by omega) A hA2 i hi2 c2
        have hstep := hIs.ref hn3 hi2 (by rw [hA]; exact c2)
        rw [hA] at hstep
        refine cSkip (kSeqN ?_)
        refine cBlock ?_
        refine cSeq ?_
        refine cDraw rfl ?_
        refine sMv (v := nv _) rfl ?_
        refine sMv (v := .slice _ _ _) rfl ?_
        refine sMv (v := nv _) rfl ?_
        refine sIx T22 S3 rfl rfl (by omega) ?_
        refine sLd (v := nv A) A3 rfl gF (by simpa using hcA) ?_
        refine sBin (a := i) (b := A) rfl rfl (aInt_andNot ⟨by omega, by omega⟩) ?_
        refine sMv (v := .slice _ _ _) rfl ?_
        refine sMv (v := nv _) rfl ?_
        refine sIx T22 S3 rfl rfl (by omega) ?_
        refine sLd (v := nv A) A3 rfl gF (by simpa using hcA) ?_
        refine sAs (v := nv _) rfl ?_
        refine sAs (v := nv _) rfl ?_
        refine sNil (kSeqN ?_)
        refine cCut (fun ρ M => m2 = M ∧ Has ρ [(0, .slice qp L.length capp), (2, .pointer (some ⟨m.size, 0, none⟩)), (4, nv n), (6, .slice (some ⟨rb, 0, some 1⟩) L.length cap), (7, .slice qv s.2.length cv), (8, nv i), (9, nv (if offM i A = 0 then offM A i else offM i A)), (10, nv (if offM i A = 0 then i else A))]) ?_ ?_
        ·
          refine cSeq ?_
          refine cRegion ?_
          refine sMv (v := nv _) rfl ?_
          refine sBin (a := offM i A) (b := 0) rfl rfl aInt_eql ?_
          refine sNil (kSeqN ?_)
          refine cCond rfl (fun c3 => ?_) (fun c3 => ?_)
          ·
            refine cRegion ?_
            refine sMv (v := .slice _ _ _) rfl ?_
            refine sMv (v := nv _) rfl ?_
            refine sIx T22 S3 rfl rfl (by omega) ?_
            refine sLd (v := nv A) A3 rfl gF (by simpa using hcA) ?_
            refine sMv (v := nv _) rfl ?_
            refine sBin (a := A) (b := i) rfl rfl (aInt_andNot ⟨by omega, by omega⟩) ?_
            refine sMv (v := nv _) rfl ?_
            refine sAs (v := nv _) rfl ?_
            refine sAs (v := nv _) rfl ?_
            refine sNil (kSeqN ?_)
            exact ⟨rfl, rfl, rfl, rfl, rfl, rfl, rfl, by rw [if_pos c3]; rfl, by rw [if_pos c3]; rfl, trivial⟩
          ·
            refine cSkip (kSeqN ?_)
            exact ⟨rfl, rfl, rfl, rfl, rfl, rfl, rfl, by rw [if_neg c3]; rfl, by rw [if_neg c3]; rfl, trivial⟩
        rintro ρ _ ⟨rfl, hh⟩
        rw [hh.env]; clear hh
        generalize (if offM i A = 0 then offM A i else offM i A) = fr at *
        generalize (if offM i A = 0 then i else A) = ct at *
        obtain ⟨hd3, hdb⟩ := head_bit fr hG3 hG2
        refine cSeq ?_
        refine cRegion ?_
        refine sAs (v := nv 0) rfl ?_
        refine sNil (kSeqN ?_)
        refine cSeq ?_
        refine cBlock ?_
        refine wpC_loop (fun k2 ρ M => ∃ j, k2 = 3 - j ∧ j ≤ (wiresM fr).headD 0 ∧ m2 = M ∧ Has ρ [(0, .slice qp L.length capp), (2, .pointer (some ⟨m.size, 0, none⟩)), (4, nv n), (6, .slice (some ⟨rb, 0, some 1⟩) L.length cap), (7, .slice qv s.2.length cv), (8, nv i), (9, nv fr), (10, nv ct), (11, nv j)]) ⟨0, rfl, Nat.zero_le _, rfl, rfl, rfl, rfl, rfl, rfl, rfl, rfl, rfl, rfl, trivial⟩ ?_
        rintro k2 ρ _ ⟨j, rfl, hj, rfl, hh⟩
        rw [hh.env]; clear hh
        refine cSeq ?_   -- seq 19
        refine cSeq ?_
        refine cRegion ?_
        refine sMv (v := nv _) rfl ?_
        refine sMv (v := nv _) rfl ?_
        obtain ⟨v59, m59, h59, rfl, rfl⟩ := spec_bit (m := m2) (x := fr) (k := j) (by omega)
        refine sCall2 rfl call80 rfl rfl h59 ?_
        refine sBin (b := 0) rfl rfl aInt_eql ?_
        refine sNil (kSeqN ?_)
        refine cCond rfl (fun c4 => ?_) (fun c4 => ?_)
        ·
          have hjl := (hdb j (by omega) hj).1 c4
          refine cSkip (kSeqN ?_)
          refine cBlock ?_
          refine cRegion ?_
          refine sMv (v := nv _) rfl ?_
          refine sBin rfl rfl (aInt_add (b := 1) (by omega)) ?_
          refine sAs (v := nv _) rfl ?_
          refine sNil (kBlkN (kSeqN ?_))
          refine ⟨_, ?_, j + 1, rfl, by omega, rfl, rfl, rfl, rfl, rfl, rfl, rfl, rfl, rfl, rfl, trivial⟩
          omega
        ·
          have hjl : j = (wiresM fr).headD 0 := by
            rcases Nat.lt_or_ge j ((wiresM fr).headD 0) with h | h
            · exact absurd ((hdb j (by omega) hj).2 h) c4
            · omega
          subst hjl
          refine cExit (kSeqE (kSeqE (kBlkS (kSeqN ?_))))
          refine cSeq ?_
          refine cRegion ?_
          refine sMv (v := nv _) rfl ?_
          refine sMv (v := nv _) rfl ?_
          obtain ⟨kd, w, hgt⟩ : ∃ kd w, refGate i A = (kd, w) := ⟨_, _, rfl⟩
          have hcall := spec_controlled (m := m2) (k := (wiresM fr).headD 0) (c := ct) hG4 hG5
          rw [← hG1, hgt] at hcall
          rw [hgt] at hG6 hG7 hG8 hG9
          dsimp only at hcall hG6 hG7 hG8 hG9
          obtain ⟨v65, m65, h65, w65, rfl, o65, e65⟩ := hcall
          refine sCall2 rfl call81 rfl rfl h65 ?_
          have z65 := e65.1
          obtain ⟨qw, cw, rfl⟩ := o65.ints.lenN
          refine sAllocB (bl := m65.size) rfl Z49 (by kernel_rfl) ?_
          refine sStNAB rfl S49 rfl rfl rfl rfl (by kernel_rfl) ?_
          have e0 : Ext m65 (m65.push (.cells true #[nv kd, .slice qw w.length cw, nv 0, nv 0])) := .push _ _
          have g0 : Mem.get (m65.push (.cells true #[nv kd, .slice qw w.length cw, nv 0, nv 0])) m65.size = .cells true #[nv kd, .slice qw w.length cw, nv 0, nv 0] := gP rfl
          have z0 : (m65.push (.cells true #[nv kd, .slice qw w.length cw, nv 0, nv 0])).size = m65.size + 1 := by simp
          have hrm2 : rb < m2.size := live gF
          have gF0 := (e65.trans e0).cells gF
          have o0 := o65.ext e0
          have hO0 := hO.ext (e65.trans e0)
          have hE0 := hE.trans (e65.trans e0)
          have gm0 := (e65.trans e0).cells gm
          generalize m65.push (.cells true #[nv kd, .slice qw w.length cw, nv 0, nv 0]) = M0 at *
          generalize m65.size = gb at *
          refine sNil (kSeqN ?_)
          refine cSeq ?_
          refine cSeq ?_
          refine cRegion ?_
          refine sMv (v := .slice _ _ _) rfl ?_
          refine sLen T22 rfl ?_
          refine sMv (v := nv 0) rfl ?_
          refine sNil (kSeqN ?_)
          refine cBlock ?_
          refine wpC_loop (fun k3 ρ M => ∃ j c', k3 = L.length - j ∧ j ≤ L.length ∧ M0.size ≤ M.size ∧ Mem.get M rb = .cells true c' ∧ c'.size = cF.size ∧ (∀ (q x : Nat), s.1[q]? = some x → c'[q]? = some (nv (if q < j then turnM x w else x))) ∧ (∀ b, b < M0.size → b ≠ rb → Mem.get M b = Mem.get M0 b) ∧ Has ρ [(0, .slice qp L.length capp), (2, .pointer (some ⟨m.size, 0, none⟩)), (4, nv n), (6, .slice (some ⟨rb, 0, some 1⟩) L.length cap), (7, .slice qv s.2.length cv), (8, nv i), (12, .pointer (some ⟨gb, 0, none⟩)), (66, .slice (some ⟨rb, 0, some 1⟩) L.length cap), (67, nv L.length), (68, nv j)]) ⟨0, cF, rfl, Nat.zero_le _, Nat.le_refl _, gF0, rfl, fun q x hx => by rw [if_neg (by omega)]; exact hFv q x hx, fun _ _ _ => rfl, rfl, rfl, rfl, rfl, rfl, rfl, rfl, rfl, rfl, rfl, trivial⟩ ?_
          rintro k3 ρ M ⟨j, c', rfl, hj, hzM, gr', hcs, hcv, hke, hh⟩
          rw [hh.env]; clear hh
          refine cSeq ?_
          refine cRegion ?_
          refine sBin rfl rfl (aInt_lss) ?_
          refine sNil (kSeqN ?_)
          refine cSeq ?_   -- seq 25
          refine cCond rfl (fun c5 => ?_) (fun c5 => ?_)
          ·
            obtain ⟨x, hx⟩ : ∃ x, s.1[j]? = some x := ⟨_, List.getElem?_eq_getElem (by omega)⟩
            have hxm := List.mem_of_getElem? hx
            have hxl := hIs.2.1 x hxm
            have hci := hcv j x hx
            rw [if_neg (by omega)] at hci
            refine cSkip (kSeqN ?_)
            refine cSeq ?_
            refine cBlock ?_
            refine cSeq ?_
            refine cRegion ?_
            refine sMv (v := nv _) rfl ?_
            refine sAs (v := nv _) rfl ?_
            refine sNil (kSeqN ?_)
            refine cDraw rfl ?_
            refine sMv (v := .slice _ _ _) rfl ?_
            refine sMv (v := nv _) rfl ?_
            refine sLdAll A49 S49 rfl ((hke _ (by omega) (by omega)).trans g0) rfl ?_
            refine sMv (v := .slice _ _ _) rfl ?_
            refine sMv (v := nv _) rfl ?_
            refine sIx T22 S3 rfl rfl (by omega) ?_
            refine sLd (v := nv x) A3 rfl gr' (by simpa using hci) ?_
            obtain ⟨v78, m78, h78, rfl, e78⟩ := spec_Done (m := M) (N := m2.size + 1) (kd := kd) (x := x) (o0.up fun b h1 h2 => hke b h2 (by omega)) hG9 hG8 hG7 (fun y hy => by have := hG6 y hy; omega) (by omega)
            refine sCall2 rfl call82 rfl rfl h78 ?_
            have gr78 := e78.cells gr'
            have z78 := e78.1
            refine sIx T22 S3 rfl rfl (by omega) ?_
            refine sSt (v := nv _) S3 rfl rfl gr78 (by simp; omega) rfl rfl ?_
            refine sNil (kBlkN (kSeqN ?_))
            refine cRegion ?_
            refine sBin rfl rfl (aInt_add (b := 1) (by omega)) ?_
            refine sMv (v := nv _) rfl ?_
            refine sNil (kSeqN ?_)
            refine ⟨_, ?_, j + 1, _, rfl, by omega, by simp; omega, gS rfl (live gr78), by simp [hcs], fun q y hy => ?_, fun b h1 h2 => ?_, rfl, rfl, rfl, rfl, rfl, rfl, rfl, rfl, rfl, rfl, trivial⟩
            · omega
            · rw [Array.getElem?_setIfInBounds]
              by_cases hji : q = j
              · subst hji
                rw [hx] at hy
                obtain rfl := Option.some.inj hy
                rw [if_pos (by simp), if_pos (by simp; omega), if_pos (by omega)]
              · rw [if_neg (by simp; omega), hcv q y hy]
                congr 2
                by_cases h : q < j
                · rw [if_pos h, if_pos (by omega)]
                · rw [if_neg h, if_neg (by omega)]
            · rw [gSn (by omega), e78.2 b (by omega)]; exact hke b h1 h2
          ·
            obtain rfl : j = L.length := by omega
            have gg := (hke gb (by omega) (by omega)).trans g0
            have hOM : OwnG m3.size M (.slice qv s.2.length cv) cs s.2.reverse := hO0.up fun b h1 h2 => hke b h2 (by omega)
            have hwM := o0.up (m' := M) fun b h1 h2 => hke b h2 (by omega)
            refine cExit (kSeqE (kSeqE (kBlkS (kSeqN ?_))))
            refine cRegion ?_
            refine sLdAll A49 S49 rfl gg rfl ?_
            refine sBuildS T28 S49 Z49 (by decide) (by decide) (by decide) (by kernel_rfl) fillA4 rfl ?_
            have eM : Ext M (M.push (.cells true #[nv kd, .slice qw w.length cw, nv 0, nv 0])) := .push _ _
            have gM : Mem.get (M.push (.cells true #[nv kd, .slice qw w.length cw, nv 0, nv 0])) M.size = .cells true #[nv kd, .slice qw w.length cw, nv 0, nv 0] := gP rfl
            have zM : (M.push (.cells true #[nv kd, .slice qw w.length cw, nv 0, nv 0])).size = M.size + 1 := by simp
            have hwb := fun b hb => hwM.lt (b := b) hb
            have hO1 := OwnG.cons (N := m3.size) (w := w) gM (by omega) ((hwM.ext eM).mono (by omega)) (fun b hb => by have := (hwb b hb).2; omega)
            have hO2 := hOM.ext eM
            generalize M.push (.cells true #[nv kd, .slice qw w.length cw, nv 0, nv 0]) = M1 at *
            refine sMv (v := .slice _ _ _) rfl ?_
            refine sAppCn El55 rfl rfl (N := m3.size) hO1.1 hO2.1.src (src_one (x := .slice none 0 0) (v := .slice (some ⟨M.size, 0, some 4⟩) 1 1) (Gs := s.2.reverse) (by rw [hO2.1.size]) (fun i g hi => by
              obtain ⟨u, h1, h2, h3, h4, ho, hb⟩ := hO2.2 i g hi
              exact ⟨u, h1, h2, h3, h4, ho, fun b hb' e => by
                have e' : M.size = b := Option.some.inj e
                obtain ⟨u', h1', h2', _, _, ho', _⟩ := hOM.2 i g hi
                rw [h2] at h2'
                obtain rfl := Option.some.inj h2'
                have := (ho'.lt hb').2
                omega⟩)) (by omega) (by simp) (by rw [List.length_reverse]; omega) fun v' m84 hO4 hL4 hG4 => ?_
            have hR := hO1.grewN hO2.1.size (fun i g hi => by
              obtain ⟨u, h1, h2, h3, h4, ho, hb⟩ := hO2.2 i g hi
              exact ⟨u, h1, h2, h3, h4, ho, fun b hb' e => by
                have e' : M.size = b := Option.some.inj e
                obtain ⟨u', h1', h2', _, _, ho', _⟩ := hOM.2 i g hi
                rw [h2] at h2'
                obtain rfl := Option.some.inj h2'
                have := (ho'.lt hb').2
                omega⟩) hG4 hO4
            obtain ⟨q84, c84, rfl⟩ := hO4.len
            have z84 := hL4.1
            refine sAs (v := .slice _ _ _) rfl ?_
            refine sNil (kBlkN (kSeqN ?_))
            obtain ⟨f', rfl⟩ : ∃ f', k' = f' + 1 := ⟨k' - 1, by omega⟩
            rw [rfW, hA, if_neg c2, hgt] at hrf
            rw [hgt] at hstep
            have hlo : ∀ b, b < m3.size → Mem.get m84 b = Mem.get M b := fun b hb => (hL4.2 b hb).trans (eM.2 b (by omega))
            have gr84 : Mem.get m84 rb = .cells true c' := (hlo rb hrm).trans gr'
            refine ⟨_, ?_, f', doW (kd, w) s, _, #[nv kd, .slice qw w.length cw, nv 0, nv 0] ++ cs, c', rfl, hrf, hstep.1, ?_, ?_, by omega, ?_, gr84, by omega, fun q y hy => ?_, ?_, rfl, rfl, rfl, rfl, rfl, rfl, trivial⟩
            · omega
            · have := hstep.2
              show measO i ((doL w s.1).getD i 0) ≤ f'
              have h3 : measO i ((doL w s.1).getD i 0) < measO i A := this
              omega
            · exact ⟨by omega, fun b hb => by rw [hlo b (by omega), hke b (by omega) (by omega)]; exact hE0.2 b hb⟩
            · rw [hlo _ (by omega), hke _ (by omega) (by omega)]; exact gm0
            · have hy' : (doL w s.1)[q]? = some y := hy
              unfold doL at hy'
              rw [List.getElem?_map] at hy'
              obtain ⟨x, hx, rfl⟩ := Option.map_eq_some_iff.1 hy'
              have := hcv q x hx
              rwa [if_pos (by have := (List.getElem?_eq_some_iff.1 hx).1; omega)] at this
            · show OwnG m3.size m84 _ _ (s.2 ++ [(kd, w)]).reverse
              rw [List.reverse_append]; exact hR
      ·
        have ha := Decidable.not_not.1 c2
        rw [rfW_done (by rw [hA]; exact ha)] at hrf
        subst hrf
        refine cExit (kSeqE (kSeqE (kBlkS (kBlkN (kSeqN ?_)))))
        refine cRegion ?_
        refine sMv (v := nv _) rfl ?_
        refine sBin rfl rfl (aInt_add (b := 1) (by omega)) ?_
        refine sAs (v := nv _) rfl ?_
        refine sNil (kSeqN ?_)
        refine ⟨_, ?_, i + 1, _, cs, cF, rfl, by omega, hE, hz, gm, gF, hFs, hFv, hO, rfl, rfl, rfl, rfl, rfl, rfl, trivial⟩
        omega
    ·
      obtain rfl : i = L.length := by omega
      refine cExit (kSeqE (kSeqE (kBlkS (kSeqN ?_))))
      refine cSeq ?_
      refine cRegion ?_
      refine sMv (v := nv _) rfl ?_
      refine sMv (v := .slice _ _ _) rfl ?_
      refine sBuild B30k ?_
      refine sStAll S30 rfl rfl gm rfl rfl (by kernel_rfl) ?_
      refine sAs (v := nv 0) rfl ?_
      refine sNil (kSeqN ?_)
      refine cRet ?_
      refine ⟨.inr rfl, _, resRs_agg2 A30 S30 rfl (gS rfl (live gm)) rfl, _, cs, rfl, ?_, ?_⟩
      · have := hO.only (.set m.size m' (.cells true #[nv n, nv 0, .slice qv (refW L L.length).2.length cv])) (by omega)
        exact this.mono (by omega)
      · exact hE.set (Nat.le_refl _) _
end Go.AM

/-! ### R35 -/
namespace Go.AM
open Go.Proofs
set_option maxRecDepth 100000
set_option linter.unusedVariables false
set_option linter.unusedSimpArgs false
theorem sMkB {ρ : Env} {m : Mem} {K : Env → Mem → Prop} {ops : Array Oper} {l : List Oper} {d : Option Nat} {ty : TypeId} {pos : String} {af : Array Edge} {x y : Operand} {n : Nat} (hx : evR ρ x = nv n) (hy : evR ρ y = nv n) (hn : n ≤ 1000000)
    (hk : wpOps Tryd.prog ops K l (updO ρ d (.slice (some ⟨m.size, 0, some 1⟩) n n)) (m.push (.cells true (Array.replicate n (.bool false))))) : wpOps Tryd.prog ops K (⟨d, .makeSlice 87 x y, ty, pos, af, none⟩ :: l) ρ m := by
  refine sO (opF_eff rfl rfl ?_) hk
  simp only [aEff, hx, hy, aMakeSlice, T87, S4, Z4, bytes4, nv]
  rw [if_pos ⟨by decide, by decide, by kernel_rfl, by simp, by simp, by simp; omega, by simp; omega⟩]
  have e1 : ((Array.range ((Int.ofNat n).toNat * 1)).map fun x => (Value.bool false).cells[x % (Value.bool false).cells.size]!) = Array.replicate n (.bool false) := by
    apply Array.ext
    · simp
    · intro i h1 h2
      simp [Value.cells, Nat.mod_one]
  rw [e1]; rfl
/-- What was met, in a row of truths. -/
def MetB (m : Mem) (b n : Nat) (met : List Nat) : Prop := ∃ B, Mem.get m b = .cells true B ∧ B.size = n ∧ ∀ y, y < n → B[y]? = some (.bool (decide (y ∈ met)))
theorem MetB.keep {m m' : Mem} {b n : Nat} {met : List Nat} (h : MetB m b n met) (he : Mem.get m' b = Mem.get m b) : MetB m' b n met := by
  obtain ⟨B, h1, h2⟩ := h; exact ⟨B, he.trans h1, h2⟩
theorem okf22 : okF Tryd.prog H0 22 53 = true := by kernel_rfl
theorem spec_rCycles {m : Mem} {a : Value} {p : List Int} (ha : IntsAt m a p) (hk : CapOk a) (hl : p.length < 1000000) : ∃ v m', ACalls Tryd.prog 22 #[a] m v m' ∧ (∃ w cs, v = .tuple #[w, nv (wideE p)] ∧ OwnR m.size m' w cs (ofs2 (cyclesP p)) ∧ Ext m m') := by
  obtain ⟨q, cap, rfl⟩ := ha.len
  refine wpF (args := [_]) mixed okf22 (fn := Tryd.f22) rfl rfl rfl (by simp) ?_
  refine cSeq ?_
  refine cRegion ?_
  refine sAs (v := .slice _ _ _) rfl ?_
  refine sAs (v := nv 0) rfl ?_
  refine sNil (kSeqN ?_)
  refine cSeq ?_
  refine cSeq ?_
  refine cRegion ?_
  refine sMv (v := .slice _ _ _) rfl ?_
  obtain ⟨v13, m13, h13, rfl, rfl⟩ := spec_rWide ha hk hl
  refine sCall1 rfl call17 rfl h13 ?_
  refine sMv (v := .tuple _) rfl ?_
  refine sP (v := nv _) rfl ?_   -- extract ['t11', '0']
  refine sP (v := nv _) rfl ?_   -- extract ['t11', '1']
  refine sAs (v := nv _) rfl ?_
  refine sAs (v := nv _) rfl ?_
  refine sNil (kSeqN ?_)
  refine cSeq ?_
  refine cRegion ?_
  refine sMv (v := nv _) rfl ?_
  refine sBin (a := wideE p) (b := 0) rfl rfl aInt_neq ?_
  refine sNil (kSeqN ?_)
  refine cCond rfl (fun c0 => ?_) (fun c0 => ?_)
  ·
    refine cSeq ?_
    refine cRegion ?_
    refine sMv (v := nv _) rfl ?_
    refine sAs (v := .slice _ _ _) rfl ?_
    refine sAs (v := nv _) rfl ?_
    refine sNil (kSeqN ?_)
    refine cRet (kSeqR ?_)
    exact ⟨.inr rfl, _, rfl, _, #[], rfl, by rw [cyclesP, if_neg c0]; exact .nil _ _, .refl _⟩
  ·
    have h0 := Decidable.not_not.1 c0
    obtain ⟨L, rfl, hLl, hnd, hL8⟩ := wide_nat h0
    rw [cyclesP, if_pos h0, nats_ofs, h0]
    rw [ofs_length] at *
    refine cSkip (kSeqN ?_)
    refine cSeq ?_
    refine cRegion ?_
    refine sAs (v := .slice _ _ _) rfl ?_
    refine sNil (kSeqN ?_)
    refine cSeq ?_
    refine cRegion ?_
    refine sMv (v := .slice _ _ _) rfl ?_
    refine sLen T22 rfl ?_
    refine sMkB rfl rfl (by omega) ?_
    refine sAs (v := .slice _ _ _) rfl ?_
    refine sNil (kSeqN ?_)
    refine cSeq ?_
    refine cSeq ?_
    refine cRegion ?_
    refine sMv (v := .slice _ _ _) rfl ?_
    refine sLen T22 rfl ?_
    refine sMv (v := nv 0) rfl ?_
    refine sNil (kSeqN ?_)
    refine cBlock ?_
    refine wpC_loop (fun k ρ m' => ∃ i v cs, k = L.length - i ∧ i ≤ L.length ∧ Ext m m' ∧ m.size < m'.size ∧ MetB m' m.size L.length (cycUp L i).1 ∧ (cycUp L i).1.Nodup ∧ (∀ x ∈ (cycUp L i).1, x < L.length) ∧ OwnR (m.size + 1) m' v cs (ofs2 (cycUp L i).2) ∧ Has ρ [(0, .slice q L.length cap), (6, v), (7, .slice (some ⟨m.size, 0, some 1⟩) L.length L.length), (22, .slice q L.length cap), (23, nv L.length), (24, nv i)]) ⟨0, _, #[], rfl, Nat.zero_le _, .push _ _, by simp, ⟨_, gP rfl, by simp, fun y hy => by simp [cycUp, hy]⟩, by simp [cycUp], by simp [cycUp], .nil _ _, rfl, rfl, rfl, rfl, rfl, rfl, trivial⟩ ?_
    rintro k ρ m' ⟨i, v, cs, rfl, hi, hE, hz, gm, hmn, hml, hO, hh⟩
    obtain ⟨qv, cv, rfl⟩ := hO.1.len
    rw [hh.env]; clear hh
    rw [ofs2_length] at *
    refine cSeq ?_
    refine cRegion ?_
    refine sBin rfl rfl (aInt_lss) ?_
    refine sNil (kSeqN ?_)
    refine cSeq ?_   -- seq 10
    refine cCond rfl (fun c1 => ?_) (fun c1 => ?_)
    ·
      refine cSkip (kSeqN ?_)
      refine cSeq ?_
      refine cBlock ?_
      refine cSeq ?_
      refine cRegion ?_
      refine sMv (v := nv _) rfl ?_
      refine sAs (v := nv _) rfl ?_
      refine sNil (kSeqN ?_)
      refine cSeq ?_
      refine cRegion ?_
      refine sAs (v := .slice _ _ _) rfl ?_
      refine sNil (kSeqN ?_)
      refine cSeq ?_
      refine cSeq ?_
      refine cRegion ?_
      refine sMv (v := nv _) rfl ?_
      refine sAs (v := nv _) rfl ?_
      refine sNil (kSeqN ?_)
      refine cBlock ?_
      refine wpC_loop (fun k' ρ m2 => ∃ met l vl x f, k' = L.length - met.length ∧ met.Nodup ∧ (∀ y ∈ met, y < L.length) ∧ x < L.length ∧ L.length < f + met.length ∧ cycW L f met l x = cycW L (L.length + 1) (cycUp L i).1 [] i ∧ l.length ≤ L.length + 1 ∧ l.length ≤ met.length ∧ Ext m m2 ∧ m'.size ≤ m2.size ∧ (∀ b, b < m'.size → b ≠ m.size → Mem.get m2 b = Mem.get m' b) ∧ MetB m2 m.size L.length met ∧ OwnF m'.size m2 vl (ofs l) ∧ Has ρ [(0, .slice q L.length cap), (6, .slice qv (cycUp L i).2.length cv), (7, .slice (some ⟨m.size, 0, some 1⟩) L.length L.length), (9, vl), (10, nv x), (22, .slice q L.length cap), (23, nv L.length), (24, nv i)]) ⟨(cycUp L i).1, [], _, i, L.length + 1, rfl, hmn, hml, c1, by omega, rfl, by simp, by simp, hE, Nat.le_refl _, fun _ _ _ => rfl, gm, .nil _ _, rfl, rfl, rfl, rfl, rfl, rfl, rfl, rfl, trivial⟩ ?_
      rintro k' ρ m2 ⟨met, l, vl, x, f, rfl, hn2, hl2, hx, hf, hcy, hll, hlm, hE2, hz2, hk2, ⟨B, gm2, hBs, hBv⟩, hvl, hh⟩
      obtain ⟨qw, cw, rfl⟩ := hvl.ints.lenN
      rw [hh.env]; clear hh
      have hmle := nodup_le hn2 hl2
      refine cSeq ?_   -- seq 16
      refine cSeq ?_
      refine cRegion ?_
      refine sMv (v := .slice _ _ _) rfl ?_
      refine sMv (v := nv _) rfl ?_
      refine sIx T87 S4 rfl rfl (by omega) ?_
      refine sLd (v := .bool (decide (x ∈ met))) A4 rfl gm2 (by simpa using hBv x hx) ?_
      refine sP (v := .bool (decide (¬ x ∈ met))) (by
        show some (Value.bool (!decide (x ∈ met))) = _
        rw [decide_not]) ?_
      refine sNil (kSeqN ?_)
      refine cCond (p := ¬ x ∈ met) rfl (fun c2 => ?_) (fun c2 => ?_)
      ·
        have hmlt : met.length < L.length := by
          have := nodup_le (l := met ++ [x]) (n := L.length) (by
            rw [List.nodup_append]
            exact ⟨hn2, by simp, fun y hy z hz e => by simp at hz; subst hz; subst e; exact c2 hy⟩) (fun y hy => by
            rw [List.mem_append] at hy
            rcases hy with hy | hy
            · exact hl2 y hy
            · simp at hy; omega)
          simp at this; omega
        refine cSkip (kSeqN ?_)
        refine cSeq ?_
        refine cBlock ?_
        refine cSeq ?_
        refine cRegion ?_
        refine sMv (v := .slice _ _ _) rfl ?_
        refine sMv (v := nv _) rfl ?_
        refine sIx T87 S4 rfl rfl (by omega) ?_
        refine sSt (v := .bool true) S4 rfl rfl gm2 (by simp; omega) rfl rfl ?_
        have gm3 : MetB (m2.setIfInBounds m.size (.cells true (B.setIfInBounds (0 + x * 1) (.bool true)))) m.size L.length (met ++ [x]) := ⟨_, gS rfl (by omega), by simp [hBs], fun y hy => by
          rw [Array.getElem?_setIfInBounds]
          by_cases h : x = y
          · subst h; rw [if_pos (by simp), if_pos (by simp; omega), decide_eq_true (by simp)]
          · rw [if_neg (by simpa using h), hBv y hy]
            congr 2
            simp [show ¬ y = x from fun e => h e.symm]⟩
        have hvl3 : OwnF m'.size (m2.setIfInBounds m.size (.cells true (B.setIfInBounds (0 + x * 1) (.bool true)))) (.slice qw l.length cw) (ofs l) := hvl.up fun b hb _ => gSn (by omega)
        have hE3 : Ext m (m2.setIfInBounds m.size (.cells true (B.setIfInBounds (0 + x * 1) (.bool true)))) := hE2.set (by omega) _
        have hk3 : ∀ b, b < m'.size → b ≠ m.size → Mem.get (m2.setIfInBounds m.size (.cells true (B.setIfInBounds (0 + x * 1) (.bool true)))) b = Mem.get m' b := fun b h1 h2 => (gSn (fun e => h2 e.symm)).trans (hk2 b h1 h2)
        have hz3 : (m2.setIfInBounds m.size (.cells true (B.setIfInBounds (0 + x * 1) (.bool true)))).size = m2.size := by simp
        generalize m2.setIfInBounds m.size (.cells true (B.setIfInBounds (0 + x * 1) (.bool true))) = m3 at *
        refine sNil (kSeqN ?_)
        refine cRegion ?_
        refine sMv (v := .slice _ _ _) rfl ?_
        refine sMv (v := nv _) rfl ?_
        refine sBuildS T22 S3 Z3 (by decide) (by decide) (by decide) (by kernel_rfl) fill1 rfl ?_
        refine sApp App22 rfl rfl (N := m'.size) (hvl3.ext (.push _ _)) one_ints (by simp; omega) (by rw [ofs_length]; simp; omega) fun v4 m4 hO4 hL4 => ?_
        rw [show ofs l ++ [Int.ofNat x] = ofs (l ++ [x]) by rw [ofs_append]; rfl] at hO4
        obtain ⟨q4, c4, rfl⟩ := hO4.ints.lenN
        have hz4 := hL4.1
        simp only [Array.size_push] at hz4
        have hlo4 : ∀ b, b < m'.size → Mem.get m4 b = Mem.get m3 b := fun b hb => by rw [hL4.2 b hb, gPn (by omega)]
        have hE4 : Ext m m4 := ⟨by omega, fun b hb => by have := hE.1; rw [hlo4 b (by omega)]; exact hE3.2 b hb⟩
        obtain ⟨b5, o5, p5, r5, cc5, e5, g5, x5⟩ := (ha.ext hE4).atN (by omega)
        cases e5
        refine sAs (v := .slice _ _ _) rfl ?_
        refine sNil (kBlkN (kSeqN ?_))
        refine cRegion ?_
        refine sMv (v := .slice _ _ _) rfl ?_
        refine sMv (v := nv _) rfl ?_
        refine sIx T22 S3 rfl rfl (by omega) ?_
        refine sLd (v := nv L[x]) A3 rfl g5 (x5 x L[x] (by simp)) ?_
        refine sAs (v := nv _) rfl ?_
        refine sNil (kSeqN ?_)
        refine ⟨_, ?_, met ++ [x], l ++ [x], _, L[x], f - 1, rfl, ?_, fun y hy => ?_, hLl _ (List.getElem_mem _), ?_, ?_, ?_, ?_, hE4, by omega, fun b h1 h2 => (hlo4 b h1).trans (hk3 b h1 h2), gm3.keep (hlo4 _ hz), hO4, rfl, rfl, rfl, rfl, rfl, rfl, rfl, rfl, trivial⟩
        · simp; omega
        · rw [List.nodup_append]
          exact ⟨hn2, by simp, fun y hy z hz e => by simp at hz; subst hz; subst e; exact c2 hy⟩
        · rw [List.mem_append] at hy
          rcases hy with hy | hy
          · exact hl2 y hy
          · simp at hy; omega
        · simp; omega
        · rw [← hcy]
          obtain ⟨f', rfl⟩ : ∃ f', f = f' + 1 := ⟨f - 1, by omega⟩
          rw [show f' + 1 - 1 = f' by omega, cycW, if_neg c2]
          congr 1
          rw [List.getD_eq_getElem?_getD, List.getElem?_eq_getElem hx]; rfl
        · simp; omega
        · simp; omega
      ·
        have hxm : x ∈ met := Decidable.not_not.1 c2
        have hres : cycW L (L.length + 1) (cycUp L i).1 [] i = (met, l) := by
          rw [← hcy]
          obtain ⟨f', rfl⟩ : ∃ f', f = f' + 1 := ⟨f - 1, by omega⟩
          rw [cycW, if_pos hxm]
        have hO2 : OwnR (m.size + 1) m2 (.slice qv (cycUp L i).2.length cv) cs (ofs2 (cycUp L i).2) := by
          refine ⟨?_, fun j g hj => ?_⟩
          · exact hO.1.up fun b h1 h2 => hk2 b h2 (by omega)
          · obtain ⟨s, a1, a2, a3⟩ := hO.2 j g hj
            exact ⟨s, a1, a2.up fun b h1 h2 => hk2 b h2 (by omega), a3⟩
        have hcl := cycUp_len (p := L) i
        have gmB : MetB m2 m.size L.length met := ⟨B, gm2, hBs, hBv⟩
        refine cExit (kSeqE (kSeqE (kBlkS (kSeqN ?_))))
        refine cSeq ?_
        refine cRegion ?_
        refine sMv (v := .slice _ _ _) rfl ?_
        refine sLen T22 rfl ?_
        refine sBin (a := l.length) (b := 1) rfl rfl aInt_gtr ?_
        refine sNil (kSeqN ?_)
        refine cCond (p := 1 < l.length) rfl (fun c3 => ?_) (fun c3 => ?_)
        ·
          refine cRegion ?_
          refine sMv (v := .slice _ _ _) rfl ?_
          refine sMv (v := .slice _ _ _) rfl ?_
          refine sBuildS T34 S22 Z22 (by decide) (by decide) (by decide) (by kernel_rfl) fillV rfl ?_
          refine sAppC El22 rfl rfl (N := m.size + 1) (n := (cycUp L i).2.length) (cs := cs) (d := #[.slice qw l.length cw]) (by have := (hO2.1).ext (.push m2 (.cells true #[.slice qw l.length cw])); rw [ofs2_length] at this; exact this) (gP rfl) rfl (by kernel_rfl) (by simp; omega) (by omega) fun v' m4 hO4 hL4 hG4 => ?_
          have hgr := (show OwnR (m.size + 1) (m2.push (.cells true #[.slice qw l.length cw])) (.slice qv (cycUp L i).2.length cv) cs (ofs2 (cycUp L i).2) from ⟨hO2.1.ext (.push _ _), fun j g hj => by obtain ⟨s, a1, a2, a3⟩ := hO2.2 j g hj; exact ⟨s, a1, a2.ext (.push _ _), a3⟩⟩).grew ((hvl.mono (by omega)).ext (.push _ _)) (fun b hb e => by
            have h1 := (hvl.lt hb).1
            have h2 := (hO.1.lt e).2
            omega) hG4 (by rw [ofs2_length]; exact hO4)
          obtain ⟨q4, c4, rfl⟩ := hO4.len
          have hz4 := hL4.1
          simp only [Array.size_push] at hz4
          refine sAs (v := .slice _ _ _) rfl ?_
          refine sNil (kBlkN (kSeqN ?_))
          refine cRegion ?_
          refine sBin rfl rfl (aInt_add (b := 1) (by omega)) ?_
          refine sMv (v := nv _) rfl ?_
          refine sNil (kSeqN ?_)
          refine ⟨_, ?_, i + 1, .slice q4 ((cycUp L i).2.length + 1) c4, cs ++ #[.slice qw l.length cw], rfl, by omega, ?_, by omega, ?_, ?_, ?_, ?_, rfl, rfl, rfl, rfl, rfl, rfl, trivial⟩
          · omega
          · exact ⟨by have := hE2.1; omega, fun b hb => by rw [hL4.2 b (by omega), gPn (by have := hE2.1; omega)]; exact hE2.2 b hb⟩
          · simp only [cycUp, hres]
            exact gmB.keep (by rw [hL4.2 _ (by omega), gPn (by omega)])
          · simp only [cycUp, hres]; exact hn2
          · simp only [cycUp, hres]; exact hl2
          · simp only [cycUp, hres, if_pos c3, ofs2_append]; exact hgr
        ·
          refine cSkip (kBlkN (kSeqN ?_))
          refine cRegion ?_
          refine sBin rfl rfl (aInt_add (b := 1) (by omega)) ?_
          refine sMv (v := nv _) rfl ?_
          refine sNil (kSeqN ?_)
          refine ⟨_, ?_, i + 1, .slice qv (cycUp L i).2.length cv, cs, rfl, by omega, hE2, by omega, ?_, ?_, ?_, ?_, rfl, rfl, rfl, rfl, rfl, rfl, trivial⟩
          · omega
          · simp only [cycUp, hres]; exact gmB
          · simp only [cycUp, hres]; exact hn2
          · simp only [cycUp, hres]; exact hl2
          · simp only [cycUp, hres, if_neg c3]; exact hO2
    ·
      obtain rfl : i = L.length := by omega
      refine cExit (kSeqE (kSeqE (kBlkS (kSeqN ?_))))
      refine cSeq ?_
      refine cRegion ?_
      refine sMv (v := .slice _ _ _) rfl ?_
      refine sAs (v := .slice _ _ _) rfl ?_
      refine sAs (v := nv 0) rfl ?_
      refine sNil (kSeqN ?_)
      refine cRet ?_
      exact ⟨.inr rfl, _, rfl, _, cs, rfl, ⟨hO.1.mono (by omega), fun j g hj => by obtain ⟨s, a1, a2, a3⟩ := hO.2 j g hj; exact ⟨s, a1, a2.mono (by omega), a3⟩⟩, hE⟩
def sumLen (l : List (List Nat)) : Nat := (l.map fun c => c.length - 1).sum
theorem sumLen_snoc (l : List (List Nat)) (c : List Nat) : sumLen (l ++ [c]) = sumLen l + (c.length - 1) := by simp [sumLen]
theorem even_sum : ∀ l : List (List Nat), (∀ c ∈ l, 0 < c.length) → (l.foldl (fun e c => e != decide (c.length % 2 = 0)) true) = decide (sumLen l % 2 = 0) := by
  refine list_snoc _ (fun _ => rfl) (fun l c ih h => ?_)
  rw [List.foldl_append, sumLen_snoc, ih (fun d hd => h d (by simp [hd]))]
  have h0 := h c (by simp)
  show (decide (sumLen l % 2 = 0) != decide (c.length % 2 = 0)) = _
  by_cases h1 : sumLen l % 2 = 0 <;> by_cases h2 : c.length % 2 = 0
  · rw [decide_eq_true h1, decide_eq_true h2, decide_eq_false (by omega)]; rfl
  · rw [decide_eq_true h1, decide_eq_false h2, decide_eq_true (by omega)]; rfl
  · rw [decide_eq_false h1, decide_eq_true h2, decide_eq_true (by omega)]; rfl
  · rw [decide_eq_false h1, decide_eq_false h2, decide_eq_false (by omega)]; rfl
theorem cycUp_two {p : List Nat} : ∀ i, ∀ c ∈ (cycUp p i).2, 1 < c.length
  | 0, c, h => by simp [cycUp] at h
  | i + 1, c, h => by
    simp only [cycUp] at h
    split at h
    · rename_i h1
      rw [List.mem_append] at h
      rcases h with h | h
      · exact cycUp_two i c h
      · simp at h; subst h; exact h1
    · exact cycUp_two i c h
theorem cyclesP_two {p : List Int} : ∀ c ∈ cyclesP p, 1 < c.length := by
  intro c h
  unfold cyclesP at h
  split at h
  · exact cycUp_two _ c h
  · simp at h
theorem cycUp_most {p : List Nat} : ∀ i, ∀ c ∈ (cycUp p i).2, c.length ≤ p.length + 1
  | 0, c, h => by simp [cycUp] at h
  | i + 1, c, h => by
    simp only [cycUp] at h
    split at h
    · rw [List.mem_append] at h
      rcases h with h | h
      · exact cycUp_most i c h
      · simp at h; subst h
        have := cycW_len (p := p) (p.length + 1) (cycUp p i).1 [] i
        simpa using this
    · exact cycUp_most i c h
theorem cyclesP_most {p : List Int} : ∀ c ∈ cyclesP p, c.length ≤ 9 := by
  intro c h
  unfold cyclesP at h
  split at h
  · rename_i h0
    obtain ⟨L, rfl, _, _, h8⟩ := wide_nat h0
    have := cycUp_most _ c h
    rw [nats_ofs] at this
    omega
  · simp at h
theorem okf24 : okF Tryd.prog H0 24 32 = true := by kernel_rfl
theorem spec_rEven {m : Mem} {a : Value} {p : List Int} (ha : IntsAt m a p) (hk : CapOk a) (hl : p.length < 1000000) : ∃ v m', ACalls Tryd.prog 24 #[a] m v m' ∧ (v = .tuple #[.bool (evenP p), nv (wideE p)] ∧ Ext m m') := by
  obtain ⟨q, cap, rfl⟩ := ha.len
  refine wpF (args := [_]) mixed okf24 (fn := Tryd.f24) rfl rfl rfl (by simp) ?_
  refine cSeq ?_
  refine cRegion ?_
  refine sAs (v := .bool _) rfl ?_
  refine sAs (v := nv 0) rfl ?_
  refine sNil (kSeqN ?_)
  refine cSeq ?_
  refine cRegion ?_
  refine sMv (v := .slice _ _ _) rfl ?_
  obtain ⟨v11, m11, h11, w11, cs11, rfl, o11, e11⟩ := spec_rCycles ha hk hl
  refine sCall1 rfl call22 rfl h11 ?_
  have r11 := o11.rows
  obtain ⟨q11, c11, rfl⟩ := r11.len
  refine sMv (v := .tuple _) rfl ?_
  refine sP (v := .slice _ _ _) rfl ?_   -- extract ['t9', '0']
  refine sP (v := nv _) rfl ?_   -- extract ['t9', '1']
  refine sAs (v := .slice _ _ _) rfl ?_
  refine sAs (v := nv _) rfl ?_
  refine sNil (kSeqN ?_)
  refine cSeq ?_   -- seq 2
  refine cSeq ?_
  refine cRegion ?_
  refine sMv (v := nv _) rfl ?_
  refine sBin (a := wideE p) (b := 0) rfl rfl aInt_neq ?_
  refine sNil (kSeqN ?_)
  refine cCond rfl (fun c0 => ?_) (fun c0 => ?_)
  ·
    refine cSeq ?_
    refine cRegion ?_
    refine sMv (v := nv _) rfl ?_
    refine sAs (v := .bool _) rfl ?_
    refine sAs (v := nv _) rfl ?_
    refine sNil (kSeqN ?_)
    refine cRet (kSeqR ?_)
    exact ⟨.inr rfl, _, rfl, by rw [evenP, if_neg c0]; rfl, e11⟩
  ·
    have h0 := Decidable.not_not.1 c0
    rw [evenP, if_pos h0, h0, even_sum _ (fun c hc => by have := cyclesP_two c hc; omega)]
    rw [ofs2_length] at *
    refine cSkip (kSeqN ?_)
    refine cSeq ?_
    refine cRegion ?_
    refine sAs (v := nv 0) rfl ?_
    refine sNil (kSeqN ?_)
    refine cSeq ?_
    refine cSeq ?_
    refine cRegion ?_
    refine sMv (v := .slice _ _ _) rfl ?_
    refine sLen T34 rfl ?_
    have hcl := cyclesP_len p
    refine sMv (v := nv 0) rfl ?_
    refine sNil (kSeqN ?_)
    refine cBlock ?_
    refine wpC_loop (fun k ρ m' => ∃ i, k = (cyclesP p).length - i ∧ i ≤ (cyclesP p).length ∧ sumLen ((cyclesP p).take i) ≤ 1000000 * i ∧ m11 = m' ∧ Has ρ [(6, nv (sumLen ((cyclesP p).take i))), (17, .slice q11 (cyclesP p).length c11), (18, nv (cyclesP p).length), (19, nv i)]) ⟨0, rfl, Nat.zero_le _, Nat.zero_le _, rfl, rfl, rfl, rfl, rfl, trivial⟩ ?_
    rintro k ρ _ ⟨i, rfl, hi, hsb, rfl, hh⟩
    rw [hh.env]; clear hh
    refine cSeq ?_
    refine cRegion ?_
    refine sBin rfl rfl (aInt_lss) ?_
    refine sNil (kSeqN ?_)
    refine cSeq ?_   -- seq 9
    refine cCond rfl (fun c1 => ?_) (fun c1 => ?_)
    ·
      obtain ⟨b2, o2, p2, r2, cd, e2, g2, x2⟩ := r11.at (by rw [ofs2_length]; omega)
      rw [ofs2_length] at e2
      cases e2
      obtain ⟨c, hc⟩ : ∃ c, (cyclesP p)[i]? = some c := ⟨_, List.getElem?_eq_getElem c1⟩
      obtain ⟨s1, hs1, ha1⟩ := x2 i _ (ofs2_get hc)
      obtain ⟨qs, csz, rfl⟩ := ha1.lenN
      have hc2 := cyclesP_two c (List.mem_of_getElem? hc)
      have hc8 := cyclesP_most c (List.mem_of_getElem? hc)
      refine cSkip (kSeqN ?_)
      refine cSeq ?_
      refine cBlock ?_
      refine cSeq ?_
      refine cRegion ?_
      refine sIx T34 S22 rfl rfl (by omega) ?_
      refine sLd (v := .slice qs c.length csz) A22 rfl g2 hs1 ?_
      refine sAs (v := .slice _ _ _) rfl ?_
      refine sNil (kSeqN ?_)
      refine cRegion ?_
      refine sMv (v := nv _) rfl ?_
      refine sMv (v := .slice _ _ _) rfl ?_
      refine sLen T22 rfl ?_
      refine sBin (v := nv (c.length - 1)) rfl rfl (aInt_sub (b := 1) (by omega)) ?_
      refine sBin (a := sumLen ((cyclesP p).take i)) (b := c.length - 1) rfl rfl (aInt_add (by omega)) ?_
      refine sAs (v := nv _) rfl ?_
      refine sNil (kBlkN (kSeqN ?_))
      refine cRegion ?_
      refine sBin rfl rfl (aInt_add (b := 1) (by omega)) ?_
      refine sMv (v := nv _) rfl ?_
      refine sNil (kSeqN ?_)
      refine ⟨_, ?_, i + 1, rfl, by omega, ?_, rfl, ?_, rfl, rfl, rfl, trivial⟩
      · omega
      · rw [List.take_add_one, hc]
        show sumLen (_ ++ [c]) ≤ _
        rw [sumLen_snoc]; omega
      · rw [List.take_add_one, hc]
        show _ = nv (sumLen (_ ++ [c]))
        rw [sumLen_snoc]; rfl
    ·
      obtain rfl : i = (cyclesP p).length := by omega
      rw [List.take_length] at *
      refine cExit (kSeqE (kSeqE (kBlkS (kSeqN ?_))))
      refine cSeq ?_
      refine cRegion ?_
      refine sMv (v := nv _) rfl ?_
      refine sBin (a := sumLen (cyclesP p)) (b := 2) rfl rfl (aInt_rem (by decide)) ?_
      refine sBin (a := sumLen (cyclesP p) % 2) (b := 0) rfl rfl aInt_eql ?_
      refine sAs (v := .bool _) rfl ?_
      refine sAs (v := nv 0) rfl ?_
      refine sNil (kSeqN ?_)
      refine cRet ?_
      exact ⟨.inr rfl, _, rfl, rfl, e11⟩
end Go.AM

/-! ### R36 -/
namespace Go.AM
open Go.Proofs
set_option maxRecDepth 100000
set_option linter.unusedVariables false
set_option linter.unusedSimpArgs false
theorem sClrK {P : Program} {ρ : Env} {m : Mem} {K : Env → Mem → Prop} {ops : Array Oper} {l : List Oper} {d : Option Nat} {ty t e : TypeId} {pos : String} {af : Array Edge} {x : Operand} {s z : Value} {N w n : Nat}
    (ht : undOf P t = some (.slice e)) (hz : zeroOf P e = some z) (h0 : z.cells.size = w) (hw : w ≠ 0) (h2 : z.cells.all flat0 = true) (h3 : z.cells.all Value.oneCell' = true) (hx : evR ρ x = s) (hs : WrC N m s w n)
    (hk : ∀ m', m'.size = m.size → (∀ b, blkOf s ≠ some b → Mem.get m' b = Mem.get m b) → wpOps P ops K l (updO ρ d (.tuple #[])) m') : wpOps P ops K (⟨d, .call ⟨.builtin .clear, ⟨[x]⟩, ⟨[t]⟩⟩, ty, pos, af, none⟩ :: l) ρ m := by
  subst h0
  rcases hs with ⟨rfl, _⟩ | ⟨b, cap, c, rfl, hN, hb, hn⟩
  · refine sO (opF_eff rfl rfl ?_) (hk m rfl fun _ _ => rfl)
    simp only [aEff, hx, aClear, ht]
  · by_cases h0 : n = 0
    · refine sO (opF_eff rfl rfl ?_) (hk m rfl fun _ _ => rfl)
      simp only [aEff, hx, aClear, ht, h0, if_true]
    · refine sO (opF_eff rfl rfl ?_) (hk (m.setIfInBounds b (.cells true (lay c 0 (Builtin.zeroCells z.cells n)))) (by simp) fun i hi => gSn fun e => hi (by rw [← e]; rfl))
      simp only [aEff, hx, aClear, ht, if_neg h0, hz, hb]
      rw [if_pos ⟨hw, h2, by omega, zeroCells_all h3 hw⟩]
/-- What holds while gates are spoiled. -/
def SpJ (N M : Nat) (v : Value) (m m' : Mem) : Prop := (m.size + 1 ≤ m'.size ∧ ∀ b, b < m.size → b < N ∨ M ≤ b → Mem.get m' b = Mem.get m b) ∧ (∀ b, blkOf v = some b → Mem.get m' b = Mem.get m b) ∧ ∀ b c, b < m.size → Mem.get m b = .cells true c → ∃ c', Mem.get m' b = .cells true c' ∧ c'.size = c.size
theorem SpJ.next {N M : Nat} {v : Value} {m m' m2 : Mem} {o : AObj} (h : SpJ N M v m m') (hN : N ≤ m.size) (hv : ∀ b, blkOf v = some b → b < m.size) (hw : Wipe N M (m'.push o) m2) (hk : ∀ b, blkOf v = some b → Mem.get m2 b = Mem.get (m'.push o) b) : SpJ N M v m m2 := by
  obtain ⟨⟨h1, h2⟩, h3, h4⟩ := h
  refine ⟨⟨by rw [hw.1]; simp; omega, fun b hb hb' => ?_⟩, fun b hb => ?_, fun b c hb hc => ?_⟩
  · rw [hw.2.1 b hb', gPn (by omega)]; exact h2 b hb hb'
  · have := hv b hb
    rw [hk b hb, gPn (by omega)]; exact h3 b hb
  · obtain ⟨c1, hc1, e1⟩ := h4 b c hb hc
    obtain ⟨c2, hc2, e2⟩ := hw.2.2 b c1 ((gPn (by omega)).trans hc1)
    exact ⟨c2, hc2, e2.trans e1⟩
theorem spec_SpoilW {mM m : Mem} {N W B : Nat} {v : Value} {cs : Array Value} {Gs : List (Nat × List Nat)} (hOM : OwnG N mM v cs Gs) (hE : Ext mM m) (hN : N ≤ mM.size) (hl : Gs.length < 1000000) : ∃ w m', ACalls Tryd.prog 26 #[.agg #[nv W, nv B, v]] m w m' ∧ (m.size ≤ m'.size ∧ ∀ b, b < m.size → b < N ∨ mM.size ≤ b → Mem.get m' b = Mem.get m b) := by
  have hO := hOM.ext hE
  have hzM := hE.1
  obtain ⟨q, cap, rfl⟩ := hO.1.len
  have hvl : ∀ b, blkOf (.slice q Gs.length cap) = some b → b < m.size := fun b hb => (hO.1.lt hb).2
  refine wpF (args := [_]) mixed okf26 (fn := Tryd.f26) rfl rfl rfl (by simp) ?_
  refine cSeq ?_
  refine cRegion ?_
  refine sBox (v := .agg _) rfl ?_
  refine sNil (kSeqN ?_)
  refine cSeq ?_
  refine cSeq ?_
  refine cRegion ?_
  refine sFA F30_2 rfl ?_
  refine sLd A28 rfl (by simp (disch := first | omega | (simp only [Array.size_push, Array.size_setIfInBounds]; done) | (simp only [Array.size_push, Array.size_setIfInBounds]; omega)) only [gP, gPn, gS, gSn]; try rfl) rfl ?_
  refine sLen T28 rfl ?_
  refine sMv (v := nv 0) rfl ?_
  refine sNil (kSeqN ?_)
  refine cBlock ?_
  refine wpC_loop (fun k ρ m' => ∃ i, k = Gs.length - i ∧ i ≤ Gs.length ∧ SpJ N mM.size (.slice q Gs.length cap) m m' ∧ Mem.get m' m.size = .cells true #[nv W, nv B, .slice q Gs.length cap] ∧ Has ρ [(1, .pointer (some ⟨m.size, 0, none⟩)), (5, .slice q Gs.length cap), (6, nv Gs.length), (7, nv i)]) ⟨0, rfl, Nat.zero_le _, ⟨⟨by simp, fun b hb _ => gPn hb⟩, fun b hb => gPn (by have := hvl b hb; omega), fun b c hb hc => ⟨c, (gPn hb).trans hc, rfl⟩⟩, gP rfl, rfl, rfl, rfl, rfl, trivial⟩ ?_
  rintro k ρ m' ⟨i, rfl, hi, hS, gB, hh⟩
  rw [hh.env]; clear hh
  have hz := hS.1.1
  refine cSeq ?_
  refine cRegion ?_
  refine sBin rfl rfl (aInt_lss) ?_
  refine sNil (kSeqN ?_)
  refine cSeq ?_   -- seq 4
  refine cCond rfl (fun c0 => ?_) (fun c0 => ?_)
  ·
    obtain ⟨b1, p1, cc, e1, hb1, g1, hc1, x1⟩ := hO.1.at (by omega)
    cases e1
    obtain ⟨s, hs0, hs1, hs2, hs3, hso, hsb⟩ := hO.2 i Gs[i] (List.getElem?_eq_getElem c0)
    obtain ⟨s', _, hs1', _, _, hso', _⟩ := hOM.2 i Gs[i] (List.getElem?_eq_getElem c0)
    rw [hs1] at hs1'
    obtain rfl := Option.some.inj hs1'
    have hsM := hso.wr (M := mM.size) fun b hb => (hso'.lt hb).2
    obtain ⟨qs, c', rfl⟩ := hso.ints.len
    have hex : cc.extract (0 + i * 4) (0 + i * 4 + 4) = #[nv Gs[i].1, .slice qs (ofs Gs[i].2).length c', nv 0, nv 0] := quad_atD (by rw [x1 _ (by omega)]; exact hs0) (by rw [x1 _ (by omega)]; exact hs1) (by rw [x1 _ (by omega)]; exact hs2) (by rw [x1 _ (by omega)]; exact hs3)
    have gb' := (hS.2.1 b1 rfl).trans g1
    have hsW : Wr N mM.size (m'.push (.cells true #[nv Gs[i].1, .slice qs (ofs Gs[i].2).length c', nv 0, nv 0])) (.slice qs (ofs Gs[i].2).length c') (ofs Gs[i].2).length := by
      rcases hsM with ⟨h1, h2⟩ | ⟨b, cp, c, h1, h2, h3, h4⟩
      · exact .inl ⟨h1, h2⟩
      · obtain ⟨d, hd, e⟩ := hS.2.2 b c (by omega) h3
        exact .inr ⟨b, cp, d, h1, h2, (gPn (by omega)).trans hd, by omega⟩
    refine cSkip (kSeqN ?_)
    refine cSeq ?_
    refine cBlock ?_
    refine cSeq ?_
    refine cRegion ?_
    refine sIx T28 S49 rfl rfl c0 ?_
    refine sLdA A49 S49 rfl gb' (by omega) ?_
    rw [hex]
    refine sAlloc Z49 (by kernel_rfl) ?_
    refine sStNA S49 rfl rfl rfl rfl (by kernel_rfl) ?_
    refine sNil (kSeqN ?_)
    refine cRegion ?_
    refine sFA F49_1 rfl ?_
    refine sLd (v := .slice _ _ _) A22 rfl (gP rfl) rfl ?_
    refine sClrW (N := N) (M := mM.size) T22 Z3 rfl rfl rfl rfl hsW fun m2 hw2 hk2 => ?_
    have hS2 := hS.next (by omega) hvl hw2 fun b hb => hk2 b fun e => hsb b e hb
    have gB2 : Mem.get m2 m.size = .cells true #[nv W, nv B, .slice (some ⟨b1, 0, some 4⟩) Gs.length cap] := by
      rw [hw2.2.1 m.size (.inr hzM), gPn (by omega)]; exact gB
    refine sNil (kBlkN (kSeqN ?_))
    refine cRegion ?_
    refine sBin rfl rfl (aInt_add (b := 1) (by omega)) ?_
    refine sMv (v := nv _) rfl ?_
    refine sNil (kSeqN ?_)
    refine ⟨_, ?_, i + 1, rfl, by omega, hS2, gB2, rfl, rfl, rfl, rfl, trivial⟩
    omega
  ·
    have hWC : WrC N m' (.slice q Gs.length cap) 4 Gs.length := by
      rcases hO.1 with ⟨h1, h2, _⟩ | ⟨b, cp, c, h1, h2, h3, h4, h5, _⟩
      · exact .inl ⟨h1, h2⟩
      · exact .inr ⟨b, cp, c, h1, h2, (hS.2.1 b (by rw [h1]; rfl)).trans h3, by rw [h5]; exact Nat.mul_le_mul_right 4 h4⟩
    refine cExit (kSeqE (kSeqE (kBlkS (kSeqN ?_))))
    refine cRegion ?_
    refine sFA F30_2 rfl ?_
    refine sLd (v := .slice _ _ _) A28 rfl gB rfl ?_
    refine sClrK (N := N) (w := 4) T28 Z49 rfl (by decide) (by kernel_rfl) (by kernel_rfl) rfl hWC fun m2 hz2 hk2 => ?_
    refine sNil ?_
    refine ⟨.inl rfl, _, rfl, by rw [hz2]; omega, fun b hb hb' => (hk2 b fun e => ?_).trans (hS.1.2 b hb hb')⟩
    have := hOM.1.lt e
    omega
end Go.AM

/-! ### R37 -/
namespace Go.AM
open Go.Proofs
set_option maxRecDepth 100000
set_option linter.unusedVariables false
set_option linter.unusedSimpArgs false
theorem refGate_len (i a : Nat) : (refGate i a).2.length ≤ 13 := by
  have h1 := nodesUp_len a 12
  have h2 := nodesUp_len i 12
  unfold refGate
  split
  · simp only [dnGate, turnG, List.length_append, List.length_singleton]; show (nodesUp i 12).length + 1 ≤ 13; omega
  · simp only [upGate, turnG, List.length_append, List.length_singleton]; show (nodesUp a 12).length + 1 ≤ 13; omega
theorem rfW_wires {i : Nat} : ∀ (f : Nat) (s : Work), (∀ g ∈ s.2, g.2.length ≤ 13) → ∀ g ∈ (rfW i f s).2, g.2.length ≤ 13
  | 0, s, h => h
  | f + 1, s, h => by
    rw [rfW]; split
    · exact h
    · refine rfW_wires f _ fun g hg => ?_
      unfold doW at hg
      rw [List.mem_append] at hg
      rcases hg with hg | hg
      · exact h g hg
      · rw [List.mem_singleton] at hg; subst hg; exact refGate_len _ _
theorem refW_wires {p : List Nat} : ∀ i, ∀ g ∈ (refW p i).2, g.2.length ≤ 13
  | 0 => fun g hg => by cases hg
  | i + 1 => rfW_wires 6 _ (refW_wires i)
theorem circ_facts (p : List Int) : (circP p).length ≤ 48 ∧ ∀ g ∈ circP p, g.2.length ≤ 13 := by
  by_cases h0 : wideE p = 0
  · obtain ⟨L, rfl, hLl, hnd, hL8⟩ := wide_nat h0
    obtain ⟨hn1, hn3, hn0⟩ := wide_len hL8
    rw [circ_ref hn3 hn1 ⟨hn1, fun x hx => by rw [← hn1]; exact hLl x hx, hnd, fun j hj => by omega⟩ h0]
    refine ⟨?_, fun g hg => refW_wires _ g (List.mem_reverse.1 hg)⟩
    have := refW_len (p := L) L.length
    rw [List.length_reverse]; omega
  · rw [circP, if_neg h0]; simp
theorem eqlBool (q : Bool) : aBin Tryd.prog .eql 4 (.bool q) (.bool q) = some (.bool true) := by cases q <;> kernel_rfl
theorem OwnR.keep2 {N : Nat} {m m' : Mem} {v : Value} {cs : Array Value} {G : List (List Int)} (h : OwnR N m v cs G) (hk : ∀ b, N ≤ b → b < m.size → Mem.get m' b = Mem.get m b) : OwnR N m' v cs G :=
  ⟨h.1.up hk, fun j g hj => by obtain ⟨s, a1, a2, a3⟩ := h.2 j g hj; exact ⟨s, a1, a2.up hk, a3⟩⟩
theorem okf3 : okF Tryd.prog H0 3 113 = true := by kernel_rfl
theorem spec_PermutesLaw {m : Mem} {a : Value} {p : List Int} (hC : GlobC m) (hW : GlobW m) (ha : IntsAt m a p) (hk : CapOk a) : ∃ v m', ACalls Tryd.prog 3 #[a] m v m' ∧ (v = .bool true ∧ Ext m m') := by
  obtain ⟨q, cap, rfl⟩ := ha.len
  refine wpF (args := [_]) mixed okf3 (fn := Tryd.f3) rfl rfl rfl (by simp) ?_
  refine cSeq ?_
  refine cRegion ?_
  refine sAs (v := .bool _) rfl ?_
  refine sNil (kSeqN ?_)
  refine cSeq ?_   -- seq 1
  refine cSeq ?_
  refine cRegion ?_
  refine sMv (v := .slice _ _ _) rfl ?_
  refine sLen T22 rfl ?_
  refine sBin (a := p.length) (b := 20) rfl rfl aInt_gtr ?_
  refine sNil (kSeqN ?_)
  refine cCond rfl (fun c0 => ?_) (fun c0 => ?_)
  ·
    refine cSeq ?_
    refine cRegion ?_
    obtain ⟨v20, m20, h20, rfl, e20⟩ := spec_awake hC hW
    refine sCall0 rfl call14 h20 ?_
    refine sAs (v := .bool _) rfl ?_
    refine sNil (kSeqN ?_)
    refine cRet (kSeqR ?_)
    exact ⟨.inr rfl, _, rfl, rfl, e20⟩
  ·
    have hp : p.length ≤ 20 := by omega
    have hl : p.length < 1000000 := by omega
    obtain ⟨hc48, hc13⟩ := circ_facts p
    have hcy := cyclesP_len p
    refine cSkip (kSeqN ?_)
    refine cSeq ?_
    refine cRegion ?_
    refine sMv (v := .slice _ _ _) rfl ?_
    obtain ⟨v22, m22, h22, o22, e22⟩ := spec_Clone ha (by omega)
    have i22 := o22.ints
    obtain ⟨q22, c22, rfl⟩ := i22.len
    refine sCall1 rfl call15 rfl h22 ?_
    refine sAs (v := .slice _ _ _) rfl ?_
    refine sNil (kSeqN ?_)
    refine cSeq ?_
    refine cRegion ?_
    refine sMv (v := .slice _ _ _) rfl ?_
    obtain ⟨v25, m25, h25, rfl, e25⟩ := spec_Wide i22 hl
    refine sCall1 rfl call16 rfl h25 ?_
    refine sMv (v := .tuple _) rfl ?_
    refine sP (v := nv _) rfl ?_   -- extract ['t23', '0']
    refine sP (v := nv _) rfl ?_   -- extract ['t23', '1']
    refine sAs (v := nv _) rfl ?_
    refine sAs (v := nv _) rfl ?_
    refine sNil (kSeqN ?_)
    refine cSeq ?_
    refine cRegion ?_
    refine sMv (v := .slice _ _ _) rfl ?_
    obtain ⟨v30, m30, h30, rfl, rfl⟩ := spec_rWide (ha.ext (e22.trans e25)) hk hl
    refine sCall1 rfl call17 rfl h30 ?_
    refine sMv (v := .tuple _) rfl ?_
    refine sP (v := nv _) rfl ?_   -- extract ['t28', '0']
    refine sP (v := nv _) rfl ?_   -- extract ['t28', '1']
    refine sAs (v := nv _) rfl ?_
    refine sAs (v := nv _) rfl ?_
    refine sNil (kSeqN ?_)
    refine cSeq ?_
    refine cRegion ?_
    refine sMv (v := .slice _ _ _) rfl ?_
    obtain ⟨v35, m35, h35, s35, cs35, rfl, o35, e35⟩ := spec_Circuit (i22.ext e25) hl
    obtain ⟨q35, c35, rfl⟩ := o35.1.len
    refine sCall1 rfl call18 rfl h35 ?_
    refine sMv (v := .tuple _) rfl ?_
    refine sP (v := .agg _) rfl ?_   -- extract ['t33', '0']
    refine sP (v := nv _) rfl ?_   -- extract ['t33', '1']
    refine sAllocB (bl := m35.size) rfl Z30 (by kernel_rfl) ?_
    refine sStNAB rfl S30 rfl rfl rfl rfl (by kernel_rfl) ?_
    have xs8 : Ext m35 (m35.push (.cells true #[nv (wideN p), nv 0, .slice q35 (circP p).length c35])) := .push _ _
    have gs8 : Mem.get (m35.push (.cells true #[nv (wideN p), nv 0, .slice q35 (circP p).length c35])) m35.size = .cells true #[nv (wideN p), nv 0, .slice q35 (circP p).length c35] := gP rfl
    generalize m35.push (.cells true #[nv (wideN p), nv 0, .slice q35 (circP p).length c35]) = ms8 at *
    refine sAs (v := nv _) rfl ?_
    refine sNil (kSeqN ?_)
    refine cSeq ?_
    refine cRegion ?_
    refine sMv (v := .slice _ _ _) rfl ?_
    obtain ⟨v40, m40, h40, s40, cs40, rfl, o40, e40⟩ := spec_rCircuit (ha.ext (((e22.trans e25).trans e35).trans xs8)) hk hl
    obtain ⟨q40, c40, rfl⟩ := o40.1.len
    refine sCall1 rfl call19 rfl h40 ?_
    refine sMv (v := .tuple _) rfl ?_
    refine sP (v := .agg _) rfl ?_   -- extract ['t38', '0']
    refine sP (v := nv _) rfl ?_   -- extract ['t38', '1']
    refine sAllocB (bl := m40.size) rfl Z30 (by kernel_rfl) ?_
    refine sStNAB rfl S30 rfl rfl rfl rfl (by kernel_rfl) ?_
    have xs10 : Ext m40 (m40.push (.cells true #[nv (wideN p), nv 0, .slice q40 (circP p).length c40])) := .push _ _
    have gs10 : Mem.get (m40.push (.cells true #[nv (wideN p), nv 0, .slice q40 (circP p).length c40])) m40.size = .cells true #[nv (wideN p), nv 0, .slice q40 (circP p).length c40] := gP rfl
    generalize m40.push (.cells true #[nv (wideN p), nv 0, .slice q40 (circP p).length c40]) = ms10 at *
    refine sAs (v := nv _) rfl ?_
    refine sNil (kSeqN ?_)
    refine cSeq ?_   -- seq 9
    refine cSeq ?_
    refine cRegion ?_
    refine sMv (v := nv _) rfl ?_
    refine sMv (v := nv _) rfl ?_
    refine sBin (v := .bool false) (a := wideN p) (b := wideN p) rfl rfl (neqF rfl) ?_
    refine sMv (v := .bool false) rfl ?_
    refine sG rfl rfl ?_
    refine sMv (v := nv _) rfl ?_
    refine sG rfl rfl ?_
    refine sMv (v := nv _) rfl ?_
    refine sG rfl rfl ?_
    refine sBin (v := .bool false) (a := wideE p) (b := wideE p) rfl rfl (neqF rfl) ?_
    refine sP (v := .bool false) rfl ?_
    refine sMv (v := .bool false) rfl ?_
    refine sG rfl rfl ?_
    refine sLdAll A30 S30 rfl ((e40.trans xs10).cells gs8) rfl ?_
    refine sG rfl rfl ?_
    refine sLdAll A30 S30 rfl gs10 rfl ?_
    refine sG rfl rfl ?_
    obtain ⟨v54, m54, h54, rfl, e54⟩ := spec_Same (W := wideN p) (B := 0) (W' := wideN p) (B' := 0) (o35.gates.ext ((xs8.trans e40).trans xs10)) (o40.gates.ext xs10) (by rw [List.length_map]; omega) (fun g hg => by
      obtain ⟨g', hg', rfl⟩ := List.mem_map.1 hg
      have := hc13 g' hg'
      show (ofs g'.2).length < _
      rw [ofs_length]; omega)
    rw [decide_eq_true ⟨rfl, rfl, rfl⟩] at h54
    refine sCall2 rfl call20 rfl rfl h54 ?_
    have E54 : Ext m22 m54 := (((((e25.trans e35).trans xs8).trans e40).trans xs10).trans e54)
    refine sG rfl rfl ?_
    refine sP (v := .bool false) rfl ?_
    refine sP (v := .bool false) rfl ?_
    refine sMv (v := .bool false) rfl ?_
    refine sG rfl rfl ?_
    refine sMv (v := nv _) rfl ?_
    refine sG rfl rfl ?_
    refine sMv (v := nv _) rfl ?_
    refine sG rfl rfl ?_
    refine sBin (v := .bool false) (a := wideE p) (b := wideE p) rfl rfl (neqF rfl) ?_
    refine sP (v := .bool false) rfl ?_
    refine sNil (kSeqN ?_)
    refine cCondF rfl ?_
    refine cSkip (kSeqN ?_)
    refine cSeq ?_
    refine cRegion ?_
    refine sMv (v := .slice _ _ _) rfl ?_
    obtain ⟨v64, m64, h64, s64, cs64, rfl, o64, e64⟩ := spec_Cycles (i22.ext E54) hl
    obtain ⟨q64, c64, rfl⟩ := o64.rows.len
    refine sCall1 rfl call21 rfl h64 ?_
    refine sMv (v := .tuple _) rfl ?_
    refine sP (v := .slice _ _ _) rfl ?_   -- extract ['t62', '0']
    refine sP (v := nv _) rfl ?_   -- extract ['t62', '1']
    refine sAs (v := .slice _ _ _) rfl ?_
    refine sAs (v := nv _) rfl ?_
    refine sNil (kSeqN ?_)
    refine cSeq ?_
    refine cRegion ?_
    refine sMv (v := .slice _ _ _) rfl ?_
    obtain ⟨v69, m69, h69, s69, cs69, rfl, o69, e69⟩ := spec_rCycles (ha.ext ((e22.trans E54).trans e64)) hk hl
    obtain ⟨q69, c69, rfl⟩ := o69.rows.len
    refine sCall1 rfl call22 rfl h69 ?_
    refine sMv (v := .tuple _) rfl ?_
    refine sP (v := .slice _ _ _) rfl ?_   -- extract ['t67', '0']
    refine sP (v := nv _) rfl ?_   -- extract ['t67', '1']
    refine sAs (v := .slice _ _ _) rfl ?_
    refine sAs (v := nv _) rfl ?_
    refine sNil (kSeqN ?_)
    refine cSeq ?_
    refine cRegion ?_
    refine sMv (v := .slice _ _ _) rfl ?_
    obtain ⟨v74, m74, h74, rfl, e74⟩ := spec_Even (i22.ext ((E54.trans e64).trans e69)) hl
    refine sCall1 rfl call23 rfl h74 ?_
    refine sMv (v := .tuple _) rfl ?_
    refine sP (v := .bool _) rfl ?_   -- extract ['t72', '0']
    refine sP (v := nv _) rfl ?_   -- extract ['t72', '1']
    refine sAs (v := .bool _) rfl ?_
    refine sAs (v := nv _) rfl ?_
    refine sNil (kSeqN ?_)
    refine cSeq ?_
    refine cRegion ?_
    refine sMv (v := .slice _ _ _) rfl ?_
    obtain ⟨v79, m79, h79, rfl, e79⟩ := spec_rEven (ha.ext ((((e22.trans E54).trans e64).trans e69).trans e74)) hk hl
    refine sCall1 rfl call24 rfl h79 ?_
    refine sMv (v := .tuple _) rfl ?_
    refine sP (v := .bool _) rfl ?_   -- extract ['t77', '0']
    refine sP (v := nv _) rfl ?_   -- extract ['t77', '1']
    refine sAs (v := .bool _) rfl ?_
    refine sAs (v := nv _) rfl ?_
    refine sNil (kSeqN ?_)
    refine cSeq ?_
    refine cRegion ?_
    refine sMv (v := .slice _ _ _) rfl ?_
    refine sMv (v := .slice _ _ _) rfl ?_
    have h84 := spec_SameRows (o64.rows.ext ((e69.trans e74).trans e79)) (o69.rows.ext (e74.trans e79)) (by rw [ofs2_length]; omega) (fun g hg => by
      obtain ⟨c, hc, rfl⟩ := List.mem_map.1 hg
      have := cyclesP_most c hc
      rw [ofs_length]; omega)
    rw [decide_eq_true rfl] at h84
    refine sCall2 rfl call25 rfl rfl h84 ?_
    refine sMv (v := .bool true) rfl ?_
    refine sG rfl rfl ?_
    refine sMv (v := nv _) rfl ?_
    refine sG rfl rfl ?_
    refine sMv (v := nv _) rfl ?_
    refine sG rfl rfl ?_
    refine sBin (v := .bool true) (a := wideE p) (b := wideE p) rfl rfl (eqlT rfl) ?_
    refine sP (v := .bool true) rfl ?_
    refine sMv (v := .bool true) rfl ?_
    refine sG rfl rfl ?_
    refine sMv (v := .bool _) rfl ?_
    refine sG rfl rfl ?_
    refine sMv (v := .bool _) rfl ?_
    refine sG rfl rfl ?_
    refine sP (v := .bool true) (eqlBool (evenP p)) ?_
    refine sP (v := .bool true) rfl ?_
    refine sMv (v := .bool true) rfl ?_
    refine sG rfl rfl ?_
    refine sMv (v := nv _) rfl ?_
    refine sG rfl rfl ?_
    refine sMv (v := nv _) rfl ?_
    refine sG rfl rfl ?_
    refine sBin (v := .bool true) (a := wideE p) (b := wideE p) rfl rfl (eqlT rfl) ?_
    refine sP (v := .bool true) rfl ?_
    refine sAs (v := .bool true) rfl ?_
    refine sNil (kSeqN ?_)
    refine cSeq ?_
    refine cRegion ?_
    have E79 : Ext m35 m79 := (((((((xs8.trans e40).trans xs10).trans e54).trans e64).trans e69).trans e74).trans e79)
    refine sLdAll A30 S30 rfl ((((((((e40.trans xs10).trans e54).trans e64).trans e69).trans e74).trans e79)).cells gs8) rfl ?_
    obtain ⟨w101, m101, h101, z101, k101⟩ := spec_SpoilW (W := wideN p) (B := 0) o35 E79 e35.1 (by omega)
    refine sCall1 rfl call26 rfl h101 ?_
    have z22 := e22.1
    have z25 := e25.1
    have z35 := e35.1
    have z54 := (((xs8.trans e40).trans xs10).trans e54).1
    have z64 := e64.1
    have z79 := ((e69.trans e74).trans e79).1
    have E101 : Ext m22 m101 := ⟨by omega, fun b hb => by rw [k101 b (by omega) (.inl (by omega))]; exact ((e25.trans e35).trans E79).2 b hb⟩
    have o101 : OwnR m54.size m101 (.slice q64 (ofs2 (cyclesP p)).length c64) cs64 (ofs2 (cyclesP p)) := o64.keep2 fun b h1 h2 => by
      rw [k101 b (by omega) (.inr (by omega))]; exact ((e69.trans e74).trans e79).2 b h2
    refine sNil (kSeqN ?_)
    refine cSeq ?_
    refine cRegion ?_
    refine sMv (v := .slice _ _ _) rfl ?_
    obtain ⟨w103, m103, h103, k103⟩ := spec_SpoilRows (M := m101.size) o101 (by rw [ofs2_length]; omega) (fun b hb => (o101.1.lt hb).2) (fun i s hs b hb => by
      have hi : i < (ofs2 (cyclesP p)).length := by
        have h1 := (Array.getElem?_eq_some_iff.1 hs).1
        have h2 := o101.1.size
        omega
      obtain ⟨s', a1, a2, _⟩ := o101.2 i _ (List.getElem?_eq_getElem hi)
      rw [hs] at a1
      obtain rfl := Option.some.inj a1
      exact (a2.lt hb).2)
    refine sCall1 rfl call27 rfl h103 ?_
    have E103 : Ext m22 m103 := ⟨by rw [k103.1]; omega, fun b hb => by rw [k103.2.1 b (.inl (by omega))]; exact E101.2 b hb⟩
    refine sNil (kSeqN ?_)
    refine cSeq ?_
    refine cRegion ?_
    refine sMv (v := .bool true) rfl ?_
    refine sMv (v := .bool true) rfl ?_
    refine sG rfl rfl ?_
    refine sMv (v := .slice _ _ _) rfl ?_
    refine sG rfl rfl ?_
    refine sMv (v := .slice _ _ _) rfl ?_
    refine sG rfl rfl ?_
    have h108 := spec_Equal (i22.ext E103) (ha.ext (e22.trans E103)) (by omega)
    rw [decide_eq_true rfl] at h108
    refine sCall2 rfl call28 rfl rfl h108 ?_
    refine sP (v := .bool true) rfl ?_
    refine sMv (v := .bool true) rfl ?_
    refine sG rfl rfl ?_
    obtain ⟨v111, m111, h111, rfl, e111⟩ := spec_awake (hC.ext (e22.trans E103)) (hW.ext (e22.trans E103))
    refine sCall0 rfl call14 h111 ?_
    refine sP (v := .bool true) rfl ?_
    refine sAs (v := .bool _) rfl ?_
    refine sNil (kSeqN ?_)
    refine cRet ?_
    exact ⟨.inr rfl, _, rfl, rfl, (e22.trans E103).trans e111⟩
end Go.AM

/-! ### F50 -/
namespace Go.AM
open Go.Proofs Go.Proofs.YtdokoekgdeebpaaDoor Go.ChangeShapes
set_option maxRecDepth 100000
set_option linter.unusedVariables false
set_option linter.unusedSimpArgs false
theorem gSize : Tryd.prog.globals.size = 3 := by kernel_rfl
theorem u4 : Tryd.prog.underlying 4 = some .bool := by kernel_rfl
theorem var_block {P : Program} {w : World} {n : String} {g : Nat} {cs : Array Value} (hg : P.globalNamed n = some g) (h : w.var? P n = some cs) : ∃ t fz, w.heap[g]? = some (.cells cs t fz) := by
  simp only [World.var?, hg, Option.bind_some] at h
  split at h
  · rename_i c t fz e
    injection h with h; subst h
    exact ⟨t, fz, e⟩
  · cases h
theorem gCla : Tryd.prog.globalNamed "spoondrift/rev.classical" = some 1 := by kernel_rfl
theorem tCla : (Tryd.prog.globals[1]?).map (·.type) = some 129 := by kernel_rfl
theorem u3 : Tryd.prog.underlying 3 = some (.int .i64) := by kernel_rfl
theorem u98 : Tryd.prog.underlying 98 = some (.func #[3, 22] #[3] false) := by kernel_rfl
theorem u127 : Tryd.prog.underlying 127 = some (.struct #[{ name := "controls", type := 3, offset := 0, embedded := false, tag := "", pkgPath := "spoondrift/rev", byteOffset := 0 }, { name := "does", type := 98, offset := 1, embedded := false, tag := "", pkgPath := "spoondrift/rev", byteOffset := 8 }]) := by kernel_rfl
theorem u129 : Tryd.prog.underlying 129 = some (.map 3 127) := by kernel_rfl
theorem hc3 : Tryd.prog.cellsOf 3 = 1 := by kernel_rfl
theorem hc98 : Tryd.prog.cellsOf 98 = 1 := by kernel_rfl
theorem hc127 : Tryd.prog.cellsOf 127 = 2 := by kernel_rfl
def tokT : List UInt8 := [115, 112, 111, 111, 110, 100, 114, 105, 102, 116, 47, 114, 101, 118, 46, 116, 117, 114, 110, 101, 100]
def tokS : List UInt8 := [115, 112, 111, 111, 110, 100, 114, 105, 102, 116, 47, 114, 101, 118, 46, 115, 119, 97, 112, 112, 101, 100]
theorem oneT : ((List.range Tryd.prog.funcs.size).filter fun f => (Tryd.prog.funcs[f]?).any (·.name.toUTF8.data.toList == tokT)) = [76] := by kernel_rfl
theorem oneS : ((List.range Tryd.prog.funcs.size).filter fun f => (Tryd.prog.funcs[f]?).any (·.name.toUTF8.data.toList == tokS)) = [181] := by kernel_rfl
/-- A kind's entry: how many controls, what it does. -/
theorem entry_kind {w : World} {n : Nat} {c : Int} {q : FuncId} {tk : List UInt8} (ht : (tk = tokT ∧ q = 76) ∨ (tk = tokS ∧ q = 181)) {cs : List Value} {y : DataW (List UInt8) × List MemPlace}
    (h : DataW.trod (funcToken Tryd.prog) Tryd.prog w 0 (fun _ => true) true n 127 cs = some y) (hy : y.1 = .agg [.lit (.int .i64 c), .held tk]) : cs = [.int .i64 c, .func (.func q) #[] #[]] := by
  obtain ⟨xs, m, rfl, hx, hl, hn, hel⟩ := DataW.trod_struct u127 h
  have h0 := hel 0 _ rfl
  have h1 := hel 1 _ rfl
  rw [hx] at hy
  simp only [DataW.agg.injEq] at hy
  rw [hc127] at hl
  match cs, hl with
  | [a, b], _ =>
    match xs, hn, hy, h0, h1 with
    | [e0, e1], _, hy, h0, h1 =>
      simp only [List.map_cons, List.map_nil, List.cons.injEq, and_true] at hy
      have h2 : DataW.trod (funcToken Tryd.prog) Tryd.prog w 0 (fun _ => true) true m 3 [a] = some (.lit (.int .i64 c), e0.2) := by
        rw [← hy.1]; simpa [hc3] using h0
      have h3 : DataW.trod (funcToken Tryd.prog) Tryd.prog w 0 (fun _ => true) true m 98 [b] = some (.held tk, e1.2) := by
        rw [← hy.2]; simpa [hc98] using h1
      have hb : b = .func (.func q) #[] #[] := by
        rcases ht with ⟨rfl, rfl⟩ | ⟨rfl, rfl⟩
        · exact func_of_trod u98 oneT h3
        · exact func_of_trod u98 oneS h3
      subst hb
      cases m with
      | zero => simp [DataW.trod] at h2
      | succ m =>
        rw [DataW.trod_step] at h2
        unfold DataW.trodStep at h2
        rw [u3] at h2
        cases a <;> simp at h2
        simp_all
def claD : DataW Unit := .map [(.int .i64 1, .agg [.lit (.int .i64 0), .iface "func" (.lit (.string tokT))]), (.int .i64 9, .agg [.lit (.int .i64 1), .iface "func" (.lit (.string tokT))]), (.int .i64 11, .agg [.lit (.int .i64 0), .iface "func" (.lit (.string tokS))]), (.int .i64 12, .agg [.lit (.int .i64 2), .iface "func" (.lit (.string tokT))])]
/-- One of the table's entries. -/
def IsKind (k v : Value) : Prop := (k = .int .i64 1 ∧ v = .agg #[.int .i64 0, .func (.func 76) #[] #[]]) ∨ (k = .int .i64 9 ∧ v = .agg #[.int .i64 1, .func (.func 76) #[] #[]]) ∨ (k = .int .i64 11 ∧ v = .agg #[.int .i64 0, .func (.func 181) #[] #[]]) ∨ (k = .int .i64 12 ∧ v = .agg #[.int .i64 2, .func (.func 76) #[] #[]])
theorem mem_fold {x : Lit × DataW (List UInt8)} : ∀ {l : List (Lit × DataW (List UInt8))}, x ∈ l.foldr DataW.insert [] ↔ x ∈ l
  | [] => by simp
  | y :: l => by
    rw [List.foldr_cons, Go.ChangeMaps.mem_insert_iff, mem_fold, List.mem_cons]
theorem open_kinds {w : World} (h : funcsAt Tryd.prog w "spoondrift/rev.classical" claD) :
    ∃ c t fz b es clk, w.heap[1]? = some (.cells c t fz) ∧ c[0]? = some (.map (some b)) ∧ w.heap[b]? = some (.map es clk) ∧ (∀ x ∈ es.toList, IsKind x.key x.val) ∧ ∀ k, (k = 1 ∨ k = 9 ∨ k = 12) → ∃ x ∈ es.toList, x.key = .int .i64 k := by
  obtain ⟨g, t, cs, fuel, p, hg, ht, hc, hd⟩ := h
  obtain rfl := Option.some.inj (gCla.symm.trans hg)
  obtain rfl := Option.some.inj (tCla.symm.trans ht)
  obtain ⟨ty, fz, hb0⟩ := var_block hg hc
  have hout : claD.funcsOut = .map [(.int .i64 1, .agg [.lit (.int .i64 0), .held tokT]), (.int .i64 9, .agg [.lit (.int .i64 1), .held tokT]), (.int .i64 11, .agg [.lit (.int .i64 0), .held tokS]), (.int .i64 12, .agg [.lit (.int .i64 2), .held tokT])] := by rfl
  rw [hout] at hd
  rcases Go.WideElems.open_map u129 hd with ⟨_, h2⟩ | ⟨b, es, clk, n, _, hcs, hb, _, F, hx⟩
  · simp at h2
  simp only [Prod.mk.injEq, DataW.map.injEq] at hx
  have hx1 := hx.1
  have hmem : ∀ z, z ∈ es.toList.map (Go.WideElems.rg Tryd.prog 3 (Go.WideElems.elemAt (funcToken Tryd.prog) Tryd.prog w 0 (fun _ => true) true n 127)) ↔ z ∈ [((.int .i64 1 : Lit), (.agg [.lit (.int .i64 0), .held tokT] : DataW (List UInt8))), (.int .i64 9, .agg [.lit (.int .i64 1), .held tokT]), (.int .i64 11, .agg [.lit (.int .i64 0), .held tokS]), (.int .i64 12, .agg [.lit (.int .i64 2), .held tokT])] := fun z => by
    rw [hx1, mem_fold]
  have key : ∀ x ∈ es.toList, ∀ (k c : Int) (tk : List UInt8) (q : FuncId), ((tk = tokT ∧ q = 76) ∨ (tk = tokS ∧ q = 181)) → Go.WideElems.rg Tryd.prog 3 (Go.WideElems.elemAt (funcToken Tryd.prog) Tryd.prog w 0 (fun _ => true) true n 127) x = (.int .i64 k, .agg [.lit (.int .i64 c), .held tk]) → x.key = .int .i64 k ∧ x.val = .agg #[.int .i64 c, .func (.func q) #[] #[]] := by
    intro x hx k c tk q htk hr
    obtain ⟨y, hy⟩ := F.reads x hx
    rw [Go.WideElems.rg_of hy] at hr
    subst hr
    have h1 := Go.WideElems.rd_key hy
    obtain ⟨z, hz, h2⟩ := Go.WideElems.rd_val hy
    refine ⟨?_, ?_⟩
    · simp only [keyOf, u3, mapKey] at h1
      split at h1 <;> simp_all
    · simp only [Go.WideElems.elemAt] at hz
      split at hz
      · rename_i hf
        have := entry_kind htk hz h2.symm
        cases hv : x.val with
        | agg cs2 =>
          rw [hv] at this
          have e : cs2.toList = [.int .i64 c, .func (.func q) #[] #[]] := this
          obtain ⟨l⟩ := cs2
          simp only at e
          subst e; rfl
        | _ => rw [hv] at hf; simp [Value.formed, u127] at hf
      · cases hz
  have hcs0 : cs[0]? = some (.map (some b)) := by
    have := congrArg (·[0]?) hcs
    simpa using this
  refine ⟨cs, ty, fz, b, es, clk, hb0, hcs0, hb, fun x hx => ?_, fun k hk => ?_⟩
  · have h1 := (hmem _).1 (List.mem_map.2 ⟨x, hx, rfl⟩)
    simp only [List.mem_cons, List.not_mem_nil, or_false] at h1
    rcases h1 with h1 | h1 | h1 | h1
    · exact .inl (key x hx _ _ _ 76 (.inl ⟨rfl, rfl⟩) h1)
    · exact .inr (.inl (key x hx _ _ _ 76 (.inl ⟨rfl, rfl⟩) h1))
    · exact .inr (.inr (.inl (key x hx _ _ _ 181 (.inr ⟨rfl, rfl⟩) h1)))
    · exact .inr (.inr (.inr (key x hx _ _ _ 76 (.inl ⟨rfl, rfl⟩) h1)))
  · have : ∃ c : Int, ((.int .i64 k : Lit), (.agg [.lit (.int .i64 c), .held tokT] : DataW (List UInt8))) ∈ [((.int .i64 1 : Lit), (.agg [.lit (.int .i64 0), .held tokT] : DataW (List UInt8))), (.int .i64 9, .agg [.lit (.int .i64 1), .held tokT]), (.int .i64 11, .agg [.lit (.int .i64 0), .held tokS]), (.int .i64 12, .agg [.lit (.int .i64 2), .held tokT])] := by
      rcases hk with rfl | rfl | rfl
      · exact ⟨0, by simp⟩
      · exact ⟨1, by simp⟩
      · exact ⟨2, by simp⟩
    obtain ⟨c, hm⟩ := this
    obtain ⟨x, hx, hr⟩ := List.mem_map.1 ((hmem _).2 hm)
    exact ⟨x, hx, (key x hx _ _ _ 76 (.inl ⟨rfl, rfl⟩) hr).1⟩
theorem cla_data : (Rows.laid_spoondrift_rev_classical : DataW Unit) = .iface "func table" claD := by rfl
/-- An array of numbers that is read. -/
theorem open_nums {H : Type} {enc : TypeId × Value → H} {P : Program} {w : World} {sp : Nat → Bool} {held : Bool} {t e n fuel : Nat} {k : IntKind} {cs : List Value} {ds : List (DataW H)} {p : List MemPlace}
    (ht : P.underlying t = some (.array n e)) (he : P.underlying e = some (.int k)) (hc : P.cellsOf e = 1) (h : DataW.trod enc P w 0 sp held fuel t cs = some (.agg ds, p)) {i : Nat} {v : Int} (hi : ds[i]? = some (.lit (.int k v))) :
    cs[i]? = some (.int k v) := by
  obtain ⟨xs, m, rfl, hx, hl, hn, hel⟩ := DataW.trod_array ht h
  simp only [Prod.mk.injEq, DataW.agg.injEq] at hx
  obtain ⟨rfl, _⟩ := hx
  rw [List.getElem?_map, Option.map_eq_some_iff] at hi
  obtain ⟨y, hy, hy1⟩ := hi
  have hin : i < n := by rw [← hn]; exact (List.getElem?_eq_some_iff.1 hy).1
  have h0 := hel i hin
  rw [hy, hc, Nat.mul_one] at h0
  obtain ⟨q, e1, e2, _⟩ := DataW.trod_int he h0
  have e3 : q = v := by
    rw [e2] at hy1
    simpa using hy1
  subst e3
  have := congrArg (·[0]?) e1
  simpa [List.getElem?_take, List.getElem?_drop] using this
theorem gWan : Tryd.prog.globalNamed "spoondrift/rev.wants" = some 2 := by kernel_rfl
theorem tWan : (Tryd.prog.globals[2]?).map (·.type) = some 108 := by kernel_rfl
theorem u108 : Tryd.prog.underlying 108 = some (.array 8 3) := by kernel_rfl
def wanL : List Nat := [0, 0, 1, 2, 2, 2, 0, 0]
def laid1 : List (String × DataW Unit) := [("spoondrift/rev.classical", Rows.laid_spoondrift_rev_classical), ("spoondrift/rev.wants", Rows.laid_spoondrift_rev_wants)]
theorem wan_data : (Rows.laid_spoondrift_rev_wants : DataW Unit) = .agg (wanL.map fun x => .lit (.int .i64 (Int.ofNat x))) := by rfl
theorem of_laid0 {w : World} (h : laidMetH Tryd.prog laid1 w) : ∃ c t fz b es clk, w.heap[1]? = some (.cells c t fz) ∧ c[0]? = some (.map (some b)) ∧ w.heap[b]? = some (.map es clk) ∧ (∀ x ∈ es.toList, IsKind x.key x.val) ∧ ∀ k, (k = 1 ∨ k = 9 ∨ k = 12) → ∃ x ∈ es.toList, x.key = .int .i64 k :=
  open_kinds (h.funcs (n := "spoondrift/rev.classical") (by rw [← cla_data]; simp [laid1]))
theorem of_laid {w : World} (h : laidMetH Tryd.prog laid1 w) : ∃ c t fz, w.heap[2]? = some (.cells c t fz) ∧ ∀ (i x : Nat), wanL[i]? = some x → c[i]? = some (Value.int .i64 (Int.ofNat x)) := by
  have h1 : laidMet Tryd.prog [("spoondrift/rev.wants", Rows.laid_spoondrift_rev_wants)] w := by
    have e1 : laid1.filter (fun x => x.2.handleName?.isSome) = [("spoondrift/rev.classical", Rows.laid_spoondrift_rev_classical)] := by rfl
    have e2 : laid1.filter (fun x => x.2.handleName?.isNone) = [("spoondrift/rev.wants", Rows.laid_spoondrift_rev_wants)] := by rfl
    unfold laidMetH at h
    rw [e1, e2] at h
    exact h.1
  obtain ⟨ps, ⟨g1, t1, cs1, f1, p1, q1, hg1, ht1, hv1, hd1, _, _⟩, _, _⟩ := h1
  obtain rfl := Option.some.inj (gWan.symm.trans hg1)
  obtain rfl := Option.some.inj (tWan.symm.trans ht1)
  obtain ⟨ty, fz, hb⟩ := var_block hg1 hv1
  refine ⟨cs1, ty, fz, hb, fun i x hx => ?_⟩
  rw [wan_data] at hd1
  have := open_nums (i := i) (v := Int.ofNat x) u108 u3 hc3 hd1 (by rw [List.getElem?_map, hx]; rfl)
  simpa using this
end Go.AM

/-! ### F51 -/
namespace Go.AM
open Go.Proofs Go.Proofs.YtdokoekgdeebpaaDoor Go.RowKit
set_option maxRecDepth 100000
set_option linter.unusedVariables false
/-- An argument's block: where it lies, and its abstract cells (each stands for the machine's cell at the same place), or the entries of a map. -/
structure Arg0 where
  blk : Nat
  off : Nat
  cap : Nat
  cs : Array Value
  es : Option (List (Value × Value))
def arg0 : Arg0 := ⟨0, 0, 0, #[], none⟩
def Arg0.obj (a : Arg0) : AObj := match a.es with
  | none => .cells false a.cs
  | some es => .map false es
theorem Arg0.obj_rw (a : Arg0) : a.obj.rw = false := by
  unfold Arg0.obj; split <;> rfl
def wanCs : Array Value := #[nv 0, nv 0, nv 1, nv 2, nv 2, nv 2, nv 0, nv 0]
def mem0 (A : List Arg0) : Mem := (AObj.dead :: AObj.cells false #[.map (some 3)] :: AObj.cells false wanCs :: A.map Arg0.obj).toArray
def beta0 (A : List Arg0) : Beta where
  blk i := if i < 3 then i else (A.getD (i - 3) arg0).blk
  sh i := if i < 3 then 0 else (A.getD (i - 3) arg0).off
  cap i := if i < 3 then 1000000 else (A.getD (i - 3) arg0).off + max (A.getD (i - 3) arg0).cs.size (A.getD (i - 3) arg0).cap
/-- What is known of an argument's cells, all arguments' places being known. -/
def Arg0.ok (W : World) (A : List Arg0) (a : Arg0) : Prop :=
  (a.es = none → ∃ c t fz, W.heap[a.blk]? = some (.cells c t fz) ∧ ∀ (i : Nat) v, a.cs[i]? = some v → ∃ v', c[a.off + i]? = some v' ∧ VRel (beta0 A) (3 + A.length) v v') ∧
  ∀ es, a.es = some es → ∃ es' clk, W.heap[a.blk]? = some (.map es' clk) ∧ es'.size = es.length ∧ ∀ (i : Nat) x e', es[i]? = some x → es'[i]? = some e' → VRel (beta0 A) (3 + A.length) x.1 e'.key ∧ VRel (beta0 A) (3 + A.length) x.2 e'.val
theorem mem0_size (A : List Arg0) : (mem0 A).size = 3 + A.length := by simp [mem0]; omega
theorem mem0_get (A : List Arg0) (i : Nat) : Mem.get (mem0 A) i = if i = 0 then .dead else if i = 1 then .cells false #[.map (some 3)] else if i = 2 then .cells false wanCs else if h : i - 3 < A.length then (A[i - 3]).obj else .dead := by
  unfold Mem.get mem0
  rw [Array.getD_eq_getD_getElem?, List.getElem?_toArray]
  match i with
  | 0 => rfl
  | 1 => rfl
  | 2 => rfl
  | i + 3 =>
    rw [if_neg (by omega), if_neg (by omega), if_neg (by omega)]
    simp only [List.getElem?_cons_succ, Nat.add_sub_cancel, List.getElem?_map]
    by_cases h : i < A.length
    · rw [dif_pos h, List.getElem?_eq_getElem h]; rfl
    · rw [dif_neg h, List.getElem?_eq_none (by omega)]; rfl
theorem globW0 (A : List Arg0) : GlobW (mem0 A) := ⟨false, by rw [mem0_get]; rfl⟩
/-- The table of kinds: its block, its entries. -/
structure Kinds (W : World) (a : Arg0) : Prop where
  glob : ∃ c t fz, W.heap[1]? = some (.cells c t fz) ∧ c[0]? = some (.map (some a.blk))
  es : ∃ es, a.es = some es ∧ (∀ x ∈ es, IsKind x.1 x.2) ∧ ∀ k, (k = 1 ∨ k = 9 ∨ k = 12) → ∃ x ∈ es, x.1 = .int .i64 k
  ok : ∀ A, a.ok W A
theorem flat_kind {β : Beta} {N : Nat} {c : Int} {q : FuncId} : VRel β N (.agg #[.int .i64 c, .func (.func q) #[] #[]]) (.agg #[.int .i64 c, .func (.func q) #[] #[]]) := by
  refine .agg _ _ rfl fun i v v' h h' => ?_
  match i with
  | 0 => simp at h h'; subst h h'; exact .int _ _
  | 1 => simp at h h'; subst h h'; exact .func _ _ _ _ _ rfl (fun i v v' h => by simp at h) rfl (fun i v v' h => by simp at h)
  | i + 2 => simp at h
theorem kinds_ex {W : World} (hL : laidMetH Tryd.prog laid1 W) : ∃ a, Kinds W a := by
  obtain ⟨c, t, fz, b, es, clk, h0, h1, h2, h3, h4⟩ := of_laid0 hL
  refine ⟨⟨b, 0, 0, #[], some (es.toList.map fun x => (x.key, x.val))⟩, ⟨c, t, fz, h0, h1⟩, ⟨_, rfl, fun x hx => ?_, fun k hk => ?_⟩, fun A => ⟨fun h => (by cases h), fun es2 he => ?_⟩⟩
  · obtain ⟨y, hy, rfl⟩ := List.mem_map.1 hx
    exact h3 y hy
  · obtain ⟨y, hy, e⟩ := h4 k hk
    exact ⟨_, List.mem_map.2 ⟨y, hy, rfl⟩, e⟩
  · cases he
    refine ⟨es, clk, h2, by simp, fun i x e' hx he' => ?_⟩
    rw [List.getElem?_map, Array.getElem?_toList, he'] at hx
    cases hx
    have := h3 e' (by rw [← Array.mem_def]; exact Array.mem_of_getElem? he')
    rcases this with ⟨e1, e2⟩ | ⟨e1, e2⟩ | ⟨e1, e2⟩ | ⟨e1, e2⟩ <;> (simp only [e1, e2]; exact ⟨.int _ _, flat_kind⟩)
theorem sameI (a b : Int) : Instr.sameNow (.int .i64) (.int .i64 a) (.int .i64 b) = some (decide (a = b)) := by
  by_cases h : a = b
  · subst h; simp [Instr.sameNow]
  · simp [Instr.sameNow, h]
theorem find_kind {k : Nat} (hk : k = 1 ∨ k = 9 ∨ k = 12) : ∀ {es : List (Value × Value)} (i : Nat), (∀ x ∈ es, IsKind x.1 x.2) → (∃ x ∈ es, x.1 = .int .i64 (Int.ofNat k)) → ∃ j c, aFindNow (.int .i64) (nv k) es i = some (some (j, .agg #[nv c, .func (.func 76) #[] #[]]))
  | [], i, _, ⟨x, hx, _⟩ => by cases hx
  | e :: es, i, h1, h2 => by
    have hk1 := h1 e (by simp)
    obtain ⟨z, hz⟩ : ∃ z, e.1 = .int .i64 z := by rcases hk1 with h | h | h | h <;> exact ⟨_, h.1⟩
    rw [aFindNow, hz, nv, sameI]
    by_cases e1 : Int.ofNat k = z
    · subst e1
      rw [decide_eq_true rfl]
      rcases hk1 with ⟨a, b⟩ | ⟨a, b⟩ | ⟨a, b⟩ | ⟨a, b⟩
      · exact ⟨i, 0, by rw [b]; rfl⟩
      · exact ⟨i, 1, by rw [b]; rfl⟩
      · rw [hz] at a
        have := (Value.int.inj a).2
        simp at this; omega
      · exact ⟨i, 2, by rw [b]; rfl⟩
    · rw [decide_eq_false e1]
      refine find_kind hk (i + 1) (fun x hx => h1 x (by simp [hx])) ?_
      obtain ⟨x, hx, e2⟩ := h2
      rcases List.mem_cons.1 hx with rfl | hx
      · rw [hz] at e2; exact absurd (Value.int.inj e2).2.symm e1
      · exact ⟨x, hx, e2⟩
theorem globC0 {W : World} {a : Arg0} (h : Kinds W a) {A : List Arg0} (hA : A[0]? = some a) : GlobC (mem0 A) := by
  obtain ⟨es, he, h1, h2⟩ := h.es
  obtain ⟨hl, e0⟩ := List.getElem?_eq_some_iff.1 hA
  refine ⟨false, 3, false, es, by rw [mem0_get]; rfl, ?_, fun k hk => find_kind hk 0 h1 ?_⟩
  · rw [mem0_get, if_neg (by omega), if_neg (by omega), if_neg (by omega), dif_pos (by omega)]
    rw [show A[3 - 3] = a from e0, Arg0.obj, he]
  · exact h2 (Int.ofNat k) (by rcases hk with rfl | rfl | rfl <;> simp)
theorem rel0 {W : World} (hL : laidMetH Tryd.prog laid1 W) {A : List Arg0} {a0 : Arg0} (hK : Kinds W a0) (hA0 : A[0]? = some a0) (hA : ∀ a ∈ A, a.ok W A) : Rel Tryd.prog (beta0 A) (mem0 A) W := by
  obtain ⟨c, t, fz, h0, hc0⟩ := of_laid hL
  obtain ⟨ck, tk, fk, k0, k1⟩ := hK.glob
  obtain ⟨hl0, e0⟩ := List.getElem?_eq_some_iff.1 hA0
  refine ⟨by rw [mem0_size, gSize]; omega, fun g hg => ?_, fun i hi => ?_, fun i j _ hr _ => ?_⟩
  · rw [gSize] at hg
    exact ⟨if_pos hg, if_pos hg⟩
  · rw [mem0_get] at hi ⊢
    by_cases ez : i = 0
    · rw [if_pos ez] at hi; cases hi
    rw [if_neg ez] at hi ⊢
    by_cases ei : i = 1
    · subst ei
      rw [if_pos rfl] at hi ⊢
      refine ⟨_, k0, ck, tk, fk, rfl, by simp [beta0], fun j v hj => ?_, fun h => by cases h⟩
      match j with
      | 0 =>
        simp at hj; subst hj
        refine ⟨_, by simpa [beta0] using k1, ?_⟩
        have hb : (beta0 A).blk 3 = a0.blk := by
          simp only [beta0]; rw [if_neg (by omega), List.getD_eq_getElem?_getD, hA0]; rfl
        rw [← hb]
        exact .map _ (by rw [mem0_size]; omega)
      | j + 1 => simp at hj
    rw [if_neg ei] at hi ⊢
    by_cases e1 : i = 2
    · subst e1
      rw [if_pos rfl] at hi ⊢
      refine ⟨_, h0, c, t, fz, rfl, by simp [beta0, wanCs], fun j v hj => ?_, fun h => by cases h⟩
      have hj8 := (Array.getElem?_eq_some_iff.1 hj).1
      have hj8' : j < 8 := hj8
      obtain ⟨x, hx⟩ : ∃ x, wanL[j]? = some x := ⟨_, List.getElem?_eq_getElem hj8'⟩
      have hv : v = nv x := by
        have hall : ∀ j < 8, wanCs[j]? = (wanL[j]?).map fun x => nv x := by
          intro j hj
          match j, hj with
          | 0, _ => rfl
          | 1, _ => rfl
          | 2, _ => rfl
          | 3, _ => rfl
          | 4, _ => rfl
          | 5, _ => rfl
          | 6, _ => rfl
          | 7, _ => rfl
        rw [hall j hj8', hx] at hj
        exact (Option.some.inj hj).symm
      subst hv
      exact ⟨_, by simpa [beta0] using hc0 j x hx, .int _ _⟩
    rw [if_neg e1] at hi ⊢
    by_cases e4 : i - 3 < A.length
    · rw [dif_pos e4] at hi ⊢
      obtain ⟨o1, o2⟩ := hA _ (List.getElem_mem e4)
      have hb : (beta0 A).blk i = (A[i - 3]).blk := by
        simp only [beta0]; rw [if_neg (by omega), List.getD_eq_getElem?_getD, List.getElem?_eq_getElem e4]; rfl
      have hsh : (beta0 A).sh i = (A[i - 3]).off := by
        simp only [beta0]; rw [if_neg (by omega), List.getD_eq_getElem?_getD, List.getElem?_eq_getElem e4]; rfl
      have hcp : (beta0 A).cap i = (A[i - 3]).off + max (A[i - 3]).cs.size (A[i - 3]).cap := by
        simp only [beta0]; rw [if_neg (by omega), List.getD_eq_getElem?_getD, List.getElem?_eq_getElem e4]; rfl
      cases hes : (A[i - 3]).es with
      | none =>
        obtain ⟨c, t, fz, g1, g2⟩ := o1 hes
        rw [Arg0.obj, hes]
        refine ⟨_, by rw [hb]; exact g1, c, t, fz, rfl, by rw [hsh, hcp]; omega, fun j v hj => ?_, fun h => by cases h⟩
        obtain ⟨v', q1, q2⟩ := g2 j v hj
        exact ⟨v', by rw [hsh]; exact q1, by rw [mem0_size]; exact q2⟩
      | some es =>
        obtain ⟨es', clk, g1, g2, g3⟩ := o2 es hes
        rw [Arg0.obj, hes]
        exact ⟨_, by rw [hb]; exact g1, es', clk, rfl, g2, fun i x e' hx he => by rw [mem0_size]; exact g3 i x e' hx he, fun h => by cases h⟩
    · rw [dif_neg e4] at hi; cases hi
  · rw [mem0_get] at hr
    split at hr
    · cases hr
    split at hr
    · cases hr
    split at hr
    · cases hr
    split at hr
    · rw [Arg0.obj_rw] at hr; cases hr
    · cases hr
theorem arel_nil {β : Beta} {N : Nat} : ARel β N #[] #[] := ⟨rfl, fun i v v' h => by simp at h⟩
theorem arel_cons {β : Beta} {N : Nat} {v v' : Value} {l l' : List Value} (hv : VRel β N v v') (h : ARel β N l.toArray l'.toArray) : ARel β N (v :: l).toArray (v' :: l').toArray := by
  refine ⟨by have := h.1; simp at this ⊢; exact this, fun i x x' h1 h2 => ?_⟩
  cases i with
  | zero => simp at h1 h2; subst h1 h2; exact hv
  | succ i => exact h.2 i x x' (by simpa using h1) (by simpa using h2)
/-- From the abstract call to the machine's. -/
theorem entry {f : FuncId} {args args' : Array Value} {W : World} {A : List Arg0} (hL : laidMetH Tryd.prog laid1 W) {a0 : Arg0} (hK : Kinds W a0) (hA0 : A[0]? = some a0) (hA : ∀ a ∈ A, a.ok W A)
    (hargs : ARel (beta0 A) (3 + A.length) args args') (hc : ∃ v m', ACalls Tryd.prog f args (mem0 A) v m' ∧ v = .bool true) :
    Calls Tryd.prog f args' W fun e W' => e = .returned (.bool true) ∧ Below W.heap.size W W' := by
  have hR := rel0 hL hK hA0 hA
  obtain ⟨v, m', hcall, rfl⟩ := hc
  refine (hcall.2 _ W args' hR (by rw [mem0_size]; exact hargs)).mono ?_
  rintro e W' ⟨v', rfl, β', hv, _, hS⟩
  cases hv
  refine ⟨rfl, hS.os, hS.tape, hS.output, hS.wsz, fun k hk => hS.keep k hk fun i hi => ?_⟩
  rw [mem0_get] at hi
  split at hi
  · cases hi
  split at hi
  · cases hi
  split at hi
  · cases hi
  split at hi
  · rw [Arg0.obj_rw] at hi; cases hi
  · cases hi
end Go.AM

/-! ### F52 -/
namespace Go.AM
open Go Go.Proofs Go.Proofs.YtdokoekgdeebpaaDoor Go.RowKit Go.ChangeShapes Go.WideShapes
set_option maxRecDepth 100000
set_option linter.unusedVariables false
/-- A slice of whole numbers of a kind, readable. -/
def KAt (k : IntKind) (m : Mem) (v : Value) (l : List Int) : Prop :=
  (l = [] ∧ (v = .slice none 0 0 ∨ ∃ b o, v = .slice (some ⟨b, o, none⟩) 0 0)) ∨
  ∃ b o cap r c, v = .slice (some ⟨b, o, some 1⟩) l.length cap ∧ l.length ≤ cap ∧ Mem.get m b = .cells r c ∧ ∀ i x, l[i]? = some x → c[o + i]? = some (.int k x)
theorem KAt.ints {m : Mem} {v : Value} {l : List Int} (h : KAt .i64 m v l) : IntsAt m v l := by
  rcases h with h | ⟨b, o, cap, r, c, h1, _, h2, h3⟩
  · exact .inl h
  · exact .inr ⟨b, o, cap, r, c, h1, h2, h3⟩
theorem KAt.bytes {m : Mem} {v : Value} {l : List Int} (h : KAt .u8 m v l) : BytesAt m v l := h
theorem cell_heap {W : World} {a : Addr} {v : Value} (h : W.cell? a = some v) : a.spot = none ∧ ∃ c t fz, W.heap[a.block]? = some (.cells c t fz) ∧ c[a.off]? = some v := by
  unfold World.cell? at h
  split at h
  · rename_i c t fz e
    split at h
    · cases h
    · rename_i hs
      exact ⟨by simpa using hs, c, t, fz, e, h⟩
  · cases h
theorem add_block (a : Addr) (n : Nat) : (a.add n).block = a.block := by unfold Addr.add; split <;> rfl
theorem add0 (a : Addr) : a.add 0 = a := if_pos rfl
theorem add_off {a : Addr} {n : Nat} (h : a.spot = none) : (a.add n).off = a.off + n := by
  unfold Addr.add
  split <;> simp_all
theorem mem0_arg {A : List Arg0} {i : Nat} {a : Arg0} (h : A[i]? = some a) (hn : a.es = none) : Mem.get (mem0 A) (3 + i) = .cells false a.cs := by
  obtain ⟨hi, e⟩ := List.getElem?_eq_some_iff.1 h
  rw [mem0_get, if_neg (by omega), if_neg (by omega), if_neg (by omega), dif_pos (by omega)]
  simp only [Nat.add_sub_cancel_left, e, Arg0.obj, hn]
theorem beta0_arg {A : List Arg0} {i : Nat} {a : Arg0} (h : A[i]? = some a) : (beta0 A).blk (3 + i) = a.blk ∧ (beta0 A).sh (3 + i) = a.off ∧ (beta0 A).cap (3 + i) = a.off + max a.cs.size a.cap := by
  have e : A.getD (3 + i - 3) arg0 = a := by rw [Nat.add_sub_cancel_left, List.getD_eq_getElem?_getD, h]; rfl
  refine ⟨?_, ?_, ?_⟩
  · simp only [beta0]; rw [if_neg (by omega), e]
  · simp only [beta0]; rw [if_neg (by omega), e]
  · simp only [beta0]; rw [if_neg (by omega), e]
/-- The blocks of an argument lie from a place on. -/
def PartAt (A : List Arg0) (pos : Nat) (B : List Arg0) : Prop := ∀ (j : Nat) a, B[j]? = some a → A[pos + j]? = some a
theorem part_right {X Y : List Arg0} {pos : Nat} (h : X.length = pos) : PartAt (X ++ Y) pos Y := fun j a hj => by
  subst h
  rw [List.getElem?_append_right (by omega), Nat.add_sub_cancel_left]; exact hj
/-- A slice of whole numbers that is read: its block, what it holds, its abstract value by the place of its block. -/
structure RowP (W : World) (k : IntKind) (s : Value) where
  a : Arg0
  l : List Int
  f : Nat → Value
  ok : ∀ A : List Arg0, a.ok W A
  wf : ∀ n ∈ l, (Lit.int k n).wf = true
  rel : ∀ (A : List Arg0) (i : Nat), A[i]? = some a → KAt k (mem0 A) (f i) l ∧ VRel (beta0 A) (3 + A.length) (f i) s
theorem ok0 {W : World} (hL : laidMetH Tryd.prog laid1 W) (A : List Arg0) : Arg0.ok W A ⟨1, 0, 0, #[], none⟩ := by
  obtain ⟨c0, t0, fz0, _, _, _, h0, _⟩ := of_laid0 hL
  exact ⟨fun _ => ⟨c0, t0, fz0, h0, fun i v h => by simp at h⟩, fun es h => by cases h⟩
theorem row_of {H : Type} {enc : TypeId × Value → H} {W : World} {k : IntKind} {t e : TypeId} {s : Value} {fuel : Nat} {x : DataW H × List MemPlace} (hL : laidMetH Tryd.prog laid1 W)
    (ht : Tryd.prog.underlying t = some (.slice e)) (he : Tryd.prog.underlying e = some (.int k)) (hc : Tryd.prog.cellsOf e = 1)
    (hd : DataW.trod enc Tryd.prog W 0 (fun _ => true) true fuel t [s] = some x) : Nonempty (RowP W k s) := by
  rcases open_ints ht he hc hd with ⟨hcs, _⟩ | ⟨x, ln, cp, zs, hcs, _, hl, hm, hz, _, hcell, hwz⟩
  · simp at hcs
    subst hcs
    exact ⟨⟨_, [], fun _ => .slice none 0 0, ok0 hL, by simp, fun A i _ => ⟨.inl ⟨rfl, .inl rfl⟩, .sliceNil⟩⟩⟩
  · simp at hcs
    subst hcs
    rw [if_pos rfl] at hz
    by_cases h0 : ln = 0
    · subst h0
      exact ⟨⟨_, [], fun _ => .slice (some ⟨0, 0, none⟩) 0 0, ok0 hL, by simp, fun A i _ => ⟨.inl ⟨rfl, .inr ⟨_, _, rfl⟩⟩, .lost _ _ _ trivial⟩⟩⟩
    · obtain ⟨hsp, c, t1, fz, hh, _⟩ := cell_heap (hcell 0 (by omega))
      rw [add0] at hsp
      rw [add_block] at hh
      have hcs : ∀ j, j < ln → c[x.off + j]? = some (.int k (zs.getD j 0)) := fun j hj => by
        obtain ⟨_, c', t2, fz2, h2, h3⟩ := cell_heap (hcell j (by omega))
        rw [add_block, hh] at h2
        obtain ⟨rfl, rfl, rfl⟩ : c = c' ∧ t1 = t2 ∧ fz = fz2 := by injection h2 with h2; injection h2 with a b c; exact ⟨a, b, c⟩
        rwa [add_off hsp] at h3
      have hlz : (zs.take ln).length = ln := by rw [List.length_take]; omega
      refine ⟨⟨⟨x.block, x.off, cp, ((zs.take ln).map fun n => Value.int k n).toArray, none⟩, zs.take ln, fun i => .slice (some ⟨3 + i, 0, some 1⟩) ln cp, fun A => ⟨fun _ => ⟨c, t1, fz, hh, fun j y hy => ?_⟩, fun es h => by cases h⟩, fun n hn => hwz n (List.mem_of_mem_take hn), fun A i hA => ⟨?_, ?_⟩⟩⟩
      · simp only [List.getElem?_toArray, List.getElem?_map, Option.map_eq_some_iff] at hy
        obtain ⟨n, hn, rfl⟩ := hy
        rw [List.getElem?_take] at hn
        split at hn
        · refine ⟨_, ?_, .int _ _⟩
          rw [hcs j (by assumption), List.getD_eq_getElem?_getD, hn]; rfl
        · cases hn
      · refine .inr ⟨3 + i, 0, cp, false, _, by rw [hlz], by rw [hlz]; exact hl, mem0_arg hA rfl, fun j n hn => ?_⟩
        simp only [List.getElem?_toArray, List.getElem?_map, hn, Option.map_some, Nat.zero_add]
      · obtain ⟨e1, e2, e3⟩ := beta0_arg hA
        have hi := (List.getElem?_eq_some_iff.1 hA).1
        have := VRel.slice (β := beta0 A) (N := 3 + A.length) (3 + i) 0 1 ln cp cp (by omega) (by omega) hl (Nat.le_refl _) (by rw [e2, e3]; simp only; omega) (by unfold maxLen at hm; omega)
        rw [e1, e2] at this
        obtain ⟨xb, xo, xs⟩ := x
        obtain rfl : xs = none := hsp
        exact this
/-- An argument that is a slice of whole numbers. -/
theorem ints_arg {H : Type} {enc : TypeId × Value → H} {W : World} {k : IntKind} {t e : TypeId} {r : Reach} {base : Nat} {v : Value} {d : DataW H} {p : List MemPlace} (hL : laidMetH Tryd.prog laid1 W)
    (ht : Tryd.prog.underlying t = some (.slice e)) (he : Tryd.prog.underlying e = some (.int k)) (hc : Tryd.prog.cellsOf e = 1)
    (hval : Value.okWide Tryd.prog W r base t v) (hd : DataW.Trod enc Tryd.prog W 0 (fun _ => true) true t v d p) :
    ∃ (L : Nat) (B : Nat → List Arg0) (l : List Int) (f : Nat → Value), (∀ pos, (B pos).length = L) ∧ (∀ n ∈ l, (Lit.int k n).wf = true) ∧
      ∀ (A : List Arg0) (pos : Nat), PartAt A pos (B pos) → (∀ a ∈ B pos, a.ok W A) ∧ KAt k (mem0 A) (f pos) l ∧ VRel (beta0 A) (3 + A.length) (f pos) v := by
  obtain ⟨q, len, cap, rfl⟩ := okWide_slice ht hval
  obtain ⟨fuel, hf⟩ := hd
  obtain ⟨R⟩ := row_of hL ht he hc hf
  refine ⟨1, fun _ => [R.a], R.l, R.f, fun _ => rfl, R.wf, fun A pos hp => ⟨fun a ha => ?_, R.rel A pos (hp 0 _ rfl)⟩⟩
  rw [List.mem_singleton.1 ha]; exact R.ok A
theorem u22 : Tryd.prog.underlying 22 = some (.slice 3) := by kernel_rfl
theorem c3 : Tryd.prog.cellsOf 3 = 1 := by kernel_rfl
theorem c5 : Tryd.prog.cellsOf 5 = 1 := by kernel_rfl
theorem laidOut : laidOutB Tryd.prog = true := by kernel_rfl
end Go.AM
namespace Go.AM
theorem KAt.capOk {k : IntKind} {m : Mem} {v : Value} {l : List Int} (h : KAt k m v l) : CapOk v := by
  intro q n c e
  rcases h with ⟨_, rfl | ⟨b, o, rfl⟩⟩ | ⟨b, o, cap, r, cc, rfl, h1, _⟩
  · cases e; exact Nat.le_refl _
  · cases e; exact Nat.le_refl _
  · cases e; exact h1
end Go.AM
