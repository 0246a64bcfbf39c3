/- Part 7 of the proof: Plain laws, and contracts of the program's functions. -/
import Derived.Test.YtdokoekgdeebpaaDoorPartF
import Derived.WideKeyElems2
import Derived.ChangeMaps
import Derived.Test.YtdokoekgdeebpaaDoorRows
import Derived.ProofKit
import Derived.LaidMore
import Derived.LaidHandle
import Derived.OpenShut
import Derived.Stop.Joined
import Derived.Below
import Derived.Carry
set_option linter.unusedVariables false
set_option linter.unusedSimpArgs false
set_option maxRecDepth 100000
/-! R65 -/
namespace Go.AM
open Go.Proofs
theorem pow_or_xor {a b : Nat} (h : a ≠ b) : 2 ^ a ||| 2 ^ b = 2 ^ a ^^^ 2 ^ b := by
 apply Nat.eq_of_testBit_eq
 intro i
 rw [Nat.testBit_or, Nat.testBit_xor, Nat.testBit_two_pow, Nat.testBit_two_pow]
 by_cases h1 : a = i
 ·subst h1
  rw [decide_eq_true rfl, decide_eq_false (fun e => h e.symm)]; rfl
 ·rw [decide_eq_false h1]; simp
def H82k : Nat → List (Nat × Nat) := fun id => if id = 9 then [(8, 0)] else []
theorem okf82k : okF Tryd.prog H82k 82 79 = true := by kernel_rfl
theorem spec_DoneK {m : Mem} {kd x : Nat} {ws : Value} {w : List Nat} (hw : IntsAt m ws (ofs w)) (hkc : (w.length = 1 ∧ kd = 1) ∨ (w.length = 2 ∧ kd = 9) ∨ (w.length = 2 ∧ kd = 11) ∨ (w.length = 3 ∧ kd = 12)) (hlt : ∀ y ∈ w, y < 12) (hx : x < 2 ^ 12) : ∃ v m', ACalls Tryd.prog 82 #[.agg #[nv kd, ws, nv 0, nv 0], nv x] m v m' ∧ (v = nv (doneS (kd, w) x) ∧ Ext m m') := by
 obtain ⟨b1, o1, p1, r1, cc, rfl, g0, x0⟩ := hw.atN (by omega)
 have hp2 : ∀ y ∈ w, 2 ^ y < 2 ^ 12 := fun y hy => Nat.pow_lt_pow_right (by decide) (hlt y hy)
 refine wpF (args := [_, _]) mixed okf82k (fn := Tryd.f82) rfl rfl rfl (by simp) ?_
 refine cSR ?_
 refine sBox (v := .agg _) rfl ?_
 change wpOps _ _ _ _ _ (m.push (.cells true #[nv kd, .slice (some ⟨b1, o1, some 1⟩) w.length p1, nv 0, nv 0]))
 have e1 : Ext m (m.push (.cells true #[nv kd, .slice (some ⟨b1, o1, some 1⟩) w.length p1, nv 0, nv 0])) := .push _ _
 have g1 : Mem.get (m.push (.cells true #[nv kd, .slice (some ⟨b1, o1, some 1⟩) w.length p1, nv 0, nv 0])) m.size = .cells true #[nv kd, .slice (some ⟨b1, o1, some 1⟩) w.length p1, nv 0, nv 0] := gP rfl
 generalize m.push (.cells true #[nv kd, .slice (some ⟨b1, o1, some 1⟩) w.length p1, nv 0, nv 0]) = M at *
 refine sAn rfl ?_
 refine sN ?_
 refine cSR ?_
 refine sFA F49_1 rfl ?_
 refine sLd (v := .slice _ _ _) A22 rfl g1 rfl ?_
 refine sAs (v := .slice _ _ _) rfl ?_
 refine sN ?_
 refine cSeq (cSR ?_)
 refine sFA F49_0 rfl ?_
 refine sLd (v := nv kd) A3 rfl g1 rfl ?_
 refine sN ?_
 refine cBlock (cSR ?_)
 refine sBin (a := kd) (b := 1) rfl rfl aInt_eql ?_
 refine sAb rfl ?_
 refine sN ?_
 refine cCond rfl (fun c0 => ?_) (fun c0 => ?_)
 ·
  obtain ⟨a, rfl⟩ : ∃ a, w = [a] := by match w, hkc with | [a], _ => exact ⟨a, rfl⟩ | [], h => simp at h | [_, _], h => simp at h; omega | _ :: _ :: _ :: _, h => simp at h; omega
  have ha := hlt a (by simp)
  have hpa := hp2 a (by simp)
  refine cSR ?_
  refine sMn rfl ?_
  refine sMs rfl ?_
  refine sIx T22 S3 rfl rfl (show 0 < [a].length by simp) ?_
  refine sLd (v := nv a) A3 rfl (e1.cells g0) (x0 0 a rfl) ?_
  refine sBin rfl rfl (aInt_shl (a := 1) (by omega)) ?_
  rw [Nat.shiftLeft_eq, Nat.one_mul]
  refine sBin (a := x) (b := 2 ^ a) rfl rfl (aInt_xor ⟨by omega, by omega⟩) ?_
  refine sAn rfl ?_
  refine sN ?_
  refine cRet (kBlkR (kSeqR ?_))
  exact ⟨.inr rfl, _, rfl, by rw [doneS, if_neg (show ¬ kd = 11 by omega)]; rfl, e1⟩
 ·
  refine cSR ?_
  refine sBin (a := kd) (b := 9) rfl rfl aInt_eql ?_
  refine sAb rfl ?_
  refine sN ?_
  refine cCond rfl (fun c1 => ?_) (fun c1 => ?_)
  ·
   obtain ⟨a, b, rfl⟩ : ∃ a b, w = [a, b] := by match w, hkc with | [a, b], _ => exact ⟨a, b, rfl⟩ | [], h => simp at h | [_], h => simp at h; omega | _ :: _ :: _ :: _, h => simp at h; omega
   have ha := hlt a (by simp)
   have hb := hlt b (by simp)
   have hpb := hp2 b (by simp)
   refine cSR ?_
   refine sMn rfl ?_
   refine sMs rfl ?_
   refine sIx T22 S3 rfl rfl (show 0 < [a, b].length by simp) ?_
   refine sLd (v := nv a) A3 rfl (e1.cells g0) (x0 0 a rfl) ?_
   obtain ⟨v24, m24, h24, rfl, rfl⟩ := spec_bit (m := M) (x := x) (k := a) (by omega)
   refine sCall2 rfl call80 rfl rfl h24 ?_
   refine sBin (b := 1) rfl rfl aInt_eql ?_
   refine sN ?_
   refine cCond rfl (fun c2 => ?_) (fun c2 => ?_)
   ·
    refine cSR ?_
    refine sMn rfl ?_
    refine sMs rfl ?_
    refine sIx T22 S3 rfl rfl (show 1 < [a, b].length by simp) ?_
    refine sLd (v := nv b) A3 rfl (e1.cells g0) (x0 1 b rfl) ?_
    refine sBin (a := 1) (b := b) rfl rfl (aInt_shl (by omega)) ?_
    rw [Nat.shiftLeft_eq, Nat.one_mul (2 ^ b)]
    refine sBin (a := x) (b := 2 ^ b) rfl rfl (aInt_xor ⟨by omega, by omega⟩) ?_
    refine sAn rfl ?_
    refine sN ?_
    refine cRet (kBlkR (kSeqR ?_))
    have ht := (bit_one x a).1 c2
    exact ⟨.inr rfl, _, rfl, by rw [doneS, if_neg (show ¬ kd = 11 by omega), show turnM x [a, b] = x ^^^ 2 ^ b by simp [turnM, ht]]; rfl, e1⟩
   ·
    refine cSkip (kBlkN (kSeqN ?_))
    refine cSR ?_
    refine sMn rfl ?_
    refine sAn rfl ?_
    refine sN ?_
    refine cRet ?_
    have ht : x.testBit a = false := Bool.eq_false_iff.2 (fun h => c2 ((bit_one x a).2 h))
    exact ⟨.inr rfl, _, rfl, by rw [doneS, if_neg (show ¬ kd = 11 by omega), show turnM x [a, b] = x by simp [turnM, ht]]; rfl, e1⟩
  ·
   refine cSR ?_
   refine sBin (a := kd) (b := 11) rfl rfl aInt_eql ?_
   refine sAb rfl ?_
   refine sN ?_
   refine cCond rfl (fun c3 => ?_) (fun c3 => ?_)
   ·
    obtain ⟨a, b, rfl⟩ : ∃ a b, w = [a, b] := by match w, hkc with | [a, b], _ => exact ⟨a, b, rfl⟩ | [], h => simp at h | [_], h => simp at h; omega | _ :: _ :: _ :: _, h => simp at h; omega
    have ha := hlt a (by simp)
    have hb := hlt b (by simp)
    have hpa := hp2 a (by simp)
    have hpb := hp2 b (by simp)
    have eX := e1
    clear e1
    refine cSeq ?_
    refine cDrawH (hs := [(8, 0)]) rfl (by decide) ?_
    refine lStepO (sMv (v := nv _) rfl (sNil fun e0 hm0 => ?_))
    refine lStepO (sMv (v := .slice _ _ _) rfl (sNil fun e1 hm1 => ?_))
    refine lStepO (sIx T22 S3 rfl rfl (show 0 < [a, b].length by simp) (sNil fun e2 hm2 => ?_))
    refine lStepLd (v := nv a) A3 rfl (eX.cells g0) (x0 0 a rfl) fun e3 hm3 hv3 hr3 => ?_
    obtain ⟨v38, m38, h38, rfl, rfl⟩ := spec_bit (m := M) (x := x) (k := a) (by omega)
    refine lStepO (sCall2 rfl call80 rfl rfl h38 (sNil fun e4 hm4 => ?_))
    refine lStepO (sMv (v := nv _) rfl (sNil fun e5 hm5 => ?_))
    refine lStepO (sMv (v := .slice _ _ _) rfl (sNil fun e6 hm6 => ?_))
    refine lStepO (sIx T22 S3 rfl rfl (show 1 < [a, b].length by simp) (sNil fun e7 hm7 => ?_))
    refine lStepLd (v := nv b) A3 rfl (eX.cells g0) (x0 1 b rfl) fun e8 hm8 hv8 hr8 => ?_
    obtain ⟨v43, m43, h43, rfl, rfl⟩ := spec_bit (m := M) (x := x) (k := b) (by omega)
    refine lStepO (sCall2 rfl call80 rfl rfl h43 (sNil fun e9 hm9 => ?_))
    refine lStepO (sBin (v := .bool (decide (¬ x.testBit a = x.testBit b))) rfl rfl (by rw [aInt_neq, bit_neq]) (sNil fun e10 hm10 => ?_))
    refine ⟨?_, (kSeqN ?_)⟩
    ·
     refine obl_atE (e := e8) (e' := e0) (by simp) (by rfl) (by simp) ((hr8 e0.m _ _ (by rw [hm0]; exact eX.cells g0) (by exact x0 1 b rfl)).trans (congrArg some hv8.symm)) ?_
     trivial
    refine cCond (p := ¬ x.testBit a = x.testBit b) rfl (fun c4 => ?_) (fun c4 => ?_)
    ·
     refine cSeq ?_
     refine cDraw rfl ?_
     refine sMn rfl ?_
     refine sMs rfl ?_
     refine sIx T22 S3 rfl rfl (show 0 < [a, b].length by simp) ?_
     refine sLd (v := nv a) A3 rfl (eX.cells g0) (x0 0 a rfl) ?_
     refine sBin (v := nv (2 ^ a)) rfl rfl (by rw [aInt_shl (a := 1) (b := a) (by omega), Nat.shiftLeft_eq, Nat.one_mul]) ?_
     refine sBin (a := x) (b := 2 ^ a) rfl rfl (aInt_xor ⟨by omega, by omega⟩) ?_
     have hxa : x ^^^ 2 ^ a < 2 ^ 12 := Nat.xor_lt_two_pow hx hpa
     refine sMs rfl ?_
     refine sIx T22 S3 rfl rfl (show 1 < [a, b].length by simp) ?_
     refine sLd (v := nv b) A3 rfl (eX.cells g0) (x0 1 b rfl) ?_
     refine sBin (v := nv (2 ^ b)) rfl rfl (by rw [aInt_shl (a := 1) (b := b) (by omega), Nat.shiftLeft_eq, Nat.one_mul]) ?_
     refine sBin (a := x ^^^ 2 ^ a) (b := 2 ^ b) rfl rfl (aInt_xor ⟨by omega, by omega⟩) ?_
     refine sAn rfl ?_
     refine sN ?_
     refine cRet (kBlkR (kSeqR ?_))
     have hx2 : x ^^^ (2 ^ a ||| 2 ^ b) = x ^^^ 2 ^ a ^^^ 2 ^ b := by rw [Nat.xor_assoc, pow_or_xor (fun e => c4 (by rw [e]))]
     exact ⟨.inr rfl, _, rfl, by rw [doneS, if_pos c3, show swapM x [a, b] = x ^^^ (2 ^ a ||| 2 ^ b) from if_neg c4, hx2]; rfl, eX⟩
    ·
     refine cSkip (kBlkN (kSeqN ?_))
     refine cSR ?_
     refine sMn rfl ?_
     refine sAn rfl ?_
     refine sN ?_
     refine cRet ?_
     exact ⟨.inr rfl, _, rfl, by rw [doneS, if_pos c3, show swapM x [a, b] = x from if_pos (Classical.byContradiction c4)]; rfl, eX⟩
   ·
    refine cSR ?_
    refine sBin (a := kd) (b := 12) rfl rfl aInt_eql ?_
    refine sAb rfl ?_
    refine sN ?_
    refine cCondT' rfl (by omega) ?_
    refine cSR ?_
    obtain ⟨a, b, c, rfl⟩ : ∃ a b c, w = [a, b, c] := by match w, hkc with | [a, b, c], _ => exact ⟨a, b, c, rfl⟩ | [], h => simp at h | [_], h => simp at h; omega | [_, _], h => simp at h; omega | _ :: _ :: _ :: _ :: _, h => simp at h
    have ha := hlt a (by simp)
    have hb := hlt b (by simp)
    have hc := hlt c (by simp)
    have hpc := hp2 c (by simp)
    refine sMn rfl ?_
    refine sMs rfl ?_
    refine sIx T22 S3 rfl rfl (show 0 < [a, b, c].length by simp) ?_
    refine sLd (v := nv a) A3 rfl (e1.cells g0) (x0 0 a rfl) ?_
    obtain ⟨v62, m62, h62, rfl, rfl⟩ := spec_bit (m := M) (x := x) (k := a) (by omega)
    refine sCall2 rfl call80 rfl rfl h62 ?_
    refine sBin (b := 1) rfl rfl aInt_eql ?_
    refine sMb rfl ?_
    by_cases h1 : x >>> a &&& 1 = 1
    ·
     rw [decide_eq_true h1]
     refine sG rfl rfl ?_
     refine sMn rfl ?_
     refine sG rfl rfl ?_
     refine sMs rfl ?_
     refine sG rfl rfl ?_
     refine sIx T22 S3 rfl rfl (show 1 < [a, b, c].length by simp) ?_
     refine sG rfl rfl ?_
     refine sLd (v := nv b) A3 rfl (e1.cells g0) (x0 1 b rfl) ?_
     refine sG rfl rfl ?_
     obtain ⟨v69, m69, h69, rfl, rfl⟩ := spec_bit (m := M) (x := x) (k := b) (by omega)
     refine sCall2 rfl call80 rfl rfl h69 ?_
     refine sG rfl rfl ?_
     refine sBin (b := 1) rfl rfl aInt_eql ?_
     refine sPb rfl ?_
     refine sN ?_
     refine cCond (p := x >>> b &&& 1 = 1) rfl (fun c5 => ?_) (fun c5 => ?_)
     ·
      refine cSR ?_
      refine sMn rfl ?_
      refine sMs rfl ?_
      refine sIx T22 S3 rfl rfl (show 2 < [a, b, c].length by simp) ?_
      refine sLd (v := nv c) A3 rfl (e1.cells g0) (x0 2 c rfl) ?_
      refine sBin (a := 1) (b := c) rfl rfl (aInt_shl (by omega)) ?_
      rw [Nat.shiftLeft_eq, Nat.one_mul (2 ^ c)]
      refine sBin (a := x) (b := 2 ^ c) rfl rfl (aInt_xor ⟨by omega, by omega⟩) ?_
      refine sAn rfl ?_
      refine sN ?_
      refine cRet (kBlkR (kSeqR ?_))
      have ht := (bit_one x a).1 h1
      have hu := (bit_one x b).1 c5
      exact ⟨.inr rfl, _, rfl, by rw [doneS, if_neg (show ¬ kd = 11 by omega), show turnM x [a, b, c] = x ^^^ 2 ^ c by simp [turnM, ht, hu]]; rfl, e1⟩
     ·
      refine cSkip (kBlkN (kSeqN ?_))
      refine cSR ?_
      refine sMn rfl ?_
      refine sAn rfl ?_
      refine sN ?_
      refine cRet ?_
      have hu : x.testBit b = false := Bool.eq_false_iff.2 (fun h => c5 ((bit_one x b).2 h))
      exact ⟨.inr rfl, _, rfl, by rw [doneS, if_neg (show ¬ kd = 11 by omega), show turnM x [a, b, c] = x by simp [turnM, hu]]; rfl, e1⟩
    ·
     rw [decide_eq_false h1]
     refine sGF rfl rfl ?_
     refine sGF rfl rfl ?_
     refine sGF rfl rfl ?_
     refine sGF rfl rfl ?_
     refine sGF rfl rfl ?_
     refine sGF rfl rfl ?_
     refine sPb rfl ?_
     refine sN ?_
     refine cCondF rfl ?_
     refine cSkip (kBlkN (kSeqN ?_))
     refine cSR ?_
     refine sMn rfl ?_
     refine sAn rfl ?_
     refine sN ?_
     refine cRet ?_
     have ht : x.testBit a = false := Bool.eq_false_iff.2 (fun h => h1 ((bit_one x a).2 h))
     exact ⟨.inr rfl, _, rfl, by rw [doneS, if_neg (show ¬ kd = 11 by omega), show turnM x [a, b, c] = x by simp [turnM, ht]]; rfl, e1⟩
theorem okf94k : okF Tryd.prog H0 94 19 = true := by kernel_rfl
theorem spec_ThroughK {m : Mem} {n x : Nat} {b : Int} {s : Value} {Gs : List (Nat × List Nat)} (hG : GsAt m s (Gs.map gvM)) (hc : CircS n Gs) (hx : x < 2 ^ n) : ∃ v m', ACalls Tryd.prog 94 #[.agg #[nv n, .int .i64 b, s], nv x] m v m' ∧ (v = nv (runS Gs x) ∧ Ext m m') := by
 obtain ⟨q, cap, rfl⟩ := (GsAt.lenN hG)
 obtain ⟨h1, h10, hf, hall⟩ := hc
 have h2n : 2 ^ n ≤ 2 ^ 12 := Nat.pow_le_pow_right (by decide) h10
 refine wpF (args := [_, _]) mixed okf94k (fn := Tryd.f94) rfl rfl rfl (by simp) ?_
 refine cSR ?_
 refine sBox (v := .agg _) rfl ?_
 change wpOps _ _ _ _ _ (m.push (.cells true #[nv n, .int .i64 b, .slice q Gs.length cap]))
 have e1 : Ext m (m.push (.cells true #[nv n, .int .i64 b, .slice q Gs.length cap])) := .push _ _
 have g1 : Mem.get (m.push (.cells true #[nv n, .int .i64 b, .slice q Gs.length cap])) m.size = .cells true #[nv n, .int .i64 b, .slice q Gs.length cap] := gP rfl
 generalize m.push (.cells true #[nv n, .int .i64 b, .slice q Gs.length cap]) = M at *
 refine sAn rfl ?_
 refine sN ?_
 refine cSeq (cSR ?_)
 refine sFA F30_2 rfl ?_
 refine sLd (v := .slice q Gs.length cap) A28 rfl g1 rfl ?_
 refine sLen T28 rfl ?_
 refine sMv (v := nv 0) rfl ?_
 refine sN ?_
 refine cBlock ?_
 refine wpC_loop (fun k ρ m' => ∃ i, k = Gs.length - i ∧ i ≤ Gs.length ∧ Ext M m' ∧ runS (Gs.take i) x < 2 ^ n ∧ Has ρ [(1, nv (runS (Gs.take i) x)), (8, .slice q Gs.length cap), (9, nv Gs.length), (10, nv i)]) ⟨0, rfl, Nat.zero_le _, .refl _, hx, rfl, rfl, rfl, rfl, trivial⟩ ?_
 rintro k ρ m' ⟨i, rfl, hi, hE, hxl, hh⟩
 rw [hh.env]; clear hh
 refine cSR ?_
 refine sBin rfl rfl (aInt_lss) ?_
 refine sN ?_
 refine cSeq ?_
 refine cCond rfl (fun c0 => ?_) (fun c0 => ?_)
 ·
  obtain ⟨g, hgi⟩ : ∃ g, Gs[i]? = some g := ⟨_, List.getElem?_eq_getElem c0⟩
  have hgo := hall g (List.mem_of_getElem? hgi)
  obtain ⟨b2, cp2, r2, cc, qw, cw, ee, gb, hcs, hex, hws, hkw⟩ := GsAt.gateN (hG.ext (e1.trans hE)) hgi
  cases ee
  have hrt := runS_take hgi x
  refine cSkip (kSeqN ?_)
  refine cSeq (cBlock (cSR ?_))
  refine sIx T28 S49 rfl rfl c0 ?_
  refine sLdA A49 S49 rfl gb (by omega) ?_
  rw [hex]
  refine sAllocB (bl := m'.size) rfl Z49 (by kernel_rfl) ?_
  refine sStNAB rfl S49 rfl rfl rfl rfl (by kernel_rfl) ?_
  have eg : Ext m' (m'.push (.cells true #[nv g.1, .slice qw g.2.length cw, nv 0, nv 0])) := .push _ _
  have gg : Mem.get (m'.push (.cells true #[nv g.1, .slice qw g.2.length cw, nv 0, nv 0])) m'.size = .cells true #[nv g.1, .slice qw g.2.length cw, nv 0, nv 0] := gP rfl
  generalize m'.push (.cells true #[nv g.1, .slice qw g.2.length cw, nv 0, nv 0]) = M6 at *
  refine sN ?_
  refine cRegion ?_
  refine sLdAll A49 S49 rfl gg rfl ?_
  refine sMn rfl ?_
  obtain ⟨v16, m16, h16, rfl, e16⟩ := spec_DoneK (kd := g.1) (x := runS (Gs.take i) x) (hws.ext eg) (by have := hgo.kind; omega) (fun y hy => by have := hgo.lt y hy; omega) (by omega)
  rw [show doneS (g.1, g.2) (runS (Gs.take i) x) = runS (Gs.take (i + 1)) x from hrt.symm] at h16
  refine sCall2 rfl call82 rfl rfl h16 ?_
  refine sAn rfl ?_
  refine sNil (kBlkN (kSeqN ?_))
  refine cRegion ?_
  refine sBin rfl rfl (aInt_add (b := 1) (by omega)) ?_
  refine sMn rfl ?_
  refine sN ?_
  refine ⟨_, ?_, i + 1, rfl, by omega, (hE.trans eg).trans e16, ?_, rfl, rfl, rfl, rfl, trivial⟩
  ·omega
  ·rw [hrt]; exact doneS_lt hxl hgo
 ·
  obtain rfl : i = Gs.length := by omega
  rw [List.take_length]
  refine cExit (kSeqE (kSeqE (kBlkS (kSeqN ?_))))
  refine cSR ?_
  refine sMn rfl ?_
  refine sAn rfl ?_
  refine sN ?_
  refine cRet ?_
  exact ⟨.inr rfl, _, rfl, rfl, e1.trans hE⟩
end Go.AM

/-! R66 -/
namespace Go.AM
open Go.Proofs
theorem B30I {a b : Int} : aBuild Tryd.prog 30 [(0, .int .i64 a), (1, .int .i64 b)] = some (.agg #[.int .i64 a, .int .i64 b, .slice none 0 0]) := by kernel_rfl
theorem B49I {k a b : Int} {q : Option Addr} {n c : Nat} : aBuild Tryd.prog 49 [(0, .int .i64 k), (1, .slice q n c), (2, .int .i64 a), (3, .int .i64 b)] = some (.agg #[.int .i64 k, .slice q n c, .int .i64 a, .int .i64 b]) := by kernel_rfl
theorem fillA4I {k a b : Int} {n c : Nat} {q : Option Addr} : Instr.fill (fun i => some (i * 4, 4)) (if 1 * 4 = 0 then #[] else (Array.range (1 * 4)).map ((Value.agg #[nv 0, .slice none 0 0, nv 0, nv 0]).cells[· % (Value.agg #[nv 0, .slice none 0 0, nv 0, nv 0]).cells.size]!)) [(0, .agg #[.int .i64 k, .slice q n c, .int .i64 a, .int .i64 b])] = some #[.int .i64 k, .slice q n c, .int .i64 a, .int .i64 b] := by kernel_rfl
/-- Gates of one's own, whatever they hold: each one's wires in a place of their own. -/
def OwnI (N : Nat) (m : Mem) (v : Value) (cs : Array Value) (Gs : List GateV) : Prop :=
  OwnC N m v 4 Gs.length cs ∧ ∀ (i : Nat) (g : GateV), Gs[i]? = some g → ∃ s, cs[i * 4]? = some (.int .i64 g.1) ∧ cs[i * 4 + 1]? = some s ∧ cs[i * 4 + 2]? = some (.int .i64 g.2.2.1) ∧ cs[i * 4 + 3]? = some (.int .i64 g.2.2.2) ∧ OwnF N m s g.2.1 ∧ ∀ b, blkOf s = some b → blkOf v ≠ some b
theorem OwnI.nil (N : Nat) (m : Mem) : OwnI N m (.slice none 0 0) #[] [] := ⟨.nil _ _ _, fun i g h => by cases i <;> cases h⟩
theorem OwnI.up {N : Nat} {m m' : Mem} {v : Value} {cs : Array Value} {Gs : List GateV} (h : OwnI N m v cs Gs) (hu : ∀ b, N ≤ b → b < m.size → Mem.get m' b = Mem.get m b) : OwnI N m' v cs Gs :=
 ⟨h.1.up hu, fun i g hi => by
  obtain ⟨s, h1, h2, h3, h4, ho, hb⟩ := h.2 i g hi
  exact ⟨s, h1, h2, h3, h4, ho.up hu, hb⟩⟩
theorem OwnI.ext {N : Nat} {m m' : Mem} {v : Value} {cs : Array Value} {Gs : List GateV} (h : OwnI N m v cs Gs) (he : Ext m m') : OwnI N m' v cs Gs := h.up fun b _ hb => he.2 b hb
theorem OwnI.only {N b : Nat} {m m' : Mem} {v : Value} {cs : Array Value} {Gs : List GateV} (h : OwnI N m v cs Gs) (ho : Only b m m') (hb : b < N) : OwnI N m' v cs Gs := h.up fun c hc _ => ho.2 c (by omega)
theorem OwnI.mono {N N' : Nat} {m : Mem} {v : Value} {cs : Array Value} {Gs : List GateV} (h : OwnI N m v cs Gs) (hN : N' ≤ N) : OwnI N' m v cs Gs :=
 ⟨h.1.mono hN, fun i g hi => by
  obtain ⟨s, h1, h2, h3, h4, ho, hb⟩ := h.2 i g hi
  exact ⟨s, h1, h2, h3, h4, ho.mono hN, hb⟩⟩
theorem OwnI.grew {N : Nat} {m m' : Mem} {v v' s : Value} {cs : Array Value} {Gs : List GateV} {g : GateV} (h : OwnI N m v cs Gs) (hs : OwnF N m s g.2.1) (hap : ∀ b, blkOf s = some b → blkOf v ≠ some b) (hg : Grew m v m' v') (hc : OwnC N m' v' 4 (Gs.length + 1) (cs ++ #[.int .i64 g.1, s, .int .i64 g.2.2.1, .int .i64 g.2.2.2])) : OwnI N m' v' (cs ++ #[.int .i64 g.1, s, .int .i64 g.2.2.1, .int .i64 g.2.2.2]) (Gs ++ [g]) := by
 have hsz := h.1.size
 have hkeep : ∀ {u : Value} {l : List Int}, OwnF N m u l → (∀ b, blkOf u = some b → blkOf v ≠ some b) → OwnF N m' u l ∧ ∀ b, blkOf u = some b → blkOf v' ≠ some b := fun ho ha =>
  ⟨ho.keep fun b hb => hg.2.1 b (ho.lt hb).2 (ha b hb), fun b hb => hg.off (ha b hb) (ho.lt hb).2⟩
 refine ⟨by rw [List.length_append]; exact hc, fun i x hi => ?_⟩
 by_cases hil : i < Gs.length
 ·rw [List.getElem?_append_left hil] at hi
  obtain ⟨u, h1, h2, h3, h4, ho, hb⟩ := h.2 i x hi
  obtain ⟨k1, k2⟩ := hkeep ho hb
  exact ⟨u, by rw [Array.getElem?_append_left (by omega), h1], by rw [Array.getElem?_append_left (by omega), h2], by rw [Array.getElem?_append_left (by omega), h3], by rw [Array.getElem?_append_left (by omega), h4], k1, k2⟩
 ·rw [List.getElem?_append_right (by omega)] at hi
  have h1 := (List.getElem?_eq_some_iff.1 hi).1
  have h0 : i = Gs.length := by simp at h1; omega
  rw [h0, Nat.sub_self] at hi
  obtain rfl : g = x := by simpa using hi
  obtain ⟨k1, k2⟩ := hkeep hs hap
  refine ⟨s, ?_, ?_, ?_, ?_, k1, k2⟩
  ·rw [Array.getElem?_append_right (by omega), show i * 4 - cs.size = 0 by rw [h0]; omega]; rfl
  ·rw [Array.getElem?_append_right (by omega), show i * 4 + 1 - cs.size = 1 by rw [h0]; omega]; rfl
  ·rw [Array.getElem?_append_right (by omega), show i * 4 + 2 - cs.size = 2 by rw [h0]; omega]; rfl
  ·rw [Array.getElem?_append_right (by omega), show i * 4 + 3 - cs.size = 3 by rw [h0]; omega]; rfl
theorem OwnI.gs {N : Nat} {m : Mem} {v : Value} {cs : Array Value} {Gs : List GateV} (h : OwnI N m v cs Gs) : GsAt m v Gs := by
 have hsz := h.1.size
 by_cases h0 : Gs = []
 ·subst h0
  rcases h.1 with ⟨h1, _⟩ | ⟨b, cap, c, h1, h2, h3, h4, h5, h6⟩
  ·exact .inl ⟨rfl, .inl h1⟩
  ·exact .inr ⟨b, cap, true, c, h1, h3, fun i g hi => by cases hi⟩
 ·obtain ⟨b, cap, c, h1, h2, h3, h4, h5⟩ := h.1.at (List.length_pos_iff.2 h0)
  refine .inr ⟨b, cap, true, c, h1, h3, fun i g hi => ?_⟩
  have hil := (List.getElem?_eq_some_iff.1 hi).1
  obtain ⟨s, e1, e2, e3, e4, ho, _⟩ := h.2 i g hi
  exact ⟨s, by omega, quad_at (by rw [h5 _ (by omega)]; exact e1) (by rw [h5 _ (by omega)]; exact e2) (by rw [h5 _ (by omega)]; exact e3) (by rw [h5 _ (by omega)]; exact e4), ho.ints, ho.capOk⟩
/-- Whether a circuit is more than what statements look at. -/
def greatC (Gs : List GateV) : Bool := decide (130 < Gs.length) || Gs.any fun g => decide (6 < g.2.1.length)
theorem greatC_no {Gs : List GateV} (h : ¬ greatC Gs = true) : Gs.length ≤ 130 ∧ ∀ g ∈ Gs, g.2.1.length ≤ 6 := by
 simp only [greatC, Bool.or_eq_true, decide_eq_true_eq, List.any_eq_true, not_or, not_exists, not_and] at h
 exact ⟨by omega, fun g hg => by have := h.2 g hg; omega⟩
theorem okf96 : okF Tryd.prog H0 96 7 = true := by kernel_rfl
theorem spec_Great1 {m : Mem} {g : GateV} {q : Option Addr} {cw : Nat} : ∃ v m', ACalls Tryd.prog 96 #[.agg #[.int .i64 g.1, .slice q g.2.1.length cw, .int .i64 g.2.2.1, .int .i64 g.2.2.2]] m v m' ∧ (v = .bool (decide (6 < g.2.1.length)) ∧ Ext m m') := by
 refine wpF (args := [_]) mixed okf96 (fn := Tryd.f96) rfl rfl rfl (by simp) ?_
 refine cSR ?_
 refine sBox (v := .agg _) rfl ?_
 change wpOps _ _ _ _ _ (m.push (.cells true #[.int .i64 g.1, .slice q g.2.1.length cw, .int .i64 g.2.2.1, .int .i64 g.2.2.2]))
 refine sAb rfl ?_
 refine sN ?_
 refine cSR ?_
 refine sFA F49_1 rfl ?_
 refine sLd (v := .slice q g.2.1.length cw) A22 rfl (gP rfl) rfl ?_
 refine sLen T22 rfl ?_
 refine sBin (a := g.2.1.length) (b := 6) rfl rfl aInt_gtr ?_
 refine sAb rfl ?_
 refine sN ?_
 refine cRet ?_
 exact ⟨.inr rfl, _, rfl, rfl, .push _ _⟩
theorem okf37 : okF Tryd.prog H0 37 12 = true := by kernel_rfl
theorem spec_GreatC {m : Mem} {n b : Int} {s : Value} {Gs : List GateV} (hG : GsAt m s Gs) : ∃ v m', ACalls Tryd.prog 37 #[.agg #[.int .i64 n, .int .i64 b, s]] m v m' ∧ (v = .bool (greatC Gs) ∧ Ext m m') := by
 obtain ⟨q, cap, rfl⟩ := hG.len
 refine wpF (args := [_]) mixed okf37 (fn := Tryd.f37) rfl rfl rfl (by simp) ?_
 refine cSR ?_
 refine sBox (v := .agg _) rfl ?_
 change wpOps _ _ _ _ _ (m.push (.cells true #[.int .i64 n, .int .i64 b, .slice q Gs.length cap]))
 have e1 : Ext m (m.push (.cells true #[.int .i64 n, .int .i64 b, .slice q Gs.length cap])) := .push _ _
 have g1 : Mem.get (m.push (.cells true #[.int .i64 n, .int .i64 b, .slice q Gs.length cap])) m.size = .cells true #[.int .i64 n, .int .i64 b, .slice q Gs.length cap] := gP rfl
 generalize m.push (.cells true #[.int .i64 n, .int .i64 b, .slice q Gs.length cap]) = M at *
 refine sAb rfl ?_
 refine sN ?_
 refine cSR ?_
 refine sFA F30_2 rfl ?_
 refine sLd (v := .slice q Gs.length cap) A28 rfl g1 rfl ?_
 refine sLen T28 rfl ?_
 refine sBin (a := Gs.length) (b := 130) rfl rfl aInt_gtr ?_
 refine sMv (v := .bool (decide (130 < Gs.length))) rfl ?_
 by_cases q1 : 130 < Gs.length
 ·
  rw [decide_eq_true q1]
  refine sGT rfl rfl ?_
  refine sGT rfl rfl ?_
  refine sGT rfl rfl ?_
  refine sPb rfl ?_
  refine sAb rfl ?_
  refine sN ?_
  refine cRet ?_
  exact ⟨.inr rfl, _, rfl, by rw [greatC, decide_eq_true q1]; rfl, e1⟩
 ·
  rw [decide_eq_false q1]
  refine sG rfl rfl ?_
  refine sFA F30_2 rfl ?_
  refine sG rfl rfl ?_
  refine sLd (v := .slice q Gs.length cap) A28 rfl g1 rfl ?_
  refine sG rfl rfl ?_
  obtain ⟨v10, m10, h10, rfl, e10⟩ := spec_ContainsGI (p := fun g => decide (6 < g.2.1.length)) (hG.ext e1) (by omega) call96 fun g _ m' he q cw => spec_Great1
  refine sCall2 rfl call32 rfl rfl h10 ?_
  refine sPb rfl ?_
  refine sAb rfl ?_
  refine sN ?_
  refine cRet ?_
  exact ⟨.inr rfl, _, rfl, by rw [greatC, decide_eq_false q1, Bool.false_or]; rfl, e1.trans e10⟩
def H38k : Nat → List (Nat × Nat) := fun id => if id = 5 then [(1, 7), (1, 13), (3, 7), (8, 0), (10, 0)] else []
theorem okf38k : okF Tryd.prog H38k 38 35 = true := by kernel_rfl
theorem spec_OwnK {m : Mem} {n b : Int} {s : Value} {Gs : List GateV} (hG : GsAt m s Gs) (hl : Gs.length ≤ 1000) (hw : ∀ g ∈ Gs, g.2.1.length ≤ 1000) : ∃ v m', ACalls Tryd.prog 38 #[.agg #[.int .i64 n, .int .i64 b, s]] m v m' ∧ (∃ s' cs', v = .agg #[.int .i64 n, .int .i64 b, s'] ∧ OwnI m.size m' s' cs' Gs ∧ Ext m m') := by
 obtain ⟨q, cap, rfl⟩ := hG.len
 refine wpF (args := [_]) mixed okf38k (fn := Tryd.f38) rfl rfl rfl (by simp) ?_
 refine cSR ?_
 refine sBox (v := .agg _) rfl ?_
 change wpOps _ _ _ _ _ (m.push (.cells true #[.int .i64 n, .int .i64 b, .slice q Gs.length cap]))
 have ex0 : Ext m (m.push (.cells true #[.int .i64 n, .int .i64 b, .slice q Gs.length cap])) := .push _ _
 have g0 : Mem.get (m.push (.cells true #[.int .i64 n, .int .i64 b, .slice q Gs.length cap])) m.size = .cells true #[.int .i64 n, .int .i64 b, .slice q Gs.length cap] := gP rfl
 have z0 : (m.push (.cells true #[.int .i64 n, .int .i64 b, .slice q Gs.length cap])).size = m.size + 1 := by simp
 generalize m.push (.cells true #[.int .i64 n, .int .i64 b, .slice q Gs.length cap]) = m0 at *
 refine sAllocB (bl := m0.size) rfl Z30 (by kernel_rfl) ?_
 change wpOps _ _ _ _ _ (m0.push (.cells true #[nv 0, nv 0, .slice none 0 0]))
 have ex1 : Ext m0 (m0.push (.cells true #[nv 0, nv 0, .slice none 0 0])) := .push _ _
 have g1 : Mem.get (m0.push (.cells true #[nv 0, nv 0, .slice none 0 0])) m0.size = .cells true #[nv 0, nv 0, .slice none 0 0] := gP rfl
 have z1 : (m0.push (.cells true #[nv 0, nv 0, .slice none 0 0])).size = m0.size + 1 := by simp
 generalize m0.push (.cells true #[nv 0, nv 0, .slice none 0 0]) = m1 at *
 refine sN ?_
 refine cSR ?_
 refine sFA F30_0 rfl ?_
 refine sLd (v := .int .i64 n) A3 rfl (ex1.cells g0) rfl ?_
 refine sFA F30_1 rfl ?_
 refine sLd (v := .int .i64 b) A3 rfl (ex1.cells g0) rfl ?_
 refine sBuild B30I ?_
 refine sAllocB (bl := m1.size) rfl Z30 (by kernel_rfl) ?_
 refine sStNAB rfl S30 rfl rfl rfl rfl (by kernel_rfl) ?_
 have ex2 : Ext m1 (m1.push (.cells true #[.int .i64 n, .int .i64 b, .slice none 0 0])) := .push _ _
 have g2 : Mem.get (m1.push (.cells true #[.int .i64 n, .int .i64 b, .slice none 0 0])) m1.size = .cells true #[.int .i64 n, .int .i64 b, .slice none 0 0] := gP rfl
 have z2 : (m1.push (.cells true #[.int .i64 n, .int .i64 b, .slice none 0 0])).size = m1.size + 1 := by simp
 generalize m1.push (.cells true #[.int .i64 n, .int .i64 b, .slice none 0 0]) = m2 at *
 have E2 := (ex0.trans ex1).trans ex2
 have gr2 := ex2.cells g1
 have gb2 := (ex1.trans ex2).cells g0
 refine sN ?_
 refine cSeq (cSR ?_)
 refine sFA F30_2 rfl ?_
 refine sLd (v := .slice q Gs.length cap) A28 rfl gb2 rfl ?_
 refine sLen T28 rfl ?_
 refine sMv (v := nv 0) rfl ?_
 refine sN ?_
 refine cBlock ?_
 refine wpC_loop (fun kk ρ m' => ∃ i v cs', kk = Gs.length - i ∧ i ≤ Gs.length ∧ m2.size ≤ m'.size ∧ (∀ c, c < m2.size → c ≠ m1.size → Mem.get m' c = Mem.get m2 c) ∧ Mem.get m' m1.size = .cells true #[.int .i64 n, .int .i64 b, v] ∧ OwnI m2.size m' v cs' (Gs.take i) ∧ Has ρ [(2, .pointer (some ⟨m0.size, 0, none⟩)), (3, .pointer (some ⟨m1.size, 0, none⟩)), (12, .slice q Gs.length cap), (13, nv Gs.length), (14, nv i)]) ⟨0, _, #[], rfl, Nat.zero_le _, Nat.le_refl _, fun _ _ _ => rfl, g2, .nil _ _, rfl, rfl, rfl, rfl, rfl, trivial⟩ ?_
 rintro kk ρ m' ⟨i, v, cs', rfl, hi, hz, hk, gc, hO, hh⟩
 obtain ⟨qv, cv, rfl⟩ := hO.1.len
 rw [hh.env]; clear hh
 have hEm : Ext m m' := ⟨by have := E2.1; omega, fun c hc => (hk c (by omega) (by omega)).trans (E2.2 c hc)⟩
 refine cSR ?_
 refine sBin rfl rfl (aInt_lss) ?_
 refine sN ?_
 refine cSeq ?_
 refine cCond rfl (fun c0 => ?_) (fun c0 => ?_)
 ·
  obtain ⟨g, hgi⟩ : ∃ g, Gs[i]? = some g := ⟨_, List.getElem?_eq_getElem c0⟩
  have hgw := hw g (List.mem_of_getElem? hgi)
  obtain ⟨b2, cp2, r2, cc, qw, cw, ee, gb, hcs, hex, hws, hkw⟩ := (hG.ext hEm).gate hgi
  cases ee
  have htl : (Gs.take i).length ≤ 1000 := by rw [List.length_take]; omega
  refine cSkip (kSeqN ?_)
  refine cSeq (cBlock (cSR ?_))
  refine sIx T28 S49 rfl rfl c0 ?_
  refine sLdA A49 S49 rfl gb (by omega) ?_
  rw [hex]
  refine sAllocB (bl := m'.size) rfl Z49 (by kernel_rfl) ?_
  refine sStNAB rfl S49 rfl rfl rfl rfl (by kernel_rfl) ?_
  have eg : Ext m' (m'.push (.cells true #[.int .i64 g.1, .slice qw g.2.1.length cw, .int .i64 g.2.2.1, .int .i64 g.2.2.2])) := .push _ _
  have gg : Mem.get (m'.push (.cells true #[.int .i64 g.1, .slice qw g.2.1.length cw, .int .i64 g.2.2.1, .int .i64 g.2.2.2])) m'.size = .cells true #[.int .i64 g.1, .slice qw g.2.1.length cw, .int .i64 g.2.2.1, .int .i64 g.2.2.2] := gP rfl
  have zg : (m'.push (.cells true #[.int .i64 g.1, .slice qw g.2.1.length cw, .int .i64 g.2.2.1, .int .i64 g.2.2.2])).size = m'.size + 1 := by simp
  generalize m'.push (.cells true #[.int .i64 g.1, .slice qw g.2.1.length cw, .int .i64 g.2.2.1, .int .i64 g.2.2.2]) = M5 at *
  refine sN ?_
  refine cDrawH (hs := [(1, 7), (1, 13), (3, 7), (8, 0), (10, 0)]) rfl (by decide) ?_
  refine lStepO (sFA F30_2 rfl (sNil fun e0 hm0 => ?_))
  refine lStepLd (v := .slice qv (Gs.take i).length cv) A28 rfl (eg.cells gc) rfl fun e1 hm1 hv1 hr1 => ?_
  refine lStepO (sFA F49_0 rfl (sNil fun e2 hm2 => ?_))
  refine lStepLd (v := .int .i64 g.1) A3 rfl gg rfl fun e3 hm3 hv3 hr3 => ?_
  refine lStepO (sFA F49_1 rfl (sNil fun e4 hm4 => ?_))
  refine lStepLd (v := .slice qw g.2.1.length cw) A22 rfl gg rfl fun e5 hm5 hv5 hr5 => ?_
  obtain ⟨v24, m24, h24, o24, e24⟩ := spec_Clone (hws.ext eg) (by omega)
  obtain ⟨q24, c24, rfl⟩ := o24.ints.len
  refine lStepO (sCall1 rfl call15 rfl h24 (sNil fun e6 hm6 => ?_))
  have z24 := e24.1
  have gg24 := e24.cells gg
  refine lStepO (sFA F49_2 rfl (sNil fun e7 hm7 => ?_))
  refine lStepLd (v := .int .i64 g.2.2.1) A3 rfl gg24 rfl fun e8 hm8 hv8 hr8 => ?_
  refine lStepO (sFA F49_3 rfl (sNil fun e9 hm9 => ?_))
  refine lStepLd (v := .int .i64 g.2.2.2) A3 rfl gg24 rfl fun e10 hm10 hv10 hr10 => ?_
  refine lStepO (sBuild B49I (sNil fun e11 hm11 => ?_))
  refine lStepO (sBuildS T28 S49 Z49 (by decide) (by decide) (by decide) (by kernel_rfl) fillA4I rfl (sNil fun e12 hm12 => ?_))
  refine lStepO (sAppC El55 rfl rfl (N := m2.size) (n := (Gs.take i).length) (cs := cs') (((hO.ext eg).ext e24).1.ext (.push _ _)) (gP rfl) rfl (by kernel_rfl) (by simp; omega) (by omega) fun v' m4 hO4 hL4 hG4 => (sNil fun e13 hm13 => ?_))
  have hgr := (((hO.ext eg).ext e24).ext (.push _ _)).grew (s := .slice q24 g.2.1.length c24) (g := g) ((o24.mono (by omega)).ext (.push _ _)) (fun c hc e => by
   have h1 := (o24.lt hc).1
   have h2 := (hO.1.lt e).2
   omega) hG4 hO4
  obtain ⟨q4, cp4, rfl⟩ := hO4.len
  have z4 := hL4.1
  simp only [Array.size_push] at z4
  have gc4 := hL4.cells (show m1.size < m2.size by omega) ((gPn (by omega)).trans ((eg.trans e24).cells gc))
  refine lStepO (sFA F30_2 rfl (sNil fun e14 hm14 => ?_))
  refine lStepO (sSt (v := .slice _ _ _) S28 rfl rfl gc4 (by simp) rfl rfl (sNil fun e15 hm15 => ?_))
  refine ⟨?_, (kBlkN (kSeqN ?_))⟩
  ·
   refine obl_atE (e := e1) (e' := e7) (by simp) (by rfl) (by simp) ((hr1 e7.m _ _ (by rw [hm7]; exact (eg.trans e24).cells gc) (by rfl)).trans (congrArg some hv1.symm)) ?_
   refine obl_atE (e := e1) (e' := e13) (by simp) (by rfl) (by simp) ((hr1 e13.m _ _ (by rw [hm13, gPn (by omega)]; exact (eg.trans e24).cells gc) (by rfl)).trans (congrArg some hv1.symm)) ?_
   refine obl_atE (e := e3) (e' := e7) (by simp) (by rfl) (by simp) ((hr3 e7.m _ _ (by rw [hm7]; exact gg24) (by rfl)).trans (congrArg some hv3.symm)) ?_
   refine obl_atE (e := e8) (e' := e0) (by simp) (by rfl) (by simp) ((hr8 e0.m _ _ (by rw [hm0]; exact gg) (by rfl)).trans (congrArg some hv8.symm)) ?_
   refine obl_atE (e := e10) (e' := e0) (by simp) (by rfl) (by simp) ((hr10 e0.m _ _ (by rw [hm0]; exact gg) (by rfl)).trans (congrArg some hv10.symm)) ?_
   trivial
  refine cRegion ?_
  refine sBin rfl rfl (aInt_add (b := 1) (by omega)) ?_
  refine sMn rfl ?_
  refine sN ?_
  refine ⟨_, ?_, i + 1, _, cs' ++ #[.int .i64 g.1, .slice q24 g.2.1.length c24, .int .i64 g.2.2.1, .int .i64 g.2.2.2], rfl, by omega, by simp; omega, fun c h1 h2 => ?_, gS rfl (live gc4), ?_, rfl, rfl, rfl, rfl, rfl, trivial⟩
  ·omega
  ·rw [gSn (by omega), hL4.2 c h1, gPn (by omega), (eg.trans e24).2 c (by omega)]; exact hk c h1 h2
  ·rw [List.take_add_one, hgi]
   exact hgr.only (.set m1.size m4 _) (by omega)
 ·
  obtain rfl : i = Gs.length := by omega
  rw [List.take_length] at hO
  have htl : (Gs.take Gs.length).length = Gs.length := by rw [List.take_length]
  refine cExit (kSeqE (kSeqE (kBlkS (kSeqN ?_))))
  refine cSR ?_
  refine sLdAll A30 S30 rfl gc rfl ?_
  refine sStAll S30 rfl rfl ((hk m0.size (by omega) (by omega)).trans gr2) rfl rfl (by kernel_rfl) ?_
  refine sN ?_
  refine cRet ?_
  refine ⟨.inr rfl, _, resRs_agg A30 S30 rfl (gS rfl (by omega)) rfl, _, cs', rfl, ?_, hEm.set (by omega) _⟩
  have := (hO.only (.set m0.size m' (.cells true #[.int .i64 n, .int .i64 b, .slice qv (Gs.take Gs.length).length cv])) (by omega)).mono (N' := m.size) (by omega)
  rw [htl] at this ⊢
  exact this
theorem GsAt.gates {m : Mem} {v : Value} {Gs : List GateV} (h : GsAt m v Gs) : GatesAt m v Gs := by
 rcases h with ⟨rfl, h⟩ | ⟨b, cap, r, c, h1, h2, h3⟩
 ·exact .inl ⟨rfl, h⟩
 ·refine .inr ⟨b, cap, r, c, h1, h2, fun i g hi => ?_⟩
  obtain ⟨s, e1, e2, e3, _⟩ := h3 i g hi
  rw [Nat.zero_add] at e2
  exact ⟨⟨s, e2, e3⟩, e1⟩
theorem okf20k : okF Tryd.prog H0 20 24 = true := by kernel_rfl
theorem spec_kSameK {m : Mem} {a b : Value} {W B W' B' : Int} {l r : List GateV} (ha : GsAt m a l) (hb : GsAt m b r) (hl : l.length < 4611686018427387904) (hw : ∀ g ∈ l, g.2.1.length < 4611686018427387904) : ∃ v m', ACalls Tryd.prog 20 #[.agg #[.int .i64 W, .int .i64 B, a], .agg #[.int .i64 W', .int .i64 B', b]] m v m' ∧ (v = .bool (decide (W = W' ∧ B = B' ∧ l = r)) ∧ Ext m m') := by
 obtain ⟨q1, c1, rfl⟩ := ha.len
 obtain ⟨q2, c2, rfl⟩ := hb.len
 refine wpF (args := [_, _]) mixed okf20k (fn := Tryd.f20) rfl rfl rfl (by simp) ?_
 refine cSR ?_
 refine sBox (v := .agg _) rfl ?_
 refine sBoxB (bl := m.size + 1) (v := .agg _) (by simp) rfl ?_
 change wpOps _ _ _ _ _ ((m.push (.cells true #[.int .i64 W, .int .i64 B, .slice q1 l.length c1])).push (.cells true #[.int .i64 W', .int .i64 B', .slice q2 r.length c2]))
 have hE : Ext m ((m.push (.cells true #[.int .i64 W, .int .i64 B, .slice q1 l.length c1])).push (.cells true #[.int .i64 W', .int .i64 B', .slice q2 r.length c2])) := (Ext.push _ _).trans (.push _ _)
 have g1 : Mem.get ((m.push (.cells true #[.int .i64 W, .int .i64 B, .slice q1 l.length c1])).push (.cells true #[.int .i64 W', .int .i64 B', .slice q2 r.length c2])) m.size = .cells true #[.int .i64 W, .int .i64 B, .slice q1 l.length c1] := by rw [gPn (by simp), gP rfl]
 have g2 : Mem.get ((m.push (.cells true #[.int .i64 W, .int .i64 B, .slice q1 l.length c1])).push (.cells true #[.int .i64 W', .int .i64 B', .slice q2 r.length c2])) (m.size + 1) = .cells true #[.int .i64 W', .int .i64 B', .slice q2 r.length c2] := gP (by simp)
 generalize ((m.push (.cells true #[.int .i64 W, .int .i64 B, .slice q1 l.length c1])).push (.cells true #[.int .i64 W', .int .i64 B', .slice q2 r.length c2])) = M at *
 obtain ⟨v22, m22, h22, rfl, e22⟩ := spec_EqualG ((GsAt.gates ha).ext hE) ((GsAt.gates hb).ext hE) hl hw
 refine sAb rfl ?_
 refine sN ?_
 refine cSR ?_
 refine sFA F30_0 rfl ?_
 refine sLd (v := .int .i64 W) A3 rfl g1 rfl ?_
 refine sFA F30_0 rfl ?_
 refine sLd (v := .int .i64 W') A3 rfl g2 rfl ?_
 refine sBinI (v := .bool (decide (W = W'))) rfl rfl aInt_eqlI ?_
 refine sMb rfl ?_
 by_cases e1 : W = W'
 ·
  rw [decide_eq_true e1]
  refine sG rfl rfl ?_
  refine sFA F30_1 rfl ?_
  refine sG rfl rfl ?_
  refine sLd (v := .int .i64 B) A3 rfl g1 rfl ?_
  refine sG rfl rfl ?_
  refine sFA F30_1 rfl ?_
  refine sG rfl rfl ?_
  refine sLd (v := .int .i64 B') A3 rfl g2 rfl ?_
  refine sG rfl rfl ?_
  refine sBinI (v := .bool (decide (B = B'))) rfl rfl aInt_eqlI ?_
  refine sPb rfl ?_
  refine sMb rfl ?_
  by_cases e2 : B = B'
  ·
   rw [decide_eq_true e2]
   refine sG rfl rfl ?_
   refine sFA F30_2 rfl ?_
   refine sG rfl rfl ?_
   refine sLd (v := .slice q1 l.length c1) A28 rfl g1 rfl ?_
   refine sG rfl rfl ?_
   refine sFA F30_2 rfl ?_
   refine sG rfl rfl ?_
   refine sLd (v := .slice q2 r.length c2) A28 rfl g2 rfl ?_
   refine sG rfl rfl ?_
   refine sCall3 rfl call83 rfl rfl rfl h22 ?_
   refine sPb rfl ?_
   refine sAb rfl ?_
   refine sN ?_
   refine cRet ?_
   refine ⟨.inr rfl, _, rfl, congrArg Value.bool (decide_eq_decide.2 ?_), hE.trans e22⟩
   exact ⟨fun h => ⟨e1, e2, h⟩, fun h => h.2.2⟩
  ·
   rw [decide_eq_false e2]
   refine sGF rfl rfl ?_
   refine sGF rfl rfl ?_
   refine sGF rfl rfl ?_
   refine sGF rfl rfl ?_
   refine sGF rfl rfl ?_
   refine sPb rfl ?_
   refine sAb rfl ?_
   refine sN ?_
   refine cRet ?_
   exact ⟨.inr rfl, _, rfl, congrArg Value.bool (decide_eq_false fun h => e2 h.2.1).symm, hE⟩
 ·
  rw [decide_eq_false e1]
  refine sGF rfl rfl ?_
  refine sGF rfl rfl ?_
  refine sGF rfl rfl ?_
  refine sGF rfl rfl ?_
  refine sGF rfl rfl ?_
  refine sPb rfl ?_
  refine sMb rfl ?_
  refine sGF rfl rfl ?_
  refine sGF rfl rfl ?_
  refine sGF rfl rfl ?_
  refine sGF rfl rfl ?_
  refine sGF rfl rfl ?_
  refine sPb rfl ?_
  refine sAb rfl ?_
  refine sN ?_
  refine cRet ?_
  exact ⟨.inr rfl, _, rfl, congrArg Value.bool (decide_eq_false fun h => e1 h.1).symm, hE⟩
end Go.AM

/-! R67 -/
namespace Go.AM
open Go.Proofs
end Go.AM

/-! R68 -/
namespace Go.AM
open Go.Proofs
def outI (n : Int) (l : List Int) : Prop := ∃ w ∈ l, w < 0 ∨ n ≤ w
instance (n : Int) (l : List Int) : Decidable (outI n l) := inferInstanceAs (Decidable (∃ w ∈ l, w < 0 ∨ n ≤ w))
def maskE (n b : Int) (Gs : List GateV) (l : List Int) : Nat := if circ8E n b Gs ≠ 0 then circ8E n b Gs else if outI n l then 1 else if l.Nodup then 0 else 5
def maskV (n b : Int) (Gs : List GateV) (l : List Int) : Nat := if maskE n b Gs l = 0 then posM (l.map Int.toNat) else 0
def cleanK (Gs : List (Nat × List Nat)) (mk x : Nat) : Bool := decide (x &&& mk = 0) && decide (runS Gs x &&& mk ≠ 0)
def borrK (Gs : List (Nat × List Nat)) (mk x : Nat) : Bool := decide ((runS Gs x ^^^ x) &&& mk ≠ 0) || decide (offM (runS Gs x ^^^ runS Gs (offM x mk)) mk ≠ 0)
def cleE (n b : Int) (Gs : List GateV) (l : List Int) : Nat := if maskE n b Gs l ≠ 0 then maskE n b Gs l else foundE n.toNat (cleanK (Gs.map gnM) (maskV n b Gs l))
def cleV (n b : Int) (Gs : List GateV) (l : List Int) : Nat := if maskE n b Gs l ≠ 0 then 0 else foundN n.toNat (cleanK (Gs.map gnM) (maskV n b Gs l))
def borE (n b : Int) (Gs : List GateV) (l : List Int) : Nat := if maskE n b Gs l ≠ 0 then maskE n b Gs l else foundE n.toNat (borrK (Gs.map gnM) (maskV n b Gs l))
def borV (n b : Int) (Gs : List GateV) (l : List Int) : Nat := if maskE n b Gs l ≠ 0 then 0 else foundN n.toNat (borrK (Gs.map gnM) (maskV n b Gs l))
theorem outI_nat {n : Nat} {l : List Int} (h : ¬ outI (Int.ofNat n) l) : ∃ L : List Nat, l = ofs L ∧ ∀ y ∈ L, y < n := by
 have h0 : ∀ w ∈ l, 0 ≤ w ∧ w < Int.ofNat n := fun w hw => by
  have : ¬ (w < 0 ∨ Int.ofNat n ≤ w) := fun hh => h ⟨w, hw, hh⟩
  omega
 have e := ofs_toNat (l := l) fun w hw => (h0 w hw).1
 refine ⟨l.map Int.toNat, e.symm, fun y hy => ?_⟩
 obtain ⟨w, hw, rfl⟩ := List.mem_map.1 hy
 have := h0 w hw
 simp only [Int.ofNat_eq_natCast] at this; omega
theorem toNat_ofs (L : List Nat) : (ofs L).map Int.toNat = L := by
 rw [ofs, List.map_map]
 exact (List.map_congr_left fun x _ => by simp).trans (List.map_id L)
theorem nodup_take_in {L : List Nat} {i x : Nat} (h : L[i]? = some x) (hm : x ∈ L.take i) : ¬ L.Nodup := fun hn => by
 have hi := (List.getElem?_eq_some_iff.1 h).1
 have e : L[i] = x := (List.getElem?_eq_some_iff.1 h).2
 exact nodup_take_not hn hi (by rw [e]; exact hm)
theorem maskE_ok {n' b' : Nat} {Gs : List (Nat × List Nat)} {L : List Nat} (h0 : circ8E (Int.ofNat n') (Int.ofNat b') (Gs.map gvM) = 0) (hlt : ∀ y ∈ L, y < n') : maskE (Int.ofNat n') (Int.ofNat b') (Gs.map gvM) (ofs L) = if L.Nodup then 0 else 5 := by
 have ho : ¬ outI (Int.ofNat n') (ofs L) := by
  rintro ⟨w, hw, h⟩
  obtain ⟨y, hy, rfl⟩ := List.mem_map.1 hw
  have := hlt y hy
  simp only [Int.ofNat_eq_natCast] at h; omega
 rw [maskE, if_neg (by rw [h0]; simp), if_neg ho]
 by_cases h : L.Nodup
 ·rw [if_pos (ofs_nodup.2 h), if_pos h]
 ·rw [if_neg (fun hh => h (ofs_nodup.1 hh)), if_neg h]
theorem okf102k : okF Tryd.prog H0 102 35 = true := by kernel_rfl
theorem spec_maskK {m : Mem} {n b : Int} {s a : Value} {Gs : List GateV} {l : List Int} (hC : GlobK m) (hG : GsAt m s Gs) (ha : IntsAt m a l) (hl20 : l.length ≤ 1000) : ∃ v m', ACalls Tryd.prog 102 #[.agg #[.int .i64 n, .int .i64 b, s], a] m v m' ∧ (v = .tuple #[nv (maskV n b Gs l), nv (maskE n b Gs l)] ∧ Ext m m') := by
 obtain ⟨q, cap, rfl⟩ := hG.len
 obtain ⟨qa, ca, rfl⟩ := ha.len
 refine wpF (args := [_, _]) mixed okf102k (fn := Tryd.f102) rfl rfl rfl (by simp) ?_
 refine cSR ?_
 refine sBox (v := .agg _) rfl ?_
 change wpOps _ _ _ _ _ (m.push (.cells true #[.int .i64 n, .int .i64 b, .slice q Gs.length cap]))
 have e1 : Ext m (m.push (.cells true #[.int .i64 n, .int .i64 b, .slice q Gs.length cap])) := .push _ _
 have g1 : Mem.get (m.push (.cells true #[.int .i64 n, .int .i64 b, .slice q Gs.length cap])) m.size = .cells true #[.int .i64 n, .int .i64 b, .slice q Gs.length cap] := gP rfl
 generalize m.push (.cells true #[.int .i64 n, .int .i64 b, .slice q Gs.length cap]) = M at *
 refine sAn rfl ?_
 refine sAn rfl ?_
 refine sN ?_
 refine cSeq (cSR ?_)
 refine sLdAll A30 S30 rfl g1 rfl ?_
 obtain ⟨v8, m8, h8, rfl, e8⟩ := spec_Check8I (n := n) (b := b) (hC.ext e1) (hG.ext e1)
 refine sCall1 rfl call45 rfl h8 ?_
 replace g1 := e8.cells g1
 replace e1 := e1.trans e8
 refine sAn rfl ?_
 refine sN ?_
 refine cSR ?_
 refine sMn rfl ?_
 refine sBin (a := circ8E n b Gs) (b := 0) rfl rfl aInt_neq ?_
 refine sN ?_
 refine cCond (p := circ8E n b Gs ≠ 0) rfl (fun c0 => ?_) (fun c0 => ?_)
 ·
  refine cSR ?_
  refine sMn rfl ?_
  refine sAn rfl ?_
  refine sAn rfl ?_
  refine sN ?_
  refine cRet (kSeqR ?_)
  have ha : maskE n b Gs l = circ8E n b Gs := by rw [maskE, if_pos c0]
  exact ⟨.inr rfl, _, rfl, by rw [maskV, ha, if_neg c0]; rfl, e1⟩
 ·
  have h0 : circ8E n b Gs = 0 := Classical.byContradiction c0
  obtain ⟨n', b', Gs', rfl, rfl, rfl, hc⟩ := circ8_nat h0
  have h10 := hc.ten
  refine cSkip (kSeqN ?_)
  refine cSeq (cSR ?_)
  refine sMs rfl ?_
  refine sMFc1 rfl ?_
  have h17 := spec_ContainsFunc (m := m8) (p := fun x => decide (x < 0) || decide (Int.ofNat n' ≤ x)) (ha.ext e1) (by omega) call137 (cp := #[.pointer (some ⟨m.size, 0, none⟩)]) fun x _ => spec_mask1 g1
  have hany : (l.any fun x => decide (x < 0) || decide (Int.ofNat n' ≤ x)) = decide (outI (Int.ofNat n') l) := by
   rw [Bool.eq_iff_iff, decide_eq_true_eq, List.any_eq_true]
   constructor
   ·rintro ⟨w, hw, h⟩; exact ⟨w, hw, by simpa using h⟩
   ·rintro ⟨w, hw, h⟩; exact ⟨w, hw, by simpa using h⟩
  rw [hany] at h17
  refine sCall2 rfl call107 rfl rfl h17 ?_
  refine sN ?_
  refine cCond (p := outI (Int.ofNat n') l) rfl (fun c1 => ?_) (fun c1 => ?_)
  ·
   refine cSR ?_
   refine sAn rfl ?_
   refine sAs (v := nv 1) rfl ?_
   refine sN ?_
   refine cRet (kSeqR ?_)
   have ha : maskE (Int.ofNat n') (Int.ofNat b') (Gs'.map gvM) l = 1 := by rw [maskE, if_neg c0, if_pos c1]
   exact ⟨.inr rfl, _, rfl, by rw [maskV, ha, if_neg (by decide)]; rfl, e1⟩
  ·
   obtain ⟨L, rfl, hlt⟩ := outI_nat c1
   have hme := maskE_ok h0 hlt
   have hL20 : L.length ≤ 1000 := by rw [ofs_length] at hl20; exact hl20
   rw [ofs_length] at ha
   refine cSkip (kSeqN ?_)
   refine cSR ?_
   refine sAn rfl ?_
   refine sN ?_
   refine cSeq (cSR ?_)
   refine sMv (v := .slice qa L.length ca) (by rw [ofs_length]; rfl) ?_
   refine sLen T22 rfl ?_
   refine sMv (v := nv 0) rfl ?_
   refine sN ?_
   refine cBlock ?_
   refine wpC_loop (fun k' ρ m' => ∃ i, k' = L.length - i ∧ i ≤ L.length ∧ (∀ (j : Nat) x, j < i → L[j]? = some x → x ∉ L.take j) ∧ m8 = m' ∧ Has ρ [(7, nv (posM (L.take i))), (18, .slice qa L.length ca), (19, nv L.length), (20, nv i)]) ⟨0, rfl, by omega, fun j x h => absurd h (by omega), rfl, rfl, rfl, rfl, rfl, trivial⟩ ?_
   rintro k' ρ _ ⟨i, rfl, hi, hr, rfl, hh⟩
   rw [hh.env]; clear hh
   refine cSR ?_
   refine sBin rfl rfl (aInt_lss) ?_
   refine sN ?_
   refine cSeq ?_
   refine cCond rfl (fun c2 => ?_) (fun c2 => ?_)
   ·
    obtain ⟨b1, o1, p1, r1, cc, ee1, gg, x1⟩ := (ha.ext e1).atN (by omega)
    cases ee1
    have hy := hlt L[i] (List.getElem_mem c2)
    have hpl : posM (L.take i) < 2 ^ 12 := posM_lt fun y hy => by have := hlt y (List.mem_of_mem_take hy); omega
    have h2y : 2 ^ L[i] < 2 ^ 12 := Nat.pow_lt_pow_right (by omega) (by omega)
    have hsh := Nat.shiftRight_le (posM (L.take i)) L[i]
    have hbit : (posM (L.take i) >>> L[i] &&& 1 = 1) ↔ L[i] ∈ L.take i := by
     rw [bit_one, posM_bit, decide_eq_true_eq]
    refine cSkip (kSeqN ?_)
    refine cSeq (cBlock (cSR ?_))
    refine sIx T22 S3 rfl rfl (by omega) ?_
    refine sLd (v := nv L[i]) A3 rfl gg (x1 i L[i] (by simp)) ?_
    refine sAn rfl ?_
    refine sN ?_
    refine cSeq (cSR ?_)
    refine sMn rfl ?_
    refine sMn rfl ?_
    refine sBin (a := posM (L.take i)) (b := L[i]) rfl rfl (aInt_shr (by omega)) ?_
    refine sBin (b := 1) rfl rfl (aInt_and (by omega)) ?_
    refine sBin (v := .bool (decide (L[i] ∈ L.take i))) (b := 1) rfl rfl (by rw [aInt_eql, decide_eq_decide.2 hbit]) ?_
    refine sN ?_
    refine cCond (p := L[i] ∈ L.take i) rfl (fun c3 => ?_) (fun c3 => ?_)
    ·
     refine cSR ?_
     refine sAn rfl ?_
     refine sAs (v := nv 5) rfl ?_
     refine sN ?_
     refine cRet (kSeqR (kBlkR (kSeqR (kSeqR (kBlkR (kSeqR ?_))))))
     have ha : maskE (Int.ofNat n') (Int.ofNat b') (Gs'.map gvM) (ofs L) = 5 := by rw [hme, if_neg (nodup_take_in (List.getElem?_eq_getElem c2) c3)]
     exact ⟨.inr rfl, _, rfl, by rw [maskV, ha, if_neg (by decide)]; rfl, e1⟩
    ·
     refine cSkip (kSeqN ?_)
     refine cRegion ?_
     refine sMn rfl ?_
     refine sMn rfl ?_
     refine sBin (v := nv (2 ^ L[i])) rfl rfl (by rw [aInt_shl (a := 1) (b := L[i]) (by omega), Nat.shiftLeft_eq, Nat.one_mul]) ?_
     refine sBin (a := posM (L.take i)) (b := 2 ^ L[i]) rfl rfl (aInt_or ⟨by omega, by omega⟩) ?_
     refine sAn rfl ?_
     refine sNil (kBlkN (kSeqN ?_))
     refine cRegion ?_
     refine sBin rfl rfl (aInt_add (b := 1) (by omega)) ?_
     refine sMn rfl ?_
     refine sN ?_
     refine ⟨_, ?_, i + 1, rfl, by omega, fun j x hj hx => ?_, rfl, by rw [posM_take (List.getElem?_eq_getElem c2)]; rfl, rfl, rfl, rfl, trivial⟩
     ·omega
     ·by_cases e : j = i
      ·subst e
       rw [List.getElem?_eq_getElem c2] at hx
       cases hx; exact c3
      ·exact hr j x (by omega) hx
   ·
    refine cExit (kSeqE (kSeqE (kBlkS (kSeqN ?_))))
    refine cSR ?_
    refine sMn rfl ?_
    refine sAn rfl ?_
    refine sAn rfl ?_
    refine sN ?_
    refine cRet ?_
    have hnd : L.Nodup := nodup_of_take fun j x hx => hr j x (by have := (List.getElem?_eq_some_iff.1 hx).1; omega) hx
    have ha : maskE (Int.ofNat n') (Int.ofNat b') (Gs'.map gvM) (ofs L) = 0 := by rw [hme, if_pos hnd]
    obtain rfl : i = L.length := by omega
    rw [List.take_length]
    exact ⟨.inr rfl, _, rfl, by rw [maskV, ha, if_pos rfl, toNat_ofs]; rfl, e1⟩
def H104k : Nat → List (Nat × Nat) := fun id => if id = 1 then [(1, 8), (5, 8), (8, 0)] else []
theorem okf104k : okF Tryd.prog H104k 104 17 = true := by kernel_rfl
theorem spec_Clean1K {m : Mem} {n x p1 p2 mk : Nat} {b : Int} {r1 r2 : Bool} {s : Value} {Gs : List (Nat × List Nat)} (hC : GlobK m) (hG : GsAt m s (Gs.map gvM)) (hc : CircS n Gs) (hx : x < 2 ^ n) (g1 : Mem.get m p1 = .cells r1 #[nv mk]) (g2 : Mem.get m p2 = .cells r2 #[nv n, .int .i64 b, s]) (hmk : mk < 2 ^ 12) : ∃ v m', ACalls Tryd.prog 104 #[nv x, .pointer (some ⟨p1, 0, none⟩), .pointer (some ⟨p2, 0, none⟩)] m v m' ∧ (v = .bool (cleanK Gs mk x) ∧ Ext m m') := by
 obtain ⟨q, cap, rfl⟩ := (GsAt.lenN hG)
 have h10 := hc.ten
 have hp10 : 2 ^ n ≤ 2 ^ 12 := Nat.pow_le_pow_right (by omega) h10
 have hrl := runS_lt hx hc.all
 refine wpF (args := [_, _, _]) mixed okf104k (fn := Tryd.f104) rfl rfl rfl (by simp) ?_
 refine cSR ?_
 refine sAb rfl ?_
 refine sN ?_
 refine cSeq ?_
 refine cDrawH (hs := [(1, 8), (5, 8), (8, 0)]) rfl (by decide) ?_
 refine lStepO (sMv (v := nv _) rfl (sNil fun e0 hm0 => ?_))
 refine lStepLd (v := nv mk) A3 rfl g1 rfl fun e1 hm1 hv1 hr1 => ?_
 refine lStepO (sBin (a := x) (b := mk) rfl rfl (aInt_and ⟨by omega, by omega⟩) (sNil fun e2 hm2 => ?_))
 refine lStepO (sBin (v := .bool (decide (x &&& mk = 0))) (b := 0) rfl rfl aInt_eql (sNil fun e3 hm3 => ?_))
 refine lStepO (sMv (v := .bool _) rfl (sNil fun e4 hm4 => ?_))
 by_cases h1 : x &&& mk = 0
 ·
  rw [decide_eq_true h1]
  refine lG rfl rfl ?_
  refine lStepLdA A30 S30 rfl g2 rfl fun e5 hm5 hv5 hr5 => ?_
  refine lG rfl rfl ?_
  refine lStepO (sMv (v := nv _) rfl (sNil fun e6 hm6 => ?_))
  refine lG rfl rfl ?_
  obtain ⟨v12, m12, h12, rfl, ex12⟩ := spec_runK (b := b) hC hG hc hx
  refine lStepO (sCall2 rfl call97 rfl rfl h12 (sNil fun e7 hm7 => ?_))
  refine lG rfl rfl ?_
  refine lStepLd (v := nv mk) A3 rfl (ex12.cells g1) rfl fun e8 hm8 hv8 hr8 => ?_
  refine lG rfl rfl ?_
  refine lStepO (sBin (a := runS Gs x) (b := mk) rfl rfl (aInt_and ⟨by omega, by omega⟩) (sNil fun e9 hm9 => ?_))
  refine lG rfl rfl ?_
  refine lStepO (sBin (a := runS Gs x &&& mk) (b := 0) rfl rfl aInt_neq (sNil fun e10 hm10 => ?_))
  refine lStepO (sP (v := .bool _) rfl (sNil fun e11 hm11 => ?_))
  refine lStepO (sAs (v := .bool _) rfl (sNil fun e12 hm12 => ?_))
  refine ⟨?_, (kSeqN ?_)⟩
  ·
   refine obl_atE (e := e1) (e' := e8) (by simp) (by rfl) (by simp) ((hr1 e8.m _ _ (by rw [hm8]; exact ex12.cells g1) (by rfl)).trans (congrArg some hv1.symm)) ?_
   refine obl_atE (e := e5) (e' := e8) (by simp) (by rfl) (by simp) ((hr5 e8.m _ (by rw [hm8]; exact ex12.cells g2)).trans (congrArg some hv5.symm)) ?_
   refine obl_atE (e := e8) (e' := e0) (by simp) (by rfl) (by simp) ((hr8 e0.m _ _ (by rw [hm0]; exact g1) (by rfl)).trans (congrArg some hv8.symm)) ?_
   trivial
  refine cRet ?_
  exact ⟨.inr rfl, _, rfl, by rw [cleanK, decide_eq_true h1]; rfl, ex12⟩
 ·
  rw [decide_eq_false h1]
  refine lGno (q' := false) rfl rfl (by simp) fun e5 hm5 hq5 => ?_
  refine lGno (q' := false) rfl rfl (by simp) fun e6 hm6 hq6 => ?_
  refine lGno (q' := false) rfl rfl (by simp) fun e7 hm7 hq7 => ?_
  refine lGno (q' := false) rfl rfl (by simp) fun e8 hm8 hq8 => ?_
  refine lGno (q' := false) rfl rfl (by simp) fun e9 hm9 hq9 => ?_
  refine lGno (q' := false) rfl rfl (by simp) fun e10 hm10 hq10 => ?_
  refine lStepO (sP (v := .bool _) rfl (sNil fun e11 hm11 => ?_))
  refine lStepO (sAs (v := .bool _) rfl (sNil fun e12 hm12 => ?_))
  refine ⟨?_, (kSeqN ?_)⟩
  ·
   refine obl_atE (e := e1) (e' := e8) (by simp) (by rfl) (by simp) ((hr1 e8.m _ _ (by rw [hm8]; exact g1) (by rfl)).trans (congrArg some hv1.symm)) ?_
   refine obl_no (e := e5) (by simp) (by rfl) rfl rfl hq5 (by simp) ?_
   refine obl_no (e := e8) (by simp) (by rfl) rfl rfl hq8 (by simp) ?_
   trivial
  refine cRet ?_
  exact ⟨.inr rfl, _, rfl, by rw [cleanK, decide_eq_false h1]; rfl, .refl _⟩
def H106k : Nat → List (Nat × Nat) := fun id => if id = 2 then [(3, 13), (8, 13), (10, 13), (14, 0)] else []
theorem okf106k : okF Tryd.prog H106k 106 27 = true := by kernel_rfl
theorem spec_Borr1K {m : Mem} {n x p1 p2 mk : Nat} {b : Int} {r1 r2 : Bool} {s : Value} {Gs : List (Nat × List Nat)} (hC : GlobK m) (hG : GsAt m s (Gs.map gvM)) (hc : CircS n Gs) (hx : x < 2 ^ n) (g1 : Mem.get m p2 = .cells r1 #[nv mk]) (g2 : Mem.get m p1 = .cells r2 #[nv n, .int .i64 b, s]) (hmk : mk < 2 ^ 12) : ∃ v m', ACalls Tryd.prog 106 #[nv x, .pointer (some ⟨p1, 0, none⟩), .pointer (some ⟨p2, 0, none⟩)] m v m' ∧ (v = .bool (borrK Gs mk x) ∧ Ext m m') := by
 obtain ⟨q, cap, rfl⟩ := (GsAt.lenN hG)
 have h10 := hc.ten
 have hp10 : 2 ^ n ≤ 2 ^ 12 := Nat.pow_le_pow_right (by omega) h10
 have hrl := runS_lt hx hc.all
 have hxl : runS Gs x ^^^ x < 2 ^ 12 := Nat.xor_lt_two_pow (by omega) (by omega)
 have hofl := offM_le x mk
 have hrl2 := runS_lt (x := offM x mk) (n := n) (Gs := Gs) (by omega) hc.all
 have hxl2 : runS Gs x ^^^ runS Gs (offM x mk) < 2 ^ 12 := Nat.xor_lt_two_pow (by omega) (by omega)
 refine wpF (args := [_, _, _]) mixed okf106k (fn := Tryd.f106) rfl rfl rfl (by simp) ?_
 refine cSR ?_
 refine sAb rfl ?_
 refine sN ?_
 refine cSR ?_
 refine sLdAll A30 S30 rfl g2 rfl ?_
 refine sMn rfl ?_
 obtain ⟨v8, m8, h8, rfl, ex8⟩ := spec_runK (b := b) hC hG hc hx
 refine sCall2 rfl call97 rfl rfl h8 ?_
 have g1' := ex8.cells g1
 have g2' := ex8.cells g2
 refine sAn rfl ?_
 refine sN ?_
 refine cSeq ?_
 refine cDrawH (hs := [(3, 13), (8, 13), (10, 13), (14, 0)]) rfl (by decide) ?_
 refine lStepO (sMv (v := nv _) rfl (sNil fun e0 hm0 => ?_))
 refine lStepO (sMv (v := nv _) rfl (sNil fun e1 hm1 => ?_))
 refine lStepO (sBin (a := runS Gs x) (b := x) rfl rfl (aInt_xor ⟨by omega, by omega⟩) (sNil fun e2 hm2 => ?_))
 refine lStepLd (v := nv mk) A3 rfl g1' rfl fun e3 hm3 hv3 hr3 => ?_
 refine lStepO (sBin (a := runS Gs x ^^^ x) (b := mk) rfl rfl (aInt_and ⟨by omega, by omega⟩) (sNil fun e4 hm4 => ?_))
 refine lStepO (sBin (a := (runS Gs x ^^^ x) &&& mk) (b := 0) rfl rfl aInt_neq (sNil fun e5 hm5 => ?_))
 refine lStepO (sMv (v := .bool _) rfl (sNil fun e6 hm6 => ?_))
 by_cases h1 : (runS Gs x ^^^ x) &&& mk ≠ 0
 ·
  rw [decide_eq_true h1]
  refine lGno (q' := true) rfl rfl (by simp) fun e7 hm7 hq7 => ?_
  refine lGno (q' := true) rfl rfl (by simp) fun e8 hm8 hq8 => ?_
  refine lGno (q' := true) rfl rfl (by simp) fun e9 hm9 hq9 => ?_
  refine lGno (q' := true) rfl rfl (by simp) fun e10 hm10 hq10 => ?_
  refine lGno (q' := true) rfl rfl (by simp) fun e11 hm11 hq11 => ?_
  refine lGno (q' := true) rfl rfl (by simp) fun e12 hm12 hq12 => ?_
  refine lGno (q' := true) rfl rfl (by simp) fun e13 hm13 hq13 => ?_
  refine lGno (q' := true) rfl rfl (by simp) fun e14 hm14 hq14 => ?_
  refine lGno (q' := true) rfl rfl (by simp) fun e15 hm15 hq15 => ?_
  refine lGno (q' := true) rfl rfl (by simp) fun e16 hm16 hq16 => ?_
  refine lStepO (sP (v := .bool _) rfl (sNil fun e17 hm17 => ?_))
  refine lStepO (sAs (v := .bool _) rfl (sNil fun e18 hm18 => ?_))
  refine ⟨?_, (kSeqN ?_)⟩
  ·
   refine obl_atE (e := e3) (e' := e13) (by simp) (by rfl) (by simp) ((hr3 e13.m _ _ (by rw [hm13]; exact g1') (by rfl)).trans (congrArg some hv3.symm)) ?_
   refine obl_no (e := e8) (by simp) (by rfl) rfl rfl hq8 (by simp) ?_
   refine obl_no (e := e10) (by simp) (by rfl) rfl rfl hq10 (by simp) ?_
   refine obl_no (e := e14) (by simp) (by rfl) rfl rfl hq14 (by simp) ?_
   trivial
  refine cRet ?_
  exact ⟨.inr rfl, _, rfl, by rw [borrK, decide_eq_true h1]; rfl, ex8⟩
 ·
  rw [decide_eq_false h1]
  refine lG rfl rfl ?_
  refine lStepO (sMv (v := nv _) rfl (sNil fun e7 hm7 => ?_))
  refine lG rfl rfl ?_
  refine lStepLdA A30 S30 rfl g2' rfl fun e8 hm8 hv8 hr8 => ?_
  refine lG rfl rfl ?_
  refine lStepO (sMv (v := nv _) rfl (sNil fun e9 hm9 => ?_))
  refine lG rfl rfl ?_
  refine lStepLd (v := nv mk) A3 rfl g1' rfl fun e10 hm10 hv10 hr10 => ?_
  refine lG rfl rfl ?_
  refine lStepO (sBin (a := x) (b := mk) rfl rfl (aInt_andNot ⟨by omega, by omega⟩) (sNil fun e11 hm11 => ?_))
  refine lG rfl rfl ?_
  obtain ⟨v12, m12, h12, rfl, ex12⟩ := spec_runK (b := b) (hC.ext ex8) (hG.ext ex8) hc (x := offM x mk) (by omega)
  refine lStepO (sCall2 rfl call97 rfl rfl h12 (sNil fun e12 hm12 => ?_))
  refine lG rfl rfl ?_
  refine lStepO (sBin (a := runS Gs x) (b := runS Gs (offM x mk)) rfl rfl (aInt_xor ⟨by omega, by omega⟩) (sNil fun e13 hm13 => ?_))
  refine lG rfl rfl ?_
  refine lStepLd (v := nv mk) A3 rfl (ex12.cells g1') rfl fun e14 hm14 hv14 hr14 => ?_
  refine lG rfl rfl ?_
  refine lStepO (sBin (a := runS Gs x ^^^ runS Gs (offM x mk)) (b := mk) rfl rfl (aInt_andNot ⟨by omega, by omega⟩) (sNil fun e15 hm15 => ?_))
  refine lG rfl rfl ?_
  refine lStepO (sBin (a := offM (runS Gs x ^^^ runS Gs (offM x mk)) mk) (b := 0) rfl rfl aInt_neq (sNil fun e16 hm16 => ?_))
  refine lStepO (sP (v := .bool _) rfl (sNil fun e17 hm17 => ?_))
  refine lStepO (sAs (v := .bool _) rfl (sNil fun e18 hm18 => ?_))
  refine ⟨?_, (kSeqN ?_)⟩
  ·
   refine obl_atE (e := e3) (e' := e13) (by simp) (by rfl) (by simp) ((hr3 e13.m _ _ (by rw [hm13]; exact ex12.cells g1') (by rfl)).trans (congrArg some hv3.symm)) ?_
   refine obl_atE (e := e8) (e' := e13) (by simp) (by rfl) (by simp) ((hr8 e13.m _ (by rw [hm13]; exact ex12.cells g2')).trans (congrArg some hv8.symm)) ?_
   refine obl_atE (e := e10) (e' := e13) (by simp) (by rfl) (by simp) ((hr10 e13.m _ _ (by rw [hm13]; exact ex12.cells g1') (by rfl)).trans (congrArg some hv10.symm)) ?_
   refine obl_atE (e := e14) (e' := e0) (by simp) (by rfl) (by simp) ((hr14 e0.m _ _ (by rw [hm0]; exact g1') (by rfl)).trans (congrArg some hv14.symm)) ?_
   trivial
  refine cRet ?_
  exact ⟨.inr rfl, _, rfl, by rw [borrK, decide_eq_false h1]; rfl, ex8.trans ex12⟩
theorem mask_nat {n b : Int} {Gs : List GateV} {l : List Int} (h : ¬ maskE n b Gs l ≠ 0) : ∃ (n' b' : Nat) (Gs' : List (Nat × List Nat)), n = Int.ofNat n' ∧ b = Int.ofNat b' ∧ Gs = Gs'.map gvM ∧ CircS n' Gs' ∧ maskV (Int.ofNat n') (Int.ofNat b') (Gs'.map gvM) l < 2 ^ 12 := by
 have h1 : maskE n b Gs l = 0 := Classical.byContradiction h
 have h0 : circ8E n b Gs = 0 := by
  unfold maskE at h1
  split at h1
  ·rename_i hh; exact absurd h1 hh
  ·rename_i hh; exact Classical.byContradiction hh
 obtain ⟨n', b', Gs', rfl, rfl, rfl, hc⟩ := circ8_nat h0
 refine ⟨n', b', Gs', rfl, rfl, rfl, hc, ?_⟩
 have ho : ¬ outI (Int.ofNat n') l := fun ho => by
  rw [maskE, if_neg (by rw [h0]; simp), if_pos ho] at h1; cases h1
 obtain ⟨L, rfl, hlt⟩ := outI_nat ho
 rw [maskV, if_pos h1, toNat_ofs]
 exact posM_lt fun y hy => by have := hlt y hy; have := hc.ten; omega
theorem okf46k : okF Tryd.prog H0 46 23 = true := by kernel_rfl
theorem spec_CleanK {m : Mem} {n b : Int} {s a : Value} {Gs : List GateV} {l : List Int} (hC : GlobK m) (hG : GsAt m s Gs) (ha : IntsAt m a l) (hl20 : l.length ≤ 1000) : ∃ v m', ACalls Tryd.prog 46 #[.agg #[.int .i64 n, .int .i64 b, s], a] m v m' ∧ (v = .tuple #[nv (cleV n b Gs l), nv (cleE n b Gs l)] ∧ Ext m m') := by
 obtain ⟨q, cap, rfl⟩ := hG.len
 obtain ⟨qa, ca, rfl⟩ := ha.len
 refine wpF (args := [_, _]) mixed okf46k (fn := Tryd.f46) rfl rfl rfl (by simp) ?_
 refine cSR ?_
 refine sBox (v := .agg _) rfl ?_
 change wpOps _ _ _ _ _ (m.push (.cells true #[.int .i64 n, .int .i64 b, .slice q Gs.length cap]))
 have e1 : Ext m (m.push (.cells true #[.int .i64 n, .int .i64 b, .slice q Gs.length cap])) := .push _ _
 have g1 : Mem.get (m.push (.cells true #[.int .i64 n, .int .i64 b, .slice q Gs.length cap])) m.size = .cells true #[.int .i64 n, .int .i64 b, .slice q Gs.length cap] := gP rfl
 refine sAn rfl ?_
 refine sAn rfl ?_
 refine sN ?_
 refine cSR ?_
 refine sLdAll A30 S30 rfl g1 rfl ?_
 refine sMs rfl ?_
 obtain ⟨v11, m11, h11, rfl, e11⟩ := spec_maskK (n := n) (b := b) (hC.ext e1) (hG.ext e1) (ha.ext e1) hl20
 refine sCall2 rfl call102 rfl rfl h11 ?_
 replace g1 := e11.cells g1
 replace e1 := e1.trans e11
 refine sMv (v := .tuple _) rfl ?_
 refine sP (v := nv _) rfl ?_
 refine sP (v := nv _) rfl ?_
 refine sAlloc Z3 (by kernel_rfl) ?_
 refine sStN (v := nv (maskV n b Gs l)) S3 rfl rfl rfl rfl rfl ?_
 have e2 : Ext m11 (m11.push (.cells true #[nv (maskV n b Gs l)])) := .push _ _
 have g2 : Mem.get (m11.push (.cells true #[nv (maskV n b Gs l)])) m11.size = .cells true #[nv (maskV n b Gs l)] := gP rfl
 replace g1 := e2.cells g1
 replace e1 := e1.trans e2
 refine sAn rfl ?_
 refine sN ?_
 refine cSeq (cSR ?_)
 refine sMn rfl ?_
 refine sBin (a := maskE n b Gs l) (b := 0) rfl rfl aInt_neq ?_
 refine sN ?_
 refine cCond (p := maskE n b Gs l ≠ 0) rfl (fun c0 => ?_) (fun c0 => ?_)
 ·
  refine cSR ?_
  refine sMn rfl ?_
  refine sAn rfl ?_
  refine sAn rfl ?_
  refine sN ?_
  refine cRet (kSeqR ?_)
  exact ⟨.inr rfl, _, rfl, by rw [cleV, cleE, if_pos c0, if_pos c0]; rfl, e1⟩
 ·
  obtain ⟨n', b', Gs', rfl, rfl, rfl, hc, hpl⟩ := mask_nat c0
  have h10 := hc.ten
  refine cSkip (kSeqN ?_)
  refine cSR ?_
  refine sFA F30_0 rfl ?_
  refine sLd (v := nv n') A3 rfl g1 rfl ?_
  refine sMFc2 rfl rfl ?_
  simp only [List.length_map] at g1
  obtain ⟨v20, m20, h20, rfl, e20⟩ := spec_foundX (m := m11.push (.cells true #[nv (maskV (Int.ofNat n') (Int.ofNat b') (Gs'.map gvM) l)])) (fid := 104) (so := cleanK Gs' (maskV (Int.ofNat n') (Int.ofNat b') (Gs'.map gvM) l)) (c1 := .pointer (some ⟨m11.size, 0, none⟩)) (c2 := .pointer (some ⟨m.size, 0, none⟩)) h10 call104 fun x hx m' he => spec_Clean1K (b := Int.ofNat b') ((hC.ext e1).ext he) (by have := (hG.ext e1).ext he; rw [List.length_map] at this; exact this) hc hx (he.cells g2) (he.cells g1) hpl
  refine sCall2 rfl call103 rfl rfl h20 ?_
  refine sP (v := nv _) rfl ?_
  refine sP (v := nv _) rfl ?_
  refine sAn rfl ?_
  refine sAn rfl ?_
  refine sN ?_
  refine cRet ?_
  exact ⟨.inr rfl, _, rfl, by rw [cleV, cleE, if_neg c0, if_neg c0, gnM_all]; rfl, e1.trans e20⟩
theorem okf48k : okF Tryd.prog H0 48 23 = true := by kernel_rfl
theorem spec_BorrK {m : Mem} {n b : Int} {s a : Value} {Gs : List GateV} {l : List Int} (hC : GlobK m) (hG : GsAt m s Gs) (ha : IntsAt m a l) (hl20 : l.length ≤ 1000) : ∃ v m', ACalls Tryd.prog 48 #[.agg #[.int .i64 n, .int .i64 b, s], a] m v m' ∧ (v = .tuple #[nv (borV n b Gs l), nv (borE n b Gs l)] ∧ Ext m m') := by
 obtain ⟨q, cap, rfl⟩ := hG.len
 obtain ⟨qa, ca, rfl⟩ := ha.len
 refine wpF (args := [_, _]) mixed okf48k (fn := Tryd.f48) rfl rfl rfl (by simp) ?_
 refine cSR ?_
 refine sBox (v := .agg _) rfl ?_
 change wpOps _ _ _ _ _ (m.push (.cells true #[.int .i64 n, .int .i64 b, .slice q Gs.length cap]))
 have e1 : Ext m (m.push (.cells true #[.int .i64 n, .int .i64 b, .slice q Gs.length cap])) := .push _ _
 have g1 : Mem.get (m.push (.cells true #[.int .i64 n, .int .i64 b, .slice q Gs.length cap])) m.size = .cells true #[.int .i64 n, .int .i64 b, .slice q Gs.length cap] := gP rfl
 refine sAn rfl ?_
 refine sAn rfl ?_
 refine sN ?_
 refine cSR ?_
 refine sLdAll A30 S30 rfl g1 rfl ?_
 refine sMs rfl ?_
 obtain ⟨v11, m11, h11, rfl, e11⟩ := spec_maskK (n := n) (b := b) (hC.ext e1) (hG.ext e1) (ha.ext e1) hl20
 refine sCall2 rfl call102 rfl rfl h11 ?_
 replace g1 := e11.cells g1
 replace e1 := e1.trans e11
 refine sMv (v := .tuple _) rfl ?_
 refine sP (v := nv _) rfl ?_
 refine sP (v := nv _) rfl ?_
 refine sAlloc Z3 (by kernel_rfl) ?_
 refine sStN (v := nv (maskV n b Gs l)) S3 rfl rfl rfl rfl rfl ?_
 have e2 : Ext m11 (m11.push (.cells true #[nv (maskV n b Gs l)])) := .push _ _
 have g2 : Mem.get (m11.push (.cells true #[nv (maskV n b Gs l)])) m11.size = .cells true #[nv (maskV n b Gs l)] := gP rfl
 replace g1 := e2.cells g1
 replace e1 := e1.trans e2
 refine sAn rfl ?_
 refine sN ?_
 refine cSeq (cSR ?_)
 refine sMn rfl ?_
 refine sBin (a := maskE n b Gs l) (b := 0) rfl rfl aInt_neq ?_
 refine sN ?_
 refine cCond (p := maskE n b Gs l ≠ 0) rfl (fun c0 => ?_) (fun c0 => ?_)
 ·
  refine cSR ?_
  refine sMn rfl ?_
  refine sAn rfl ?_
  refine sAn rfl ?_
  refine sN ?_
  refine cRet (kSeqR ?_)
  exact ⟨.inr rfl, _, rfl, by rw [borV, borE, if_pos c0, if_pos c0]; rfl, e1⟩
 ·
  obtain ⟨n', b', Gs', rfl, rfl, rfl, hc, hpl⟩ := mask_nat c0
  have h10 := hc.ten
  refine cSkip (kSeqN ?_)
  refine cSR ?_
  refine sFA F30_0 rfl ?_
  refine sLd (v := nv n') A3 rfl g1 rfl ?_
  refine sMFc2 rfl rfl ?_
  simp only [List.length_map] at g1
  obtain ⟨v20, m20, h20, rfl, e20⟩ := spec_foundX (m := m11.push (.cells true #[nv (maskV (Int.ofNat n') (Int.ofNat b') (Gs'.map gvM) l)])) (fid := 106) (so := borrK Gs' (maskV (Int.ofNat n') (Int.ofNat b') (Gs'.map gvM) l)) (c1 := .pointer (some ⟨m.size, 0, none⟩)) (c2 := .pointer (some ⟨m11.size, 0, none⟩)) h10 call106 fun x hx m' he => spec_Borr1K (b := Int.ofNat b') ((hC.ext e1).ext he) (by have := (hG.ext e1).ext he; rw [List.length_map] at this; exact this) hc hx (he.cells g2) (he.cells g1) hpl
  refine sCall2 rfl call103 rfl rfl h20 ?_
  refine sP (v := nv _) rfl ?_
  refine sP (v := nv _) rfl ?_
  refine sAn rfl ?_
  refine sAn rfl ?_
  refine sN ?_
  refine cRet ?_
  exact ⟨.inr rfl, _, rfl, by rw [borV, borE, if_neg c0, if_neg c0, gnM_all]; rfl, e1.trans e20⟩
end Go.AM

/-! R69 -/
namespace Go.AM
open Go.Proofs
theorem B96I {a b : Int} {q : Option Addr} {n c : Nat} : aBuild Tryd.prog 96 [(0, .agg #[.int .i64 a, .int .i64 b, .slice q n c])] = some (.agg #[.int .i64 a, .int .i64 b, .slice q n c]) := by kernel_rfl
def keepE (n b : Int) (Gs : List GateV) (l : List Int) : Nat := if circ8E n b Gs ≠ 0 then circ8E n b Gs else if outI n l then 1 else if 12 < n.toNat + l.length then 12 else if 120 < 2 * Gs.length + l.length then 2 else 0
def keepM (n i : Nat) (L : List Nat) : List (Nat × List Nat) := (List.range i).map fun i => (9, [L.getD i 0, n + i])
def keepG0 (n : Nat) (Gs : List (Nat × List Nat)) (L : List Nat) : List (Nat × List Nat) := Gs ++ keepM n L.length L ++ Gs.reverse
def keepG (n b : Int) (Gs : List GateV) (l : List Int) : List (Nat × List Nat) := if keepE n b Gs l = 0 then keepG0 n.toNat (Gs.map gnM) (l.map Int.toNat) else []
def keepW (n b : Int) (Gs : List GateV) (l : List Int) : Nat := if keepE n b Gs l = 0 then n.toNat + l.length else 0
def keepB (n b : Int) (Gs : List GateV) (l : List Int) : Nat := if keepE n b Gs l = 0 then b.toNat else 0
theorem keepM_succ (n i : Nat) (L : List Nat) : keepM n (i + 1) L = keepM n i L ++ [(9, [L.getD i 0, n + i])] := by
 unfold keepM; rw [List.range_succ, List.map_append]; rfl
theorem extract_at {c : Array Value} {i : Nat} {a b d e : Value} (h : c.extract i (i + 4) = #[a, b, d, e]) : c[i]? = some a ∧ c[i + 1]? = some b ∧ c[i + 2]? = some d ∧ c[i + 3]? = some e := by
 have key : ∀ j, j < 4 → c[i + j]? = (#[a, b, d, e] : Array Value)[j]? := fun j hj => by
  have hs : 4 ≤ c.size - i := by
   have := congrArg Array.size h
   simp at this; omega
  rw [← h, Array.getElem?_extract, if_pos (by omega)]
 exact ⟨key 0 (by omega), key 1 (by omega), key 2 (by omega), key 3 (by omega)⟩
theorem GsAt.readG {m : Mem} {v : Value} {Gs : List (Nat × List Nat)} (h : GsAt m v (Gs.map gvM)) (h0 : Gs ≠ []) : ReadG m v Gs := by
 rcases h with ⟨h, _⟩ | ⟨b, cap, r, c, rfl, h2, h3⟩
 ·exact absurd (List.map_eq_nil_iff.1 h) h0
 ·have hn : 0 < Gs.length := List.length_pos_iff.2 h0
  have hsz : Gs.length * 4 ≤ c.size := by
   obtain ⟨s, e1, _⟩ := h3 (Gs.length - 1) (gvM (Gs[Gs.length - 1]'(by omega))) (by rw [List.getElem?_map, List.getElem?_eq_getElem (by omega)]; rfl)
   omega
  refine ⟨c.extract 0 (0 + Gs.length * 4), .inr ⟨b, 0, cap, c, r, by rw [List.length_map], h2, by omega, rfl⟩, fun i g hi => ?_⟩
  obtain ⟨s, e1, e2, e3, _⟩ := h3 i (gvM g) (by rw [List.getElem?_map, hi]; rfl)
  have hil := (List.getElem?_eq_some_iff.1 hi).1
  obtain ⟨k0, k1, k2, k3⟩ := extract_at e2
  have hx : ∀ j, j < Gs.length * 4 → (c.extract 0 (0 + Gs.length * 4))[j]? = c[j]? := fun j hj => by
   rw [Array.getElem?_extract, if_pos (by omega), Nat.zero_add]
  simp only [Nat.zero_add] at k0 k1 k2 k3
  exact ⟨s, by rw [hx _ (by omega), k0]; rfl, by rw [hx _ (by omega), k1], by rw [hx _ (by omega), k2]; rfl, by rw [hx _ (by omega), k3]; rfl, e3⟩
theorem GsAt.back {m : Mem} {x : Value} {Gs : List (Nat × List Nat)} (h : GsAt m x (Gs.map gvM)) (hl : Gs.length ≤ 200000) (hw : ∀ g ∈ Gs, g.2.length ≤ 100) : ∃ v m', ACalls Tryd.prog 79 #[x] m v m' ∧ (∃ cs, OwnG m.size m' v cs Gs.reverse ∧ Ext m m') := by
 by_cases h0 : Gs = []
 ·subst h0
  obtain ⟨q, cap, rfl⟩ := h.len
  exact spec_backE
 ·exact spec_back (GsAt.readG h h0) hl hw
theorem OwnG.srcG {N M : Nat} {m : Mem} {v x : Value} {cs : Array Value} {Gs : List (Nat × List Nat)} (h : OwnG M m x cs Gs) (hN : N ≤ M) (hv : ∀ b, blkOf v = some b → b < M) : SrcG N m v x Gs :=
 ⟨cs, h.1.src, fun i g hi => by
  obtain ⟨s, h1, h2, h3, h4, ho, _⟩ := h.2 i g hi
  exact ⟨s, h1, h2, h3, h4, ho.mono hN, fun b hb e => by have := (ho.lt hb).1; have := hv b e; omega⟩⟩
/-- A builder with bits. -/
def BldB (N bb : Nat) (m : Mem) (W B : Nat) (Gs : List (Nat × List Nat)) (v : Value) : Prop := Mem.get m bb = .cells true #[nv W, nv B, v] ∧ bb < N ∧ ∃ cs, OwnG N m v cs Gs
theorem BldB.ext {N bb W B : Nat} {m m' : Mem} {Gs : List (Nat × List Nat)} {v : Value} (h : BldB N bb m W B Gs v) (he : Ext m m') : BldB N bb m' W B Gs v := by
 obtain ⟨h1, h2, cs, h3⟩ := h
 exact ⟨he.cells h1, h2, cs, h3.ext he⟩
theorem BldB.lt {N bb W B : Nat} {m : Mem} {Gs : List (Nat × List Nat)} {v : Value} (h : BldB N bb m W B Gs v) {b : Nat} (hb : blkOf v = some b) : b < m.size := by
 obtain ⟨_, _, cs, h3⟩ := h
 exact (h3.1.lt hb).2
theorem okf75b : okF Tryd.prog H0 75 15 = true := by kernel_rfl
theorem spec_addB {m : Mem} {N bb W B : Nat} {v x : Value} {Gs Gs2 : List (Nat × List Nat)} (hB : BldB N bb m W B Gs v) (hS : SrcG N m v x Gs2) (hN : N ≤ m.size) (hl : Gs.length ≤ 200000) (hl2 : Gs2.length ≤ 200000) : ∃ r m', ACalls Tryd.prog 75 #[.pointer (some ⟨bb, 0, none⟩), x] m r m' ∧ (∃ v', BldB N bb m' W B (Gs ++ Gs2) v' ∧ BG bb m v m' v') := by
 obtain ⟨g1, hbN, cs, hO⟩ := hB
 obtain ⟨d, hs, hd⟩ := hS
 have hds := hs.size
 have hone := src_one (x := x) hds hd
 have hxl : ∃ q n c, x = .slice q n c := by rcases hs with ⟨rfl, _⟩ | ⟨_, _, _, _, _, rfl, _⟩ <;> exact ⟨_, _, _, rfl⟩
 obtain ⟨qx, nx, cx, rfl⟩ := hxl
 obtain ⟨q, cap, rfl⟩ := hO.1.len
 refine wpF (args := [_, _]) mixed okf75b (fn := Tryd.f75) rfl rfl rfl (by simp) ?_
 refine cRegion ?_
 refine sMv (v := .pointer _) rfl ?_
 refine sMv (v := .pointer _) rfl ?_
 refine sNC rfl ?_
 refine sFA F96_0 rfl ?_
 refine sFA F30_2 rfl ?_
 refine sLd (v := .slice _ _ _) A28 rfl g1 rfl ?_
 refine sMs rfl ?_
 refine sAppCn El55 rfl rfl (N := N) hO.1 hs hone hN (by omega) (by omega) fun v' m1 hO1 hL1 hG1 => ?_
 have hg1 := hL1.cells hbN g1
 have hR := hO.grewN hds hd hG1 hO1
 refine sNC rfl ?_
 refine sFA F96_0 rfl ?_
 refine sFA F30_2 rfl ?_
 refine sSt (v := v') S28 rfl rfl hg1 (by simp) (by rcases hO1 with ⟨rfl, _⟩ | ⟨_, _, _, rfl, _⟩ <;> rfl) (by rcases hO1 with ⟨rfl, _⟩ | ⟨_, _, _, rfl, _⟩ <;> rfl) ?_
 refine sNil ?_
 refine ⟨.inl rfl, _, rfl, v', ⟨gS rfl (live hg1), hbN, _, hR.only (.set bb m1 (.cells true #[nv W, nv B, v'])) hbN⟩, ?_⟩
 refine ⟨by simpa using hG1.1, fun b hb hn hv => ?_, hG1.2.2⟩
 rw [gSn (fun e => hn e.symm)]; exact hG1.2.1 b hb hv
theorem okf108 : okF Tryd.prog H0 108 12 = true := by kernel_rfl
theorem spec_keep1 {m : Mem} {p n : Nat} {r : Bool} {a b : Value} {x : Int} (h : Mem.get m p = .cells r #[nv n, a, b]) : ACalls Tryd.prog 108 #[.int .i64 x, .pointer (some ⟨p, 0, none⟩)] m (.bool (decide (x < 0) || decide (Int.ofNat n ≤ x))) m := by
 refine ACalls.callee ?_
 refine wpF (args := [_, _]) mixed okf108 (fn := Tryd.f108) rfl rfl rfl (by simp) ?_
 refine cSR ?_
 refine sAb rfl ?_
 refine sN ?_
 refine cSR ?_
 refine sMv (v := .int _ _) rfl ?_
 refine sBinI (v := .bool (decide (x < 0))) (b := 0) rfl rfl aInt_lssI ?_
 refine sMb rfl ?_
 by_cases h1 : x < 0
 ·
  rw [decide_eq_true h1]
  refine sGT rfl rfl ?_
  refine sGT rfl rfl ?_
  refine sGT rfl rfl ?_
  refine sGT rfl rfl ?_
  refine sPb rfl ?_
  refine sAb rfl ?_
  refine sN ?_
  refine cRet ?_
  exact ⟨.inr rfl, _, rfl, rfl, rfl⟩
 ·
  rw [decide_eq_false h1]
  refine sG rfl rfl ?_
  refine sMv (v := .int _ _) rfl ?_
  refine sG rfl rfl ?_
  refine sFA F30_0 rfl ?_
  refine sG rfl rfl ?_
  refine sLd (v := nv n) A3 rfl h rfl ?_
  refine sG rfl rfl ?_
  refine sBinI (v := .bool (decide (Int.ofNat n ≤ x))) rfl rfl aInt_geqI ?_
  refine sPb rfl ?_
  refine sAb rfl ?_
  refine sN ?_
  refine cRet ?_
  exact ⟨.inr rfl, _, rfl, rfl, rfl⟩
theorem okf50 : okF Tryd.prog H0 50 76 = true := by kernel_rfl
theorem spec_Keep {m : Mem} {n b : Int} {s a : Value} {Gs : List GateV} {l : List Int} (hC : GlobK m) (hG : GsAt m s Gs) (ha : IntsAt m a l) (hl20 : l.length ≤ 1000) : ∃ v m', ACalls Tryd.prog 50 #[.agg #[.int .i64 n, .int .i64 b, s], a] m v m' ∧ (∃ s' cs, v = .tuple #[.agg #[nv (keepW n b Gs l), nv (keepB n b Gs l), s'], nv (keepE n b Gs l)] ∧ OwnG m.size m' s' cs (keepG n b Gs l) ∧ Ext m m') := by
 obtain ⟨q, cap, rfl⟩ := hG.len
 obtain ⟨qa, ca, rfl⟩ := ha.len
 refine wpF (args := [_, _]) mixed okf50 (fn := Tryd.f50) rfl rfl rfl (by simp) ?_
 refine cSR ?_
 refine sBox (v := .agg _) rfl ?_
 refine sAllocB (bl := m.size + 1) (by simp) Z30 (by kernel_rfl) ?_
 change wpOps _ _ _ _ _ ((m.push (.cells true #[.int .i64 n, .int .i64 b, .slice q Gs.length cap])).push (.cells true #[nv 0, nv 0, .slice none 0 0]))
 have e1 : Ext m ((m.push (.cells true #[.int .i64 n, .int .i64 b, .slice q Gs.length cap])).push (.cells true #[nv 0, nv 0, .slice none 0 0])) := (Ext.push _ _).trans (.push _ _)
 have g1 : Mem.get ((m.push (.cells true #[.int .i64 n, .int .i64 b, .slice q Gs.length cap])).push (.cells true #[nv 0, nv 0, .slice none 0 0])) m.size = .cells true #[.int .i64 n, .int .i64 b, .slice q Gs.length cap] := by rw [gPn (by simp), gP rfl]
 have g2 : Mem.get ((m.push (.cells true #[.int .i64 n, .int .i64 b, .slice q Gs.length cap])).push (.cells true #[nv 0, nv 0, .slice none 0 0])) (m.size + 1) = .cells true #[nv 0, nv 0, .slice none 0 0] := gP (by simp)
 have z1 : ((m.push (.cells true #[.int .i64 n, .int .i64 b, .slice q Gs.length cap])).push (.cells true #[nv 0, nv 0, .slice none 0 0])).size = m.size + 2 := by simp
 generalize ((m.push (.cells true #[.int .i64 n, .int .i64 b, .slice q Gs.length cap])).push (.cells true #[nv 0, nv 0, .slice none 0 0])) = M at *
 refine sAn rfl ?_
 refine sN ?_
 refine cSeq (cSR ?_)
 refine sLdAll A30 S30 rfl g1 rfl ?_
 obtain ⟨v8, m8, h8, rfl, e8⟩ := spec_Check8I (n := n) (b := b) (hC.ext e1) (hG.ext e1)
 refine sCall1 rfl call45 rfl h8 ?_
 replace g1 := e8.cells g1
 replace g2 := e8.cells g2
 replace e1 := e1.trans e8
 have z8 := e8.1
 have hfail : ∀ (er : Nat), keepE n b Gs l = er → er ≠ 0 → ∃ s' cs, (Value.tuple #[.agg #[nv 0, nv 0, .slice none 0 0], nv er] : Value) = .tuple #[.agg #[nv (keepW n b Gs l), nv (keepB n b Gs l), s'], nv (keepE n b Gs l)] ∧ OwnG m.size (m8.setIfInBounds (m.size + 1) (.cells true #[nv 0, nv 0, .slice none 0 0])) s' cs (keepG n b Gs l) ∧ Ext m (m8.setIfInBounds (m.size + 1) (.cells true #[nv 0, nv 0, .slice none 0 0])) := fun er h1 h2 => by
  refine ⟨.slice none 0 0, #[], ?_, ?_, e1.set (by omega) _⟩
  ·rw [keepW, keepB, h1, if_neg h2, if_neg h2]
  ·rw [keepG, h1, if_neg h2]; exact .nil _ _
 refine sAn rfl ?_
 refine sN ?_
 refine cSR ?_
 refine sMn rfl ?_
 refine sBin (a := circ8E n b Gs) (b := 0) rfl rfl aInt_neq ?_
 refine sN ?_
 refine cCond (p := circ8E n b Gs ≠ 0) rfl (fun c0 => ?_) (fun c0 => ?_)
 ·
  refine cSR ?_
  refine sBuild B57_0 ?_
  refine sMn rfl ?_
  refine sStAll S30 rfl rfl g2 rfl rfl (by kernel_rfl) ?_
  refine sAn rfl ?_
  refine sN ?_
  refine cRet (kSeqR ?_)
  exact ⟨.inr rfl, _, resRs_agg2 A30 S30 rfl (gS rfl (by omega)) rfl, hfail _ (by rw [keepE, if_pos c0]) c0⟩
 ·
  have h0 : circ8E n b Gs = 0 := Classical.byContradiction c0
  obtain ⟨n', b', Gs', rfl, rfl, rfl, hc⟩ := circ8_nat h0
  have h10 := hc.ten
  have hfew := hc.few
  rw [List.length_map] at g1
  refine cSkip (kSeqN ?_)
  refine cSeq (cBlock (cSR ?_))
  refine sMs rfl ?_
  refine sMFc1 rfl ?_
  have h17 := spec_ContainsFunc (m := m8) (p := fun x => decide (x < 0) || decide (Int.ofNat n' ≤ x)) (ha.ext e1) (by omega) call108 (cp := #[.pointer (some ⟨m.size, 0, none⟩)]) fun x _ => spec_keep1 g1
  have hany : (l.any fun x => decide (x < 0) || decide (Int.ofNat n' ≤ x)) = decide (outI (Int.ofNat n') l) := by
   rw [Bool.eq_iff_iff, decide_eq_true_eq, List.any_eq_true]
   constructor
   ·rintro ⟨w, hw, h⟩; exact ⟨w, hw, by simpa using h⟩
   ·rintro ⟨w, hw, h⟩; exact ⟨w, hw, by simpa using h⟩
  rw [hany] at h17
  refine sCall2 rfl call107 rfl rfl h17 ?_
  refine sAb rfl ?_
  refine sN ?_
  refine cCond (p := outI (Int.ofNat n') l) rfl (fun c1 => ?_) (fun c1 => ?_)
  ·
   refine cSR ?_
   refine sBuild B57_0 ?_
   refine sStAll S30 rfl rfl g2 rfl rfl (by kernel_rfl) ?_
   refine sAs (v := nv 1) rfl ?_
   refine sN ?_
   refine cRet (kBlkR (kSeqR ?_))
   exact ⟨.inr rfl, _, resRs_agg2 A30 S30 rfl (gS rfl (by omega)) rfl, hfail 1 (by rw [keepE, if_neg c0, if_pos c1]) (by decide)⟩
  ·
   refine cSR ?_
   refine sFA F30_0 rfl ?_
   refine sLd (v := nv n') A3 rfl g1 rfl ?_
   refine sMs rfl ?_
   refine sLen T22 rfl ?_
   refine sBin (a := n') (b := l.length) rfl rfl (aInt_add (by omega)) ?_
   refine sBin (a := n' + l.length) (b := 12) rfl rfl aInt_gtr ?_
   refine sAb rfl ?_
   refine sN ?_
   refine cCond (p := 12 < n' + l.length) rfl (fun c2 => ?_) (fun c2 => ?_)
   ·
    refine cSR ?_
    refine sBuild B57_0 ?_
    refine sStAll S30 rfl rfl g2 rfl rfl (by kernel_rfl) ?_
    refine sAs (v := nv 12) rfl ?_
    refine sN ?_
    refine cRet (kBlkR (kSeqR ?_))
    exact ⟨.inr rfl, _, resRs_agg2 A30 S30 rfl (gS rfl (by omega)) rfl, hfail 12 (by rw [keepE, if_neg c0, if_neg c1, if_pos (by simpa using c2)]) (by decide)⟩
   ·
    refine cSR ?_
    refine sFA F30_2 rfl ?_
    refine sLd (v := .slice q Gs'.length cap) A28 rfl g1 rfl ?_
    refine sLen T28 rfl ?_
    refine sBin (a := 2) (b := Gs'.length) rfl rfl (aInt_mul (by omega)) ?_
    refine sMs rfl ?_
    refine sLen T22 rfl ?_
    refine sBin (a := 2 * Gs'.length) (b := l.length) rfl rfl (aInt_add (by omega)) ?_
    refine sBin (a := 2 * Gs'.length + l.length) (b := 120) rfl rfl aInt_gtr ?_
    refine sAb rfl ?_
    refine sN ?_
    refine cCond (p := 120 < 2 * Gs'.length + l.length) rfl (fun c3 => ?_) (fun c3 => ?_)
    ·
     refine cSR ?_
     refine sBuild B57_0 ?_
     refine sStAll S30 rfl rfl g2 rfl rfl (by kernel_rfl) ?_
     refine sAs (v := nv 2) rfl ?_
     refine sN ?_
     refine cRet (kBlkR (kSeqR ?_))
     exact ⟨.inr rfl, _, resRs_agg2 A30 S30 rfl (gS rfl (by omega)) rfl, hfail 2 (by rw [keepE, if_neg c0, if_neg c1, if_neg (by simpa using c2), if_pos (by rw [List.length_map]; exact c3)]) (by decide)⟩
    ·
     obtain ⟨L, rfl, hlt⟩ := outI_nat c1
     rw [ofs_length] at ha c2 c3
     have hE0 : keepE (Int.ofNat n') (Int.ofNat b') (Gs'.map gvM) (ofs L) = 0 := by rw [keepE, if_neg c0, if_neg c1, if_neg (by rw [ofs_length]; simpa using c2), if_neg (by rw [List.length_map, ofs_length]; exact c3)]
     have hG8 := hG.ext e1
     rw [List.length_map] at hG8
     have hw3 : ∀ g ∈ Gs', g.2.length ≤ 100 := fun g hg => by have := (hc.all g hg).kind; omega
     clear hfail
     refine cSkip (kBlkN (kSeqN ?_))
     refine cSR ?_
     refine sFA F30_0 rfl ?_
     refine sLd (v := nv n') A3 rfl g1 rfl ?_
     refine sMv (v := .slice qa L.length ca) (by rw [ofs_length]; rfl) ?_
     refine sLen T22 rfl ?_
     refine sBin (a := n') (b := L.length) rfl rfl (aInt_add (by omega)) ?_
     refine sFA F30_1 rfl ?_
     refine sLd (v := nv b') A3 rfl g1 rfl ?_
     refine sBuild B30I ?_
     refine sBuild B96I ?_
     refine sAllocB (bl := m8.size) rfl Z96 (by kernel_rfl) ?_
     refine sStNAB rfl S96 rfl rfl rfl rfl (by kernel_rfl) ?_
     have e7 : Ext m8 (m8.push (.cells true #[nv (n' + L.length), nv b', .slice none 0 0])) := .push _ _
     have hB0 : BldB (m8.size + 1) m8.size (m8.push (.cells true #[nv (n' + L.length), nv b', .slice none 0 0])) (n' + L.length) b' [] (.slice none 0 0) := ⟨gP rfl, by omega, #[], .nil _ _⟩
     have z7 : (m8.push (.cells true #[nv (n' + L.length), nv b', .slice none 0 0])).size = m8.size + 1 := by simp
     generalize m8.push (.cells true #[nv (n' + L.length), nv b', .slice none 0 0]) = m7 at *
     refine sN ?_
     refine cSR ?_
     refine sFA F30_2 rfl ?_
     refine sLd (v := .slice q Gs'.length cap) A28 rfl (e7.cells g1) rfl ?_
     obtain ⟨v50, m50, h50, cs50, o50, e50⟩ := GsAt.back (hG8.ext e7) (by omega) hw3
     refine sCall1 rfl call79 rfl h50 ?_
     obtain ⟨v51, m51, h51, cs51, o51, e51⟩ := spec_back o50.read (by rw [List.length_reverse]; omega) (fun g hg => hw3 g (List.mem_reverse.1 hg))
     rw [List.reverse_reverse] at o51
     refine sCall1 rfl call79 rfl h51 ?_
     have z50 := e50.1
     have z51 := e51.1
     obtain ⟨r52, m52, h52, w52, hB52, hG52⟩ := spec_addB ((hB0.ext e50).ext e51) (o51.srcG (N := m8.size + 1) (by omega) (fun b h => by cases h)) (by omega) (by simp) (by omega)
     refine sCall2 rfl call75 rfl rfl h52 ?_
     rw [List.nil_append] at hB52
     have z52 := hG52.1
     have k52 : ∀ c, c < m8.size → Mem.get m52 c = Mem.get m8 c := fun c hc' => by
      rw [hG52.2.1 c (by omega) (by omega) (fun h => by cases h), e51.2 c (by omega), e50.2 c (by omega), e7.2 c hc']
     clear hB0 o50 o51 h50 h51 h52 hG52
     refine sN ?_
     refine cSeq (cSR ?_)
     refine sMv (v := .slice qa L.length ca) (by rw [ofs_length]; rfl) ?_
     refine sLen T22 rfl ?_
     refine sMv (v := nv 0) rfl ?_
     refine sN ?_
     refine cBlock ?_
     refine wpC_loop (fun k' ρ m' => ∃ i w, k' = L.length - i ∧ i ≤ L.length ∧ m8.size < m'.size ∧ (∀ c, c < m8.size → Mem.get m' c = Mem.get m8 c) ∧ BldB (m8.size + 1) m8.size m' (n' + L.length) b' (Gs' ++ keepM n' i L) w ∧ Has ρ [(2, .pointer (some ⟨m.size, 0, none⟩)), (4, .pointer (some ⟨m.size + 1, 0, none⟩)), (7, .pointer (some ⟨m8.size, 0, none⟩)), (53, .slice qa L.length ca), (54, nv L.length), (55, nv i)]) ⟨0, w52, rfl, by omega, by omega, k52, by rw [show keepM n' 0 L = [] from rfl, List.append_nil]; exact hB52, rfl, rfl, rfl, rfl, rfl, rfl, trivial⟩ ?_
     clear hB52 k52 z52
     rintro k' ρ m' ⟨i, w, rfl, hi, hz, hk, hB, hh⟩
     rw [hh.env]; clear hh
     have hEm : Ext m m' := ⟨by have := e1.1; omega, fun c hc' => (hk c (by have := e1.1; omega)).trans (e1.2 c hc')⟩
     have X8 : Ext m8 m' := ⟨by omega, hk⟩
     have g1' := X8.cells g1
     have g2' := X8.cells g2
     have hlM : (Gs' ++ keepM n' i L).length ≤ 200000 := by simp [keepM]; omega
     refine cSR ?_
     refine sBin rfl rfl (aInt_lss) ?_
     refine sN ?_
     refine cSeq ?_
     refine cCond rfl (fun c4 => ?_) (fun c4 => ?_)
     ·
      obtain ⟨b1, o1, p1, r1, cc, ee1, gg, x1⟩ := (ha.ext hEm).atN (by omega)
      cases ee1
      refine cSkip (kSeqN ?_)
      refine cSeq (cBlock (cSR ?_))
      refine sMn rfl ?_
      refine sIx T22 S3 rfl rfl (by omega) ?_
      refine sLd (v := nv L[i]) A3 rfl gg (x1 i L[i] (by simp)) ?_
      refine sAn rfl ?_
      refine sAn rfl ?_
      refine sN ?_
      refine cRegion ?_
      refine sFA F30_0 rfl ?_
      refine sLd (v := nv n') A3 rfl g1' rfl ?_
      refine sMn rfl ?_
      refine sBin (a := n') (b := i) rfl rfl (aInt_add (by omega)) ?_
      refine sMn rfl ?_
      refine sBuildS T22 S3 Z3 (by decide) (by decide) (by decide) (by kernel_rfl) fill1 rfl ?_
      have eb : Ext m' (m'.push (.cells true #[nv L[i]])) := .push _ _
      have ib : IntsAt (m'.push (.cells true #[nv L[i]])) (.slice (some ⟨m'.size, 0, some 1⟩) 1 1) (ofs [L[i]]) := .inr ⟨m'.size, 0, 1, true, #[nv L[i]], rfl, gP rfl, fun j x hx => by
       have h1 := (List.getElem?_eq_some_iff.1 hx).1
       obtain rfl : j = 0 := by simp [ofs] at h1; exact h1
       simp [ofs] at hx; subst hx; rfl⟩
      obtain ⟨v66, m66, h66, w66, rfl, o66, e66⟩ := spec_turn (k := n' + i) ib (by simp)
      refine sCall2 rfl call78 rfl rfl h66 ?_
      have z66 := e66.1
      have zb : (m'.push (.cells true #[nv L[i]])).size = m'.size + 1 := by simp
      obtain ⟨q66, c66, rfl⟩ := o66.ints.lenN
      refine sBuildS T28 S49 Z49 (by decide) (by decide) (by decide) (by kernel_rfl) fillA4 rfl ?_
      obtain ⟨r68, m68, h68, w68, hB68, hG68⟩ := spec_addB (x := .slice (some ⟨m66.size, 0, some 4⟩) 1 1) (Gs2 := [(9, [L[i], n' + i])]) (((hB.ext eb).ext e66).ext (.push m66 (.cells true #[nv (kindM 1), .slice q66 2 c66, nv 0, nv 0]))) ⟨#[nv 9, .slice q66 2 c66, nv 0, nv 0], .inr ⟨m66.size, 0, 1, _, true, rfl, gP rfl, by simp, rfl⟩, fun j g hj => by
       have h1 := (List.getElem?_eq_some_iff.1 hj).1
       obtain rfl : j = 0 := by simp at h1; exact h1
       obtain rfl : (9, [L[i], n' + i]) = g := by simpa using hj
       exact ⟨_, rfl, rfl, rfl, rfl, (o66.mono (by omega)).ext (.push _ _), fun b hb e => by have := (o66.lt hb).1; have := hB.lt e; omega⟩⟩ (by simp; omega) hlM (by simp)
      refine sCall2 rfl call75 rfl rfl h68 ?_
      have z68 := hG68.1
      simp only [Array.size_push] at z68
      refine sNil (kBlkN (kSeqN ?_))
      refine cRegion ?_
      refine sBin rfl rfl (aInt_add (b := 1) (by omega)) ?_
      refine sMn rfl ?_
      refine sN ?_
      refine ⟨_, ?_, i + 1, w68, rfl, by omega, by omega, fun c hc' => ?_, ?_, rfl, rfl, rfl, rfl, rfl, rfl, trivial⟩
      ·omega
      ·obtain ⟨hg0, _, csB, hOB⟩ := hB
       rw [hG68.2.1 c (by simp; omega) (by omega) (fun h => by have := (hOB.1.lt h).1; omega), gPn (by omega), e66.2 c (by omega), eb.2 c (by omega)]; exact hk c hc'
      ·have e9 : L.getD i 0 = L[i] := by rw [List.getD_eq_getElem?_getD, List.getElem?_eq_getElem c4]; rfl
       rw [keepM_succ, ← List.append_assoc, e9]; exact hB68
     ·
      obtain rfl : i = L.length := by omega
      refine cExit (kSeqE (kSeqE (kBlkS (kSeqN ?_))))
      refine cSR ?_
      refine sFA F30_2 rfl ?_
      refine sLd (v := .slice q Gs'.length cap) A28 rfl g1' rfl ?_
      obtain ⟨v72, m72, h72, cs72, o72, e72⟩ := GsAt.back (hG8.ext X8) (by omega) hw3
      refine sCall1 rfl call79 rfl h72 ?_
      have z72 := e72.1
      obtain ⟨r73, m73, h73, w73, hB73, hG73⟩ := spec_addB (hB.ext e72) (o72.srcG (N := m8.size + 1) (by omega) (fun b h => hB.lt h)) (by omega) hlM (by rw [List.length_reverse]; omega)
      refine sCall2 rfl call75 rfl rfl h73 ?_
      have z73 := hG73.1
      have k73 : ∀ c, c < m8.size → Mem.get m73 c = Mem.get m8 c := fun c hc' => by
       obtain ⟨hg0, _, csB, hOB⟩ := hB
       rw [hG73.2.1 c (by omega) (by omega) (fun h => by have := (hOB.1.lt h).1; omega), e72.2 c (by omega)]; exact hk c hc'
      have X73 : Ext m8 m73 := ⟨by omega, k73⟩
      change BldB _ _ _ _ _ (keepG0 n' Gs' L) w73 at hB73
      obtain ⟨gb73, _, cs73, hO73⟩ := hB73
      obtain ⟨q73, c73, rfl⟩ := hO73.1.len
      refine sN ?_
      refine cSR ?_
      refine sFA F96_0 rfl ?_
      refine sLdAll A30 S30 rfl gb73 rfl ?_
      refine sStAll S30 rfl rfl (X73.cells g2) rfl rfl (by kernel_rfl) ?_
      refine sAn rfl ?_
      refine sN ?_
      refine cRet ?_
      have z8' : m.size + 1 < m73.size := by omega
      refine ⟨.inr rfl, _, resRs_agg2 A30 S30 rfl (gS rfl z8') rfl, .slice q73 (keepG0 n' Gs' L).length c73, cs73, ?_, ?_, (e1.trans X73).set (by omega) _⟩
      ·rw [keepW, keepB, hE0, if_pos rfl, if_pos rfl, ofs_length]; rfl
      ·rw [keepG, hE0, if_pos rfl, gnM_all, toNat_ofs]
       exact (hO73.only (.set (m.size + 1) m73 _) (by omega)).mono (by omega)
end Go.AM

/-! R70 -/
namespace Go.AM
open Go.Proofs
theorem outI_up {n : Int} {l : List Int} (h : ∀ (j : Nat) x, l[j]? = some x → 0 ≤ x ∧ x < n) : ¬ outI n l := by
 rintro ⟨w, hw, h2⟩
 obtain ⟨j, hj⟩ := List.mem_iff_getElem?.1 hw
 have := h j w hj
 omega
theorem okf105 : okF Tryd.prog H0 105 48 = true := by kernel_rfl
theorem spec_some {m : Mem} {n b : Int} {s a : Value} {Gs : List GateV} {l : List Int} (hG : GsAt m s Gs) (ha : IntsAt m a l) (hl20 : l.length ≤ 1000) : ∃ v m', ACalls Tryd.prog 105 #[.agg #[.int .i64 n, .int .i64 b, s], a] m v m' ∧ (v = .tuple #[nv (maskV n b Gs l), nv (maskE n b Gs l)] ∧ Ext m m') := by
 obtain ⟨q, cap, rfl⟩ := hG.len
 obtain ⟨qa, ca, rfl⟩ := ha.len
 refine wpF (args := [_, _]) mixed okf105 (fn := Tryd.f105) rfl rfl rfl (by simp) ?_
 refine cSR ?_
 refine sBox (v := .agg _) rfl ?_
 change wpOps _ _ _ _ _ (m.push (.cells true #[.int .i64 n, .int .i64 b, .slice q Gs.length cap]))
 have e1 : Ext m (m.push (.cells true #[.int .i64 n, .int .i64 b, .slice q Gs.length cap])) := .push _ _
 have g1 : Mem.get (m.push (.cells true #[.int .i64 n, .int .i64 b, .slice q Gs.length cap])) m.size = .cells true #[.int .i64 n, .int .i64 b, .slice q Gs.length cap] := gP rfl
 generalize m.push (.cells true #[.int .i64 n, .int .i64 b, .slice q Gs.length cap]) = M at *
 refine sAn rfl ?_
 refine sAn rfl ?_
 refine sN ?_
 refine cSeq (cSR ?_)
 refine sLdAll A30 S30 rfl g1 rfl ?_
 obtain ⟨v8, m8, h8, rfl, e8⟩ := spec_rCheck8I (n := n) (b := b) (hG.ext e1)
 refine sCall1 rfl call31 rfl h8 ?_
 replace g1 := e8.cells g1
 replace e1 := e1.trans e8
 refine sAn rfl ?_
 refine sN ?_
 refine cSR ?_
 refine sMn rfl ?_
 refine sBin (a := circ8E n b Gs) (b := 0) rfl rfl aInt_neq ?_
 refine sN ?_
 refine cCond (p := circ8E n b Gs ≠ 0) rfl (fun c0 => ?_) (fun c0 => ?_)
 ·
  refine cSR ?_
  refine sMn rfl ?_
  refine sAn rfl ?_
  refine sAn rfl ?_
  refine sN ?_
  refine cRet (kSeqR ?_)
  have ha : maskE n b Gs l = circ8E n b Gs := by rw [maskE, if_pos c0]
  exact ⟨.inr rfl, _, rfl, by rw [maskV, ha, if_neg c0]; rfl, e1⟩
 ·
  have h0 : circ8E n b Gs = 0 := Classical.byContradiction c0
  obtain ⟨n', b', Gs', rfl, rfl, rfl, hc⟩ := circ8_nat h0
  have h10 := hc.ten
  refine cSkip (kSeqN ?_)
  refine cSR ?_
  refine sAn rfl ?_
  refine sN ?_
  refine cSeq (cSR ?_)
  refine sMs rfl ?_
  refine sLen T22 rfl ?_
  refine sMv (v := nv 0) rfl ?_
  refine sN ?_
  refine cBlock ?_
  refine wpC_loop (fun k' ρ m' => ∃ i, k' = l.length - i ∧ i ≤ l.length ∧ (∀ (j : Nat) x, j < i → l[j]? = some x → 0 ≤ x ∧ x < Int.ofNat n') ∧ m8 = m' ∧ Has ρ [(1, .slice qa l.length ca), (2, .pointer (some ⟨m.size, 0, none⟩)), (7, nv 0), (17, .slice qa l.length ca), (18, nv l.length), (19, nv i)]) ⟨0, rfl, by omega, fun j x h => absurd h (by omega), rfl, rfl, rfl, rfl, rfl, rfl, rfl, trivial⟩ ?_
  rintro k' ρ _ ⟨i, rfl, hi, hr, rfl, hh⟩
  rw [hh.env]; clear hh
  refine cSR ?_
  refine sBin rfl rfl (aInt_lss) ?_
  refine sN ?_
  refine cSeq ?_
  refine cCond rfl (fun c1 => ?_) (fun c1 => ?_)
  ·
   obtain ⟨b1, o1, p1, r1, cc, ee1, gg, x1⟩ := (ha.ext e1).at (by omega)
   cases ee1
   obtain ⟨y, hy⟩ : ∃ y, l[i]? = some y := ⟨_, List.getElem?_eq_getElem c1⟩
   refine cSkip (kSeqN ?_)
   refine cSeq (cBlock (cSR ?_))
   refine sIx T22 S3 rfl rfl (by omega) ?_
   refine sLd (v := .int .i64 y) A3 rfl gg (x1 i y hy) ?_
   refine sAs (v := .int .i64 y) rfl ?_
   refine sN ?_
   refine cSR ?_
   refine sMv (v := .int .i64 y) rfl ?_
   refine sBinI (v := .bool (decide (y < 0))) (b := 0) rfl rfl aInt_lssI ?_
   refine sMb rfl ?_
   by_cases q1 : y < 0
   ·
    rw [decide_eq_true q1]
    refine sGT rfl rfl ?_
    refine sGT rfl rfl ?_
    refine sGT rfl rfl ?_
    refine sGT rfl rfl ?_
    refine sPb rfl ?_
    refine sN ?_
    refine cCondT rfl ?_
    refine cSR ?_
    refine sAn rfl ?_
    refine sAs (v := nv 1) rfl ?_
    refine sN ?_
    refine cRet (kBlkR (kSeqR (kSeqR (kBlkR (kSeqR ?_)))))
    have ha : maskE (Int.ofNat n') (Int.ofNat b') (Gs'.map gvM) l = 1 := by rw [maskE, if_neg c0, if_pos ⟨y, List.mem_of_getElem? hy, .inl q1⟩]
    exact ⟨.inr rfl, _, rfl, by rw [maskV, ha, if_neg (by decide)]; rfl, e1⟩
   ·
    rw [decide_eq_false q1]
    refine sG rfl rfl ?_
    refine sMv (v := .int .i64 y) rfl ?_
    refine sG rfl rfl ?_
    refine sFA F30_0 rfl ?_
    refine sG rfl rfl ?_
    refine sLd (v := nv n') A3 rfl g1 rfl ?_
    refine sG rfl rfl ?_
    refine sBinI (v := .bool (decide (Int.ofNat n' ≤ y))) rfl rfl aInt_geqI ?_
    refine sPb rfl ?_
    refine sN ?_
    refine cCond (p := Int.ofNat n' ≤ y) rfl (fun c3 => ?_) (fun c3 => ?_)
    ·
     refine cSR ?_
     refine sAn rfl ?_
     refine sAs (v := nv 1) rfl ?_
     refine sN ?_
     refine cRet (kBlkR (kSeqR (kSeqR (kBlkR (kSeqR ?_)))))
     have ha : maskE (Int.ofNat n') (Int.ofNat b') (Gs'.map gvM) l = 1 := by rw [maskE, if_neg c0, if_pos ⟨y, List.mem_of_getElem? hy, .inr c3⟩]
     exact ⟨.inr rfl, _, rfl, by rw [maskV, ha, if_neg (by decide)]; rfl, e1⟩
    ·
     refine cSkip (kBlkN (kSeqN ?_))
     refine cRegion ?_
     refine sBin rfl rfl (aInt_add (b := 1) (by omega)) ?_
     refine sMn rfl ?_
     refine sN ?_
     refine ⟨_, ?_, i + 1, rfl, by omega, fun j x hj hx => ?_, rfl, rfl, rfl, rfl, rfl, rfl, rfl, trivial⟩
     ·omega
     ·by_cases e : j = i
      ·subst e
       rw [hy] at hx; cases hx; omega
      ·exact hr j x (by omega) hx
  ·
   obtain ⟨L, rfl, hlt⟩ := outI_nat (outI_up fun j x hx => hr j x (by have := (List.getElem?_eq_some_iff.1 hx).1; omega) hx)
   have hme := maskE_ok h0 hlt
   have hL20 : L.length ≤ 1000 := by rw [ofs_length] at hl20; exact hl20
   rw [ofs_length] at ha
   refine cExit (kSeqE (kSeqE (kBlkS (kSeqN ?_))))
   refine cSeq (cSR ?_)
   refine sMv (v := .slice qa L.length ca) (by rw [ofs_length]; rfl) ?_
   refine sLen T22 rfl ?_
   refine sMv (v := nv 0) rfl ?_
   refine sN ?_
   refine cBlock ?_
   refine wpC_loop (fun k' ρ m' => ∃ i, k' = L.length - i ∧ i ≤ L.length ∧ (∀ (j : Nat) x, j < i → L[j]? = some x → x ∉ L.take j) ∧ m8 = m' ∧ Has ρ [(7, nv (posM (L.take i))), (32, .slice qa L.length ca), (33, nv L.length), (34, nv i)]) ⟨0, rfl, by omega, fun j x h => absurd h (by omega), rfl, rfl, rfl, rfl, rfl, trivial⟩ ?_
   rintro k' ρ _ ⟨i, rfl, hi, hr2, rfl, hh⟩
   rw [hh.env]; clear hh
   refine cSR ?_
   refine sBin rfl rfl (aInt_lss) ?_
   refine sN ?_
   refine cSeq ?_
   refine cCond rfl (fun c4 => ?_) (fun c4 => ?_)
   ·
    obtain ⟨b1, o1, p1, r1, cc, ee1, gg, x1⟩ := (ha.ext e1).atN (by omega)
    cases ee1
    have hy := hlt L[i] (List.getElem_mem c4)
    have hpl : posM (L.take i) < 2 ^ 12 := posM_lt fun y hy => by have := hlt y (List.mem_of_mem_take hy); omega
    have h2y : 2 ^ L[i] < 2 ^ 12 := Nat.pow_lt_pow_right (by omega) (by omega)
    have hbit : (posM (L.take i) >>> L[i] &&& 1 = 1) ↔ L[i] ∈ L.take i := by
     rw [bit_one, posM_bit, decide_eq_true_eq]
    refine cSkip (kSeqN ?_)
    refine cSeq (cBlock (cSR ?_))
    refine sIx T22 S3 rfl rfl (by omega) ?_
    refine sLd (v := nv L[i]) A3 rfl gg (x1 i L[i] (by simp)) ?_
    refine sAn rfl ?_
    refine sN ?_
    refine cSeq (cSR ?_)
    refine sMn rfl ?_
    refine sMn rfl ?_
    obtain ⟨v40, m40, h40, rfl, rfl⟩ := spec_bit (m := m8) (x := posM (L.take i)) (k := L[i]) (by omega)
    refine sCall2 rfl call80 rfl rfl h40 ?_
    refine sBin (v := .bool (decide (L[i] ∈ L.take i))) (b := 1) rfl rfl (by rw [aInt_eql, decide_eq_decide.2 hbit]) ?_
    refine sN ?_
    refine cCond (p := L[i] ∈ L.take i) rfl (fun c5 => ?_) (fun c5 => ?_)
    ·
     refine cSR ?_
     refine sAn rfl ?_
     refine sAs (v := nv 5) rfl ?_
     refine sN ?_
     refine cRet (kSeqR (kBlkR (kSeqR (kSeqR (kBlkR (kSeqR ?_))))))
     have ha : maskE (Int.ofNat n') (Int.ofNat b') (Gs'.map gvM) (ofs L) = 5 := by rw [hme, if_neg (nodup_take_in (List.getElem?_eq_getElem c4) c5)]
     exact ⟨.inr rfl, _, rfl, by rw [maskV, ha, if_neg (by decide)]; rfl, e1⟩
    ·
     refine cSkip (kSeqN ?_)
     refine cRegion ?_
     refine sMn rfl ?_
     refine sMn rfl ?_
     refine sBin (v := nv (2 ^ L[i])) rfl rfl (by rw [aInt_shl (a := 1) (b := L[i]) (by omega), Nat.shiftLeft_eq, Nat.one_mul]) ?_
     refine sBin (a := posM (L.take i)) (b := 2 ^ L[i]) rfl rfl (aInt_or ⟨by omega, by omega⟩) ?_
     refine sAn rfl ?_
     refine sNil (kBlkN (kSeqN ?_))
     refine cRegion ?_
     refine sBin rfl rfl (aInt_add (b := 1) (by omega)) ?_
     refine sMn rfl ?_
     refine sN ?_
     refine ⟨_, ?_, i + 1, rfl, by omega, fun j x hj hx => ?_, rfl, by rw [posM_take (List.getElem?_eq_getElem c4)]; rfl, rfl, rfl, rfl, trivial⟩
     ·omega
     ·by_cases e : j = i
      ·subst e
       rw [List.getElem?_eq_getElem c4] at hx
       cases hx; exact c5
      ·exact hr2 j x (by omega) hx
   ·
    refine cExit (kSeqE (kSeqE (kBlkS (kSeqN ?_))))
    refine cSR ?_
    refine sMn rfl ?_
    refine sAn rfl ?_
    refine sAn rfl ?_
    refine sN ?_
    refine cRet ?_
    have hnd : L.Nodup := nodup_of_take fun j x hx => hr2 j x (by have := (List.getElem?_eq_some_iff.1 hx).1; omega) hx
    have ha : maskE (Int.ofNat n') (Int.ofNat b') (Gs'.map gvM) (ofs L) = 0 := by rw [hme, if_pos hnd]
    obtain rfl : i = L.length := by omega
    rw [List.take_length]
    exact ⟨.inr rfl, _, rfl, by rw [maskV, ha, if_pos rfl, toNat_ofs]; rfl, e1⟩
theorem okf47 : okF Tryd.prog H0 47 38 = true := by kernel_rfl
theorem spec_rCleanK {m : Mem} {n b : Int} {s a : Value} {Gs : List GateV} {l : List Int} (hG : GsAt m s Gs) (ha : IntsAt m a l) (hl20 : l.length ≤ 1000) : ∃ v m', ACalls Tryd.prog 47 #[.agg #[.int .i64 n, .int .i64 b, s], a] m v m' ∧ (v = .tuple #[nv (cleV n b Gs l), nv (cleE n b Gs l)] ∧ Ext m m') := by
 obtain ⟨q, cap, rfl⟩ := hG.len
 obtain ⟨qa, ca, rfl⟩ := ha.len
 refine wpF (args := [_, _]) mixed okf47 (fn := Tryd.f47) rfl rfl rfl (by simp) ?_
 refine cSR ?_
 refine sBox (v := .agg _) rfl ?_
 change wpOps _ _ _ _ _ (m.push (.cells true #[.int .i64 n, .int .i64 b, .slice q Gs.length cap]))
 have e1 : Ext m (m.push (.cells true #[.int .i64 n, .int .i64 b, .slice q Gs.length cap])) := .push _ _
 have g1 : Mem.get (m.push (.cells true #[.int .i64 n, .int .i64 b, .slice q Gs.length cap])) m.size = .cells true #[.int .i64 n, .int .i64 b, .slice q Gs.length cap] := gP rfl
 generalize m.push (.cells true #[.int .i64 n, .int .i64 b, .slice q Gs.length cap]) = M at *
 refine sAn rfl ?_
 refine sAn rfl ?_
 refine sN ?_
 refine cSR ?_
 refine sLdAll A30 S30 rfl g1 rfl ?_
 refine sMs rfl ?_
 obtain ⟨v11, m11, h11, rfl, e11⟩ := spec_some (n := n) (b := b) (hG.ext e1) (ha.ext e1) hl20
 refine sCall2 rfl call105 rfl rfl h11 ?_
 replace g1 := e11.cells g1
 replace e1 := e1.trans e11
 refine sMv (v := .tuple _) rfl ?_
 refine sP (v := nv _) rfl ?_
 refine sP (v := nv _) rfl ?_
 refine sAn rfl ?_
 refine sAn rfl ?_
 refine sN ?_
 refine cSeq (cSR ?_)
 refine sMn rfl ?_
 refine sBin (a := maskE n b Gs l) (b := 0) rfl rfl aInt_neq ?_
 refine sN ?_
 refine cCond (p := maskE n b Gs l ≠ 0) rfl (fun c0 => ?_) (fun c0 => ?_)
 ·
  refine cSR ?_
  refine sMn rfl ?_
  refine sAn rfl ?_
  refine sAn rfl ?_
  refine sN ?_
  refine cRet (kSeqR ?_)
  exact ⟨.inr rfl, _, rfl, by rw [cleV, cleE, if_pos c0, if_pos c0]; rfl, e1⟩
 ·
  obtain ⟨n', b', Gs', rfl, rfl, rfl, hc, hpl⟩ := mask_nat c0
  have h10 := hc.ten
  have hp := pow10 h10
  rw [List.length_map] at g1
  generalize hmk : maskV (Int.ofNat n') (Int.ofNat b') (Gs'.map gvM) l = mk at *
  refine cSkip (kSeqN ?_)
  refine cSeq (cSR ?_)
  refine sAn rfl ?_
  refine sN ?_
  refine cBlock ?_
  refine wpC_loop (fun k' ρ m' => ∃ i, k' = 2 ^ n' - i ∧ i ≤ 2 ^ n' ∧ (∀ y, y < i → cleanK Gs' mk y = false) ∧ Ext m11 m' ∧ Has ρ [(2, .pointer (some ⟨m.size, 0, none⟩)), (6, nv mk), (8, nv i)]) ⟨0, rfl, Nat.zero_le _, fun y h => absurd h (by omega), .refl _, rfl, rfl, rfl, trivial⟩ ?_
  rintro k' ρ m' ⟨i, rfl, hi, hr, hE, hh⟩
  rw [hh.env]; clear hh
  have g1' := hE.cells g1
  have eA := e1.trans hE
  refine cSeq (cSR ?_)
  refine sMn rfl ?_
  refine sFA F30_0 rfl ?_
  refine sLd (v := nv n') A3 rfl g1' rfl ?_
  refine sBin (v := nv (2 ^ n')) rfl rfl (by rw [aInt_shl (a := 1) ⟨by omega, i64_pow h10⟩, Nat.shiftLeft_eq, Nat.one_mul]) ?_
  refine sBin (a := i) (b := 2 ^ n') rfl rfl aInt_lss ?_
  refine sN ?_
  refine cCond rfl (fun c1 => ?_) (fun c1 => ?_)
  ·
   have hrl := runS_lt c1 hc.all
   refine cSkip (kSeqN ?_)
   refine cSeq (cBlock (cSR ?_))
   refine sMn rfl ?_
   refine sMn rfl ?_
   refine sBin (a := i) (b := mk) rfl rfl (aInt_and ⟨by omega, by omega⟩) ?_
   refine sBin (v := .bool (decide (i &&& mk = 0))) (b := 0) rfl rfl aInt_eql ?_
   refine sMb rfl ?_
   by_cases h1 : i &&& mk = 0
   ·
    rw [decide_eq_true h1]
    refine sG rfl rfl ?_
    refine sLdAll A30 S30 rfl g1' rfl ?_
    refine sG rfl rfl ?_
    refine sMn rfl ?_
    refine sG rfl rfl ?_
    obtain ⟨v32, m32, h32, rfl, e32⟩ := spec_ThroughK (b := Int.ofNat b') (hG.ext eA) hc c1
    simp only [List.length_map] at h32
    refine sCall2 rfl call94 rfl rfl h32 ?_
    refine sG rfl rfl ?_
    refine sMn rfl ?_
    refine sG rfl rfl ?_
    refine sBin (a := runS Gs' i) (b := mk) rfl rfl (aInt_and ⟨by omega, by omega⟩) ?_
    refine sG rfl rfl ?_
    refine sBin (a := runS Gs' i &&& mk) (b := 0) rfl rfl aInt_neq ?_
    refine sPb rfl ?_
    refine sN ?_
    refine cCond (p := runS Gs' i &&& mk ≠ 0) rfl (fun c2 => ?_) (fun c2 => ?_)
    ·
     refine cSR ?_
     refine sMn rfl ?_
     refine sAn rfl ?_
     refine sAn rfl ?_
     refine sN ?_
     refine cRet (kBlkR (kSeqR (kSeqR (kBlkR (kSeqR ?_)))))
     have hk : cleanK Gs' mk i = true := by rw [cleanK, decide_eq_true h1, decide_eq_true c2]; rfl
     exact ⟨.inr rfl, _, rfl, by rw [cleV, cleE, if_neg c0, if_neg c0, gnM_all, hmk, foundN, foundE, show (Int.ofNat n').toNat = n' from rfl, firstS_some c1 hk hr]; rfl, eA.trans e32⟩
    ·
     refine cSkip (kBlkN (kSeqN ?_))
     refine cRegion ?_
     refine sMn rfl ?_
     refine sBin rfl rfl (aInt_add (b := 1) (by omega)) ?_
     refine sAn rfl ?_
     refine sN ?_
     refine ⟨_, ?_, i + 1, rfl, by omega, fun y hy => ?_, hE.trans e32, rfl, rfl, rfl, trivial⟩
     ·omega
     ·by_cases e : y = i
      ·subst e; rw [cleanK, decide_eq_false c2, Bool.and_false]
      ·exact hr y (by omega)
   ·
    rw [decide_eq_false h1]
    refine sGF rfl rfl ?_
    refine sGF rfl rfl ?_
    refine sGF rfl rfl ?_
    refine sGF rfl rfl ?_
    refine sGF rfl rfl ?_
    refine sGF rfl rfl ?_
    refine sPb rfl ?_
    refine sN ?_
    refine cCondF rfl ?_
    refine cSkip (kBlkN (kSeqN ?_))
    refine cRegion ?_
    refine sMn rfl ?_
    refine sBin rfl rfl (aInt_add (b := 1) (by omega)) ?_
    refine sAn rfl ?_
    refine sN ?_
    refine ⟨_, ?_, i + 1, rfl, by omega, fun y hy => ?_, hE, rfl, rfl, rfl, trivial⟩
    ·omega
    ·by_cases e : y = i
     ·subst e; rw [cleanK, decide_eq_false h1, Bool.false_and]
     ·exact hr y (by omega)
  ·
   refine cExit (kSeqE (kSeqE (kBlkS (kSeqN ?_))))
   refine cSR ?_
   refine sAn rfl ?_
   refine sAs (v := nv 6) rfl ?_
   refine sN ?_
   refine cRet ?_
   exact ⟨.inr rfl, _, rfl, by rw [cleV, cleE, if_neg c0, if_neg c0, gnM_all, hmk, foundN, foundE, show (Int.ofNat n').toNat = n' from rfl, firstS_none fun x hx => hr x (by omega)]; rfl, eA⟩
def H49k : Nat → List (Nat × Nat) := fun id => if id = 7 then [(3, 0)] else []
theorem okf49 : okF Tryd.prog H49k 49 50 = true := by kernel_rfl
theorem spec_rBorrK {m : Mem} {n b : Int} {s a : Value} {Gs : List GateV} {l : List Int} (hG : GsAt m s Gs) (ha : IntsAt m a l) (hl20 : l.length ≤ 1000) : ∃ v m', ACalls Tryd.prog 49 #[.agg #[.int .i64 n, .int .i64 b, s], a] m v m' ∧ (v = .tuple #[nv (borV n b Gs l), nv (borE n b Gs l)] ∧ Ext m m') := by
 obtain ⟨q, cap, rfl⟩ := hG.len
 obtain ⟨qa, ca, rfl⟩ := ha.len
 refine wpF (args := [_, _]) mixed okf49 (fn := Tryd.f49) rfl rfl rfl (by simp) ?_
 refine cSR ?_
 refine sBox (v := .agg _) rfl ?_
 change wpOps _ _ _ _ _ (m.push (.cells true #[.int .i64 n, .int .i64 b, .slice q Gs.length cap]))
 have e1 : Ext m (m.push (.cells true #[.int .i64 n, .int .i64 b, .slice q Gs.length cap])) := .push _ _
 have g1 : Mem.get (m.push (.cells true #[.int .i64 n, .int .i64 b, .slice q Gs.length cap])) m.size = .cells true #[.int .i64 n, .int .i64 b, .slice q Gs.length cap] := gP rfl
 generalize m.push (.cells true #[.int .i64 n, .int .i64 b, .slice q Gs.length cap]) = M at *
 refine sAn rfl ?_
 refine sAn rfl ?_
 refine sN ?_
 refine cSR ?_
 refine sLdAll A30 S30 rfl g1 rfl ?_
 refine sMs rfl ?_
 obtain ⟨v11, m11, h11, rfl, e11⟩ := spec_some (n := n) (b := b) (hG.ext e1) (ha.ext e1) hl20
 refine sCall2 rfl call105 rfl rfl h11 ?_
 replace g1 := e11.cells g1
 replace e1 := e1.trans e11
 refine sMv (v := .tuple _) rfl ?_
 refine sP (v := nv _) rfl ?_
 refine sP (v := nv _) rfl ?_
 refine sAn rfl ?_
 refine sAn rfl ?_
 refine sN ?_
 refine cSeq (cSR ?_)
 refine sMn rfl ?_
 refine sBin (a := maskE n b Gs l) (b := 0) rfl rfl aInt_neq ?_
 refine sN ?_
 refine cCond (p := maskE n b Gs l ≠ 0) rfl (fun c0 => ?_) (fun c0 => ?_)
 ·
  refine cSR ?_
  refine sMn rfl ?_
  refine sAn rfl ?_
  refine sAn rfl ?_
  refine sN ?_
  refine cRet (kSeqR ?_)
  exact ⟨.inr rfl, _, rfl, by rw [borV, borE, if_pos c0, if_pos c0]; rfl, e1⟩
 ·
  obtain ⟨n', b', Gs', rfl, rfl, rfl, hc, hpl⟩ := mask_nat c0
  have h10 := hc.ten
  have hp := pow10 h10
  rw [List.length_map] at g1
  generalize hmk : maskV (Int.ofNat n') (Int.ofNat b') (Gs'.map gvM) l = mk at *
  refine cSkip (kSeqN ?_)
  refine cSeq (cSR ?_)
  refine sAn rfl ?_
  refine sN ?_
  refine cBlock ?_
  refine wpC_loop (fun k' ρ m' => ∃ i, k' = 2 ^ n' - i ∧ i ≤ 2 ^ n' ∧ (∀ y, y < i → borrK Gs' mk y = false) ∧ Ext m11 m' ∧ Has ρ [(2, .pointer (some ⟨m.size, 0, none⟩)), (6, nv mk), (8, nv i)]) ⟨0, rfl, Nat.zero_le _, fun y h => absurd h (by omega), .refl _, rfl, rfl, rfl, trivial⟩ ?_
  rintro k' ρ m' ⟨i, rfl, hi, hr, hE, hh⟩
  rw [hh.env]; clear hh
  have g1' := hE.cells g1
  have eA := e1.trans hE
  refine cSeq (cSR ?_)
  refine sMn rfl ?_
  refine sFA F30_0 rfl ?_
  refine sLd (v := nv n') A3 rfl g1' rfl ?_
  refine sBin (v := nv (2 ^ n')) rfl rfl (by rw [aInt_shl (a := 1) ⟨by omega, i64_pow h10⟩, Nat.shiftLeft_eq, Nat.one_mul]) ?_
  refine sBin (a := i) (b := 2 ^ n') rfl rfl aInt_lss ?_
  refine sN ?_
  refine cCond rfl (fun c1 => ?_) (fun c1 => ?_)
  ·
   have hrl := runS_lt c1 hc.all
   have hofl := offM_le i mk
   have hrl2 := runS_lt (x := offM i mk) (n := n') (Gs := Gs') (by omega) hc.all
   have hxl : i ^^^ runS Gs' i < 2 ^ 12 := Nat.xor_lt_two_pow (by omega) (by omega)
   have hxl2 : runS Gs' i ^^^ runS Gs' (offM i mk) < 2 ^ 12 := Nat.xor_lt_two_pow (by omega) (by omega)
   have hxc : runS Gs' i ^^^ i = i ^^^ runS Gs' i := Nat.xor_comm _ _
   refine cSkip (kSeqN ?_)
   refine cSeq (cBlock (cSeq ?_))
   refine cDrawH (hs := [(3, 0)]) rfl (by decide) ?_
   refine lStepLdA A30 S30 rfl g1' rfl fun e0 hm0 hv0 hr0 => ?_
   refine lStepO (sMv (v := nv _) rfl (sNil fun e1 hm1 => ?_))
   obtain ⟨v29, m29, h29, rfl, e29⟩ := spec_ThroughK (b := Int.ofNat b') (hG.ext eA) hc c1
   simp only [List.length_map] at h29
   refine lStepO (sCall2 rfl call94 rfl rfl h29 (sNil fun e2 hm2 => ?_))
   refine lStepLdA A30 S30 rfl (e29.cells g1') rfl fun e3 hm3 hv3 hr3 => ?_
   refine lStepO (sMv (v := nv _) rfl (sNil fun e4 hm4 => ?_))
   refine lStepO (sMv (v := nv _) rfl (sNil fun e5 hm5 => ?_))
   refine lStepO (sBin (a := i) (b := mk) rfl rfl (aInt_andNot ⟨by omega, by omega⟩) (sNil fun e6 hm6 => ?_))
   obtain ⟨v34, m34, h34, rfl, e34⟩ := spec_ThroughK (b := Int.ofNat b') (x := offM i mk) (hG.ext (eA.trans e29)) hc (by omega)
   simp only [List.length_map] at h34
   refine lStepO (sCall2 rfl call94 rfl rfl h34 (sNil fun e7 hm7 => ?_))
   refine lStepO (sAs (v := nv _) rfl (sNil fun e8 hm8 => ?_))
   refine lStepO (sAs (v := nv _) rfl (sNil fun e9 hm9 => ?_))
   refine ⟨?_, (kSeqN ?_)⟩
   ·
    refine obl_atE (e := e3) (e' := e0) (by simp) (by rfl) (by simp) ((hr3 e0.m _ (by rw [hm0]; exact g1')).trans (congrArg some hv3.symm)) ?_
    trivial
   refine cSR ?_
   refine sMn rfl ?_
   refine sMn rfl ?_
   refine sBin (a := i) (b := runS Gs' i) rfl rfl (aInt_xor ⟨by omega, by omega⟩) ?_
   refine sMn rfl ?_
   refine sBin (a := i ^^^ runS Gs' i) (b := mk) rfl rfl (aInt_and ⟨by omega, by omega⟩) ?_
   refine sBin (a := (i ^^^ runS Gs' i) &&& mk) (b := 0) rfl rfl aInt_neq ?_
   refine sMb rfl ?_
   by_cases h1 : (i ^^^ runS Gs' i) &&& mk ≠ 0
   ·
    rw [decide_eq_true h1]
    refine sGT rfl rfl ?_
    refine sGT rfl rfl ?_
    refine sGT rfl rfl ?_
    refine sGT rfl rfl ?_
    refine sGT rfl rfl ?_
    refine sGT rfl rfl ?_
    refine sPb rfl ?_
    refine sN ?_
    refine cCondT rfl ?_
    refine cSR ?_
    refine sMn rfl ?_
    refine sAn rfl ?_
    refine sAn rfl ?_
    refine sN ?_
    refine cRet (kBlkR (kSeqR (kSeqR (kBlkR (kSeqR ?_)))))
    have hk : borrK Gs' mk i = true := by rw [borrK, hxc, decide_eq_true h1, Bool.true_or]
    exact ⟨.inr rfl, _, rfl, by rw [borV, borE, if_neg c0, if_neg c0, gnM_all, hmk, foundN, foundE, show (Int.ofNat n').toNat = n' from rfl, firstS_some c1 hk hr]; rfl, (eA.trans e29).trans e34⟩
   ·
    rw [decide_eq_false h1]
    refine sG rfl rfl ?_
    refine sMn rfl ?_
    refine sG rfl rfl ?_
    refine sMn rfl ?_
    refine sG rfl rfl ?_
    refine sBin (a := runS Gs' i) (b := runS Gs' (offM i mk)) rfl rfl (aInt_xor ⟨by omega, by omega⟩) ?_
    refine sG rfl rfl ?_
    refine sMn rfl ?_
    refine sG rfl rfl ?_
    refine sBin (a := runS Gs' i ^^^ runS Gs' (offM i mk)) (b := mk) rfl rfl (aInt_andNot ⟨by omega, by omega⟩) ?_
    refine sG rfl rfl ?_
    refine sBin (a := offM (runS Gs' i ^^^ runS Gs' (offM i mk)) mk) (b := 0) rfl rfl aInt_neq ?_
    refine sPb rfl ?_
    refine sN ?_
    refine cCond (p := offM (runS Gs' i ^^^ runS Gs' (offM i mk)) mk ≠ 0) rfl (fun c3 => ?_) (fun c3 => ?_)
    ·
     refine cSR ?_
     refine sMn rfl ?_
     refine sAn rfl ?_
     refine sAn rfl ?_
     refine sN ?_
     refine cRet (kBlkR (kSeqR (kSeqR (kBlkR (kSeqR ?_)))))
     have hk : borrK Gs' mk i = true := by rw [borrK, hxc, decide_eq_false h1, decide_eq_true c3]; rfl
     exact ⟨.inr rfl, _, rfl, by rw [borV, borE, if_neg c0, if_neg c0, gnM_all, hmk, foundN, foundE, show (Int.ofNat n').toNat = n' from rfl, firstS_some c1 hk hr]; rfl, (eA.trans e29).trans e34⟩
    ·
     refine cSkip (kBlkN (kSeqN ?_))
     refine cRegion ?_
     refine sMn rfl ?_
     refine sBin rfl rfl (aInt_add (b := 1) (by omega)) ?_
     refine sAn rfl ?_
     refine sN ?_
     refine ⟨_, ?_, i + 1, rfl, by omega, fun y hy => ?_, (hE.trans e29).trans e34, rfl, rfl, rfl, trivial⟩
     ·omega
     ·by_cases e : y = i
      ·subst e; rw [borrK, hxc, decide_eq_false h1, decide_eq_false c3]; rfl
      ·exact hr y (by omega)
  ·
   refine cExit (kSeqE (kSeqE (kBlkS (kSeqN ?_))))
   refine cSR ?_
   refine sAn rfl ?_
   refine sAs (v := nv 6) rfl ?_
   refine sN ?_
   refine cRet ?_
   exact ⟨.inr rfl, _, rfl, by rw [borV, borE, if_neg c0, if_neg c0, gnM_all, hmk, foundN, foundE, show (Int.ofNat n').toNat = n' from rfl, firstS_none fun x hx => hr x (by omega)]; rfl, eA⟩
end Go.AM

/-! R71 -/
namespace Go.AM
open Go.Proofs
theorem fill2k {a b : Nat} : Instr.fill (fun i => some (i * 1, 1)) (if 2 * 1 = 0 then #[] else (Array.range (2 * 1)).map ((nv 0).cells[· % (nv 0).cells.size]!)) [(0, nv a), (1, nv b)] = some #[nv a, nv b] := by kernel_rfl
/-- A circuit that grows, in a cell. -/
def GrowB (N ob : Nat) (m : Mem) (W B : Nat) (Gs : List (Nat × List Nat)) (v : Value) (cs : Array Value) : Prop := Mem.get m ob = .cells true #[nv W, nv B, v] ∧ ob < N ∧ OwnG N m v cs Gs
def H51 : Nat → List (Nat × Nat) := fun id => if id = 28 then [(1, 9), (1, 16), (1, 17), (1, 18), (3, 9), (3, 16), (7, 9), (7, 16), (10, 0), (14, 0)] else if id = 23 then [(1, 8), (1, 9), (1, 10)] else if id = 18 then [(1, 5), (1, 8), (1, 9), (1, 10), (3, 5), (3, 8), (6, 0)] else []
theorem okf51 : okF Tryd.prog H51 51 130 = true := by kernel_rfl
theorem spec_rKeep {m : Mem} {n b : Int} {s a : Value} {Gs : List GateV} {l : List Int} (hG : GsAt m s Gs) (ha : IntsAt m a l) (hl20 : l.length ≤ 1000) : ∃ v m', ACalls Tryd.prog 51 #[.agg #[.int .i64 n, .int .i64 b, s], a] m v m' ∧ (∃ s' cs, v = .tuple #[.agg #[nv (keepW n b Gs l), nv (keepB n b Gs l), s'], nv (keepE n b Gs l)] ∧ OwnG m.size m' s' cs (keepG n b Gs l) ∧ Ext m m') := by
 obtain ⟨q, cap, rfl⟩ := hG.len
 obtain ⟨qa, ca, rfl⟩ := ha.len
 refine wpF (args := [_, _]) mixed okf51 (fn := Tryd.f51) rfl rfl rfl (by simp) ?_
 refine cSR ?_
 refine sBox (v := .agg _) rfl ?_
 refine sAllocB (bl := m.size + 1) (by simp) Z30 (by kernel_rfl) ?_
 change wpOps _ _ _ _ _ ((m.push (.cells true #[.int .i64 n, .int .i64 b, .slice q Gs.length cap])).push (.cells true #[nv 0, nv 0, .slice none 0 0]))
 have eM : Ext m ((m.push (.cells true #[.int .i64 n, .int .i64 b, .slice q Gs.length cap])).push (.cells true #[nv 0, nv 0, .slice none 0 0])) := (Ext.push _ _).trans (.push _ _)
 have g1 : Mem.get ((m.push (.cells true #[.int .i64 n, .int .i64 b, .slice q Gs.length cap])).push (.cells true #[nv 0, nv 0, .slice none 0 0])) m.size = .cells true #[.int .i64 n, .int .i64 b, .slice q Gs.length cap] := by rw [gPn (by simp), gP rfl]
 have g2 : Mem.get ((m.push (.cells true #[.int .i64 n, .int .i64 b, .slice q Gs.length cap])).push (.cells true #[nv 0, nv 0, .slice none 0 0])) (m.size + 1) = .cells true #[nv 0, nv 0, .slice none 0 0] := gP (by simp)
 have z1 : ((m.push (.cells true #[.int .i64 n, .int .i64 b, .slice q Gs.length cap])).push (.cells true #[nv 0, nv 0, .slice none 0 0])).size = m.size + 2 := by simp
 generalize ((m.push (.cells true #[.int .i64 n, .int .i64 b, .slice q Gs.length cap])).push (.cells true #[nv 0, nv 0, .slice none 0 0])) = M at *
 refine sAn rfl ?_
 refine sN ?_
 refine cSeq (cSR ?_)
 refine sLdAll A30 S30 rfl g1 rfl ?_
 obtain ⟨v8, m8, h8, rfl, e8⟩ := spec_rCheck8I (n := n) (b := b) (hG.ext eM)
 refine sCall1 rfl call31 rfl h8 ?_
 replace g1 := e8.cells g1
 replace g2 := e8.cells g2
 replace eM := eM.trans e8
 have z8 := e8.1
 have hfail : ∀ (er : Nat), keepE n b Gs l = er → er ≠ 0 → ∃ s' cs, (Value.tuple #[.agg #[nv 0, nv 0, .slice none 0 0], nv er] : Value) = .tuple #[.agg #[nv (keepW n b Gs l), nv (keepB n b Gs l), s'], nv (keepE n b Gs l)] ∧ OwnG m.size (m8.setIfInBounds (m.size + 1) (.cells true #[nv 0, nv 0, .slice none 0 0])) s' cs (keepG n b Gs l) ∧ Ext m (m8.setIfInBounds (m.size + 1) (.cells true #[nv 0, nv 0, .slice none 0 0])) := fun er h1 h2 => by
  refine ⟨.slice none 0 0, #[], ?_, ?_, eM.set (by omega) _⟩
  ·rw [keepW, keepB, h1, if_neg h2, if_neg h2]
  ·rw [keepG, h1, if_neg h2]; exact .nil _ _
 refine sAn rfl ?_
 refine sN ?_
 refine cSR ?_
 refine sMn rfl ?_
 refine sBin (a := circ8E n b Gs) (b := 0) rfl rfl aInt_neq ?_
 refine sN ?_
 refine cCond (p := circ8E n b Gs ≠ 0) rfl (fun c0 => ?_) (fun c0 => ?_)
 ·
  refine cSR ?_
  refine sBuild B57_0 ?_
  refine sMn rfl ?_
  refine sStAll S30 rfl rfl g2 rfl rfl (by kernel_rfl) ?_
  refine sAn rfl ?_
  refine sN ?_
  refine cRet (kSeqR ?_)
  exact ⟨.inr rfl, _, resRs_agg2 A30 S30 rfl (gS rfl (by omega)) rfl, hfail _ (by rw [keepE, if_pos c0]) c0⟩
 ·
  have h0 : circ8E n b Gs = 0 := Classical.byContradiction c0
  obtain ⟨n', b', Gs', rfl, rfl, rfl, hc⟩ := circ8_nat h0
  have h10 := hc.ten
  have hfew := hc.few
  rw [List.length_map] at g1
  refine cSkip (kSeqN ?_)
  refine cSeq (cSR ?_)
  refine sMs rfl ?_
  refine sLen T22 rfl ?_
  refine sMv (v := nv 0) rfl ?_
  refine sN ?_
  refine cBlock ?_
  refine wpC_loop (fun k' ρ m' => ∃ i, k' = l.length - i ∧ i ≤ l.length ∧ (∀ (j : Nat) x, j < i → l[j]? = some x → 0 ≤ x ∧ x < Int.ofNat n') ∧ m8 = m' ∧ Has ρ [(1, .slice qa l.length ca), (2, .pointer (some ⟨m.size, 0, none⟩)), (4, .pointer (some ⟨m.size + 1, 0, none⟩)), (21, .slice qa l.length ca), (22, nv l.length), (23, nv i)]) ⟨0, rfl, by omega, fun j x h => absurd h (by omega), rfl, rfl, rfl, rfl, rfl, rfl, rfl, trivial⟩ ?_
  rintro k' ρ _ ⟨i, rfl, hi, hr, rfl, hh⟩
  rw [hh.env]; clear hh
  refine cSR ?_
  refine sBin rfl rfl (aInt_lss) ?_
  refine sN ?_
  refine cSeq ?_
  refine cCond rfl (fun c1 => ?_) (fun c1 => ?_)
  ·
   obtain ⟨b1, o1, p1, r1, cc, ee1, gg, x1⟩ := (ha.ext eM).at (by omega)
   cases ee1
   obtain ⟨y, hy⟩ : ∃ y, l[i]? = some y := ⟨_, List.getElem?_eq_getElem c1⟩
   refine cSkip (kSeqN ?_)
   refine cSeq (cBlock (cSR ?_))
   refine sIx T22 S3 rfl rfl (by omega) ?_
   refine sLd (v := .int .i64 y) A3 rfl gg (x1 i y hy) ?_
   refine sAs (v := .int .i64 y) rfl ?_
   refine sN ?_
   refine cSR ?_
   refine sMv (v := .int .i64 y) rfl ?_
   refine sBinI (v := .bool (decide (y < 0))) (b := 0) rfl rfl aInt_lssI ?_
   refine sMb rfl ?_
   by_cases q1 : y < 0
   ·
    rw [decide_eq_true q1]
    refine sGT rfl rfl ?_
    refine sGT rfl rfl ?_
    refine sGT rfl rfl ?_
    refine sGT rfl rfl ?_
    refine sPb rfl ?_
    refine sN ?_
    refine cCondT rfl ?_
    refine cSR ?_
    refine sBuild B57_0 ?_
    refine sStAll S30 rfl rfl g2 rfl rfl (by kernel_rfl) ?_
    refine sAs (v := nv 1) rfl ?_
    refine sN ?_
    refine cRet (kBlkR (kSeqR (kSeqR (kBlkR (kSeqR ?_)))))
    exact ⟨.inr rfl, _, resRs_agg2 A30 S30 rfl (gS rfl (by omega)) rfl, hfail 1 (by rw [keepE, if_neg c0, if_pos ⟨y, List.mem_of_getElem? hy, .inl q1⟩]) (by decide)⟩
   ·
    rw [decide_eq_false q1]
    refine sG rfl rfl ?_
    refine sMv (v := .int .i64 y) rfl ?_
    refine sG rfl rfl ?_
    refine sFA F30_0 rfl ?_
    refine sG rfl rfl ?_
    refine sLd (v := nv n') A3 rfl g1 rfl ?_
    refine sG rfl rfl ?_
    refine sBinI (v := .bool (decide (Int.ofNat n' ≤ y))) rfl rfl aInt_geqI ?_
    refine sPb rfl ?_
    refine sN ?_
    refine cCond (p := Int.ofNat n' ≤ y) rfl (fun c3 => ?_) (fun c3 => ?_)
    ·
     refine cSR ?_
     refine sBuild B57_0 ?_
     refine sStAll S30 rfl rfl g2 rfl rfl (by kernel_rfl) ?_
     refine sAs (v := nv 1) rfl ?_
     refine sN ?_
     refine cRet (kBlkR (kSeqR (kSeqR (kBlkR (kSeqR ?_)))))
     exact ⟨.inr rfl, _, resRs_agg2 A30 S30 rfl (gS rfl (by omega)) rfl, hfail 1 (by rw [keepE, if_neg c0, if_pos ⟨y, List.mem_of_getElem? hy, .inr c3⟩]) (by decide)⟩
    ·
     refine cSkip (kBlkN (kSeqN ?_))
     refine cRegion ?_
     refine sBin rfl rfl (aInt_add (b := 1) (by omega)) ?_
     refine sMn rfl ?_
     refine sN ?_
     refine ⟨_, ?_, i + 1, rfl, by omega, fun j x hj hx => ?_, rfl, rfl, rfl, rfl, rfl, rfl, rfl, trivial⟩
     ·omega
     ·by_cases e : j = i
      ·subst e
       rw [hy] at hx; cases hx; omega
      ·exact hr j x (by omega) hx
  ·
   have c1' : ¬ outI (Int.ofNat n') l := outI_up fun j x hx => hr j x (by have := (List.getElem?_eq_some_iff.1 hx).1; omega) hx
   clear hr hi c1
   refine cExit (kSeqE (kSeqE (kBlkS (kSeqN ?_))))
   refine cSeq (cSR ?_)
   refine sFA F30_0 rfl ?_
   refine sLd (v := nv n') A3 rfl g1 rfl ?_
   refine sMs rfl ?_
   refine sLen T22 rfl ?_
   refine sBin (a := n') (b := l.length) rfl rfl (aInt_add (by omega)) ?_
   refine sBin (a := n' + l.length) (b := 12) rfl rfl aInt_gtr ?_
   refine sN ?_
   refine cCond (p := 12 < n' + l.length) rfl (fun c2 => ?_) (fun c2 => ?_)
   ·
    refine cSR ?_
    refine sBuild B57_0 ?_
    refine sStAll S30 rfl rfl g2 rfl rfl (by kernel_rfl) ?_
    refine sAs (v := nv 12) rfl ?_
    refine sN ?_
    refine cRet (kSeqR ?_)
    exact ⟨.inr rfl, _, resRs_agg2 A30 S30 rfl (gS rfl (by omega)) rfl, hfail 12 (by rw [keepE, if_neg c0, if_neg c1', if_pos (by simpa using c2)]) (by decide)⟩
   ·
    refine cSkip (kSeqN ?_)
    refine cSeq (cSR ?_)
    refine sFA F30_2 rfl ?_
    refine sLd (v := .slice q Gs'.length cap) A28 rfl g1 rfl ?_
    refine sLen T28 rfl ?_
    refine sBin (a := 2) (b := Gs'.length) rfl rfl (aInt_mul (by omega)) ?_
    refine sMs rfl ?_
    refine sLen T22 rfl ?_
    refine sBin (a := 2 * Gs'.length) (b := l.length) rfl rfl (aInt_add (by omega)) ?_
    refine sBin (a := 2 * Gs'.length + l.length) (b := 120) rfl rfl aInt_gtr ?_
    refine sN ?_
    refine cCond (p := 120 < 2 * Gs'.length + l.length) rfl (fun c3 => ?_) (fun c3 => ?_)
    ·
     refine cSR ?_
     refine sBuild B57_0 ?_
     refine sStAll S30 rfl rfl g2 rfl rfl (by kernel_rfl) ?_
     refine sAs (v := nv 2) rfl ?_
     refine sN ?_
     refine cRet (kSeqR ?_)
     exact ⟨.inr rfl, _, resRs_agg2 A30 S30 rfl (gS rfl (by omega)) rfl, hfail 2 (by rw [keepE, if_neg c0, if_neg c1', if_neg (by simpa using c2), if_pos (by rw [List.length_map]; exact c3)]) (by decide)⟩
    ·
     obtain ⟨L, rfl, hlt⟩ := outI_nat c1'
     rw [ofs_length] at ha c2 c3
     have hE0 : keepE (Int.ofNat n') (Int.ofNat b') (Gs'.map gvM) (ofs L) = 0 := by rw [keepE, if_neg c0, if_neg c1', if_neg (by rw [ofs_length]; simpa using c2), if_neg (by rw [List.length_map, ofs_length]; exact c3)]
     have hG8 := hG.ext eM
     rw [List.length_map] at hG8
     have hw3 : ∀ g ∈ Gs', g.2.length ≤ 100 := fun g hg => by have := (hc.all g hg).kind; omega
     clear hfail
     refine cSkip (kSeqN ?_)
     refine cSR ?_
     refine sFA F30_0 rfl ?_
     refine sLd (v := nv n') A3 rfl g1 rfl ?_
     refine sMv (v := .slice qa L.length ca) (by rw [ofs_length]; rfl) ?_
     refine sLen T22 rfl ?_
     refine sBin (a := n') (b := L.length) rfl rfl (aInt_add (by omega)) ?_
     refine sFA F30_1 rfl ?_
     refine sLd (v := nv b') A3 rfl g1 rfl ?_
     refine sBuild B30I ?_
     refine sAllocB (bl := m8.size) rfl Z30 (by kernel_rfl) ?_
     refine sStNAB rfl S30 rfl rfl rfl rfl (by kernel_rfl) ?_
     have e9 : Ext m8 (m8.push (.cells true #[nv (n' + L.length), nv b', .slice none 0 0])) := .push _ _
     have hB0 : GrowB (m8.size + 1) m8.size (m8.push (.cells true #[nv (n' + L.length), nv b', .slice none 0 0])) (n' + L.length) b' [] (.slice none 0 0) #[] := ⟨gP rfl, by omega, .nil _ _⟩
     have z9 : (m8.push (.cells true #[nv (n' + L.length), nv b', .slice none 0 0])).size = m8.size + 1 := by simp
     generalize m8.push (.cells true #[nv (n' + L.length), nv b', .slice none 0 0]) = m9 at *
     refine sN ?_
     refine cSeq (cSR ?_)
     refine sFA F30_2 rfl ?_
     refine sLd (v := .slice q Gs'.length cap) A28 rfl (e9.cells g1) rfl ?_
     refine sLen T28 rfl ?_
     refine sMv (v := nv 0) rfl ?_
     refine sN ?_
     refine cBlock ?_
     refine wpC_loop (fun k' ρ m' => ∃ i w cw, k' = Gs'.length - i ∧ i ≤ Gs'.length ∧ m8.size < m'.size ∧ (∀ c, c < m8.size → Mem.get m' c = Mem.get m8 c) ∧ GrowB (m8.size + 1) m8.size m' (n' + L.length) b' (Gs'.take i) w cw ∧ Has ρ [(1, .slice qa L.length ca), (2, .pointer (some ⟨m.size, 0, none⟩)), (4, .pointer (some ⟨m.size + 1, 0, none⟩)), (9, .pointer (some ⟨m8.size, 0, none⟩)), (62, .slice q Gs'.length cap), (63, nv Gs'.length), (64, nv i)]) ⟨0, _, _, rfl, by omega, by omega, fun c hc' => e9.2 c hc', hB0, by rw [ofs_length]; rfl, rfl, rfl, rfl, rfl, rfl, rfl, trivial⟩ ?_
     clear hB0 e9 z9
     rintro k' ρ m' ⟨i, w, cw, rfl, hi, hz, hk, hB, hh⟩
     rw [hh.env]; clear hh
     have X8 : Ext m8 m' := ⟨by omega, hk⟩
     refine cSR ?_
     refine sBin rfl rfl (aInt_lss) ?_
     refine sN ?_
     refine cSeq ?_
     refine cCond rfl (fun c6 => ?_) (fun c6 => ?_)
     ·
      obtain ⟨g, hgi⟩ : ∃ g, Gs'[i]? = some g := ⟨_, List.getElem?_eq_getElem c6⟩
      have hgw := hw3 g (List.mem_of_getElem? hgi)
      obtain ⟨b2, cp2, r2, cc, qw, cw2, ee, gb, hcs, hex, hws, hkw⟩ := GsAt.gateN (hG8.ext X8) hgi
      cases ee
      obtain ⟨gO, hob, hO⟩ := hB
      obtain ⟨qv, cv, rfl⟩ := hO.1.len
      have htl : (Gs'.take i).length ≤ 1000 := by rw [List.length_take]; omega
      refine cSkip (kSeqN ?_)
      refine cSeq (cBlock (cSR ?_))
      refine sIx T28 S49 rfl rfl c6 ?_
      refine sLdA A49 S49 rfl gb (by omega) ?_
      rw [hex]
      refine sAllocB (bl := m'.size) rfl Z49 (by kernel_rfl) ?_
      refine sStNAB rfl S49 rfl rfl rfl rfl (by kernel_rfl) ?_
      have eg : Ext m' (m'.push (.cells true #[nv g.1, .slice qw g.2.length cw2, nv 0, nv 0])) := .push _ _
      have gg : Mem.get (m'.push (.cells true #[nv g.1, .slice qw g.2.length cw2, nv 0, nv 0])) m'.size = .cells true #[nv g.1, .slice qw g.2.length cw2, nv 0, nv 0] := gP rfl
      have zg : (m'.push (.cells true #[nv g.1, .slice qw g.2.length cw2, nv 0, nv 0])).size = m'.size + 1 := by simp
      generalize m'.push (.cells true #[nv g.1, .slice qw g.2.length cw2, nv 0, nv 0]) = M5 at *
      refine sN ?_
      refine cDrawH (hs := [(1, 5), (1, 8), (1, 9), (1, 10), (3, 5), (3, 8), (6, 0)]) rfl (by decide) ?_
      refine lStepO (sFA F30_2 rfl (sNil fun e0 hm0 => ?_))
      refine lStepLd (v := .slice qv (Gs'.take i).length cv) A28 rfl (eg.cells gO) rfl fun e1 hm1 hv1 hr1 => ?_
      refine lStepO (sFA F49_0 rfl (sNil fun e2 hm2 => ?_))
      refine lStepLd (v := nv g.1) A3 rfl gg rfl fun e3 hm3 hv3 hr3 => ?_
      refine lStepO (sBuildS (c := #[]) T22 S3 Z3 (by decide) (by decide) (by decide) (by kernel_rfl) rfl rfl (sNil fun e4 hm4 => ?_))
      refine lStepO (sFA F49_1 rfl (sNil fun e5 hm5 => ?_))
      refine lStepLd (v := .slice qw g.2.length cw2) A22 rfl ((gPn (by omega)).trans gg) rfl fun e6 hm6 hv6 hr6 => ?_
      refine lStepO (sApp App22 rfl rfl (N := M5.size) (p := []) (.inr ⟨M5.size, 0, #[], rfl, Nat.le_refl _, gP rfl, by simp, by simp, by simp⟩) ((hws.ext eg).ext (.push _ _)) (by simp) (by simp; omega) fun v16 m16 hO16 hL16 => (sNil fun e7 hm7 => ?_))
      rw [List.nil_append] at hO16
      have x16 : Ext M5 m16 := hL16.to_ext (.push _ _) (Nat.le_refl _)
      obtain ⟨q16, c16, rfl⟩ := hO16.ints.lenN
      obtain ⟨v17, m17, h17, rfl, e17⟩ := spec_rgate (m := m16) (k := g.1) (q := q16) (n := g.2.length) (c := c16)
      refine lStepO (sCall2 rfl call109 rfl rfl h17 (sNil fun e8 hm8 => ?_))
      have x17 := x16.trans e17
      have z17 := x17.1
      have o17 := hO16.ext e17
      refine lStepO (sBuildS T28 S49 Z49 (by decide) (by decide) (by decide) (by kernel_rfl) fillA4 rfl (sNil fun e9 hm9 => ?_))
      refine lStepO (sAppC El55 rfl rfl (N := m8.size + 1) (n := (Gs'.take i).length) (cs := cw) (((hO.ext eg).ext x17).1.ext (.push _ _)) (gP rfl) rfl (by kernel_rfl) (by simp; omega) (by omega) fun v' m4 hO4 hL4 hG4 => (sNil fun e10 hm10 => ?_))
      have hgr := (((hO.ext eg).ext x17).ext (.push _ _)).grew (s := .slice q16 g.2.length c16) (k := g.1) (w := g.2) ((o17.mono (by omega)).ext (.push _ _)) (fun c hc e => by
       have h1 := (o17.lt hc).1
       have h2 := (hO.1.lt e).2
       omega) hG4 hO4
      obtain ⟨q4, cp4, rfl⟩ := hO4.len
      have z4 := hL4.1
      simp only [Array.size_push] at z4
      have gc4 := hL4.cells (show m8.size < m8.size + 1 by omega) ((gPn (by omega)).trans ((eg.trans x17).cells gO))
      refine lStepO (sFA F30_2 rfl (sNil fun e11 hm11 => ?_))
      refine lStepO (sSt (v := .slice _ _ _) S28 rfl rfl gc4 (by simp) rfl rfl (sNil fun e12 hm12 => ?_))
      refine ⟨?_, (kBlkN (kSeqN ?_))⟩
      ·
       refine obl_atE (e := e1) (e' := e5) (by simp) (by rfl) (by simp) ((hr1 e5.m _ _ (by rw [hm5, gPn (by omega)]; exact eg.cells gO) (by rfl)).trans (congrArg some hv1.symm)) ?_
       refine obl_atE (e := e1) (e' := e8) (by simp) (by rfl) (by simp) ((hr1 e8.m _ _ (by rw [hm8]; exact (eg.trans x16).cells gO) (by rfl)).trans (congrArg some hv1.symm)) ?_
       refine obl_atE (e := e1) (e' := e9) (by simp) (by rfl) (by simp) ((hr1 e9.m _ _ (by rw [hm9]; exact (eg.trans x17).cells gO) (by rfl)).trans (congrArg some hv1.symm)) ?_
       refine obl_atE (e := e1) (e' := e10) (by simp) (by rfl) (by simp) ((hr1 e10.m _ _ (by rw [hm10, gPn (by omega)]; exact (eg.trans x17).cells gO) (by rfl)).trans (congrArg some hv1.symm)) ?_
       refine obl_atE (e := e3) (e' := e5) (by simp) (by rfl) (by simp) ((hr3 e5.m _ _ (by rw [hm5, gPn (by omega)]; exact gg) (by rfl)).trans (congrArg some hv3.symm)) ?_
       refine obl_atE (e := e3) (e' := e8) (by simp) (by rfl) (by simp) ((hr3 e8.m _ _ (by rw [hm8]; exact x16.cells gg) (by rfl)).trans (congrArg some hv3.symm)) ?_
       refine obl_atE (e := e6) (e' := e0) (by simp) (by rfl) (by simp) ((hr6 e0.m _ _ (by rw [hm0]; exact gg) (by rfl)).trans (congrArg some hv6.symm)) ?_
       trivial
      refine cRegion ?_
      refine sBin rfl rfl (aInt_add (b := 1) (by omega)) ?_
      refine sMn rfl ?_
      refine sN ?_
      refine ⟨_, ?_, i + 1, _, cw ++ #[nv g.1, .slice q16 g.2.length c16, nv 0, nv 0], rfl, by omega, by simp; omega, fun c h1 => ?_, ⟨gS rfl (live gc4), hob, ?_⟩, rfl, rfl, rfl, rfl, rfl, rfl, rfl, trivial⟩
      ·omega
      ·rw [gSn (by omega), hL4.2 c (by omega), gPn (by omega), (eg.trans x17).2 c (by omega)]; exact hk c h1
      ·rw [List.take_add_one, hgi]
       exact hgr.only (.set m8.size m4 _) (by omega)
     ·
      obtain rfl : i = Gs'.length := by omega
      rw [List.take_length] at hB
      refine cExit (kSeqE (kSeqE (kBlkS (kSeqN ?_))))
      refine cSeq (cSR ?_)
      refine sMv (v := .slice qa L.length ca) rfl ?_
      refine sLen T22 rfl ?_
      refine sMv (v := nv 0) rfl ?_
      refine sN ?_
      refine cBlock ?_
      refine wpC_loop (fun k' ρ M => ∃ i w cw, k' = L.length - i ∧ i ≤ L.length ∧ m8.size < M.size ∧ (∀ c, c < m8.size → Mem.get M c = Mem.get m8 c) ∧ GrowB (m8.size + 1) m8.size M (n' + L.length) b' (Gs' ++ keepM n' i L) w cw ∧ Has ρ [(2, .pointer (some ⟨m.size, 0, none⟩)), (4, .pointer (some ⟨m.size + 1, 0, none⟩)), (9, .pointer (some ⟨m8.size, 0, none⟩)), (81, .slice qa L.length ca), (82, nv L.length), (83, nv i)]) ⟨0, w, cw, rfl, by omega, hz, hk, by rw [show keepM n' 0 L = [] from rfl, List.append_nil]; exact hB, rfl, rfl, rfl, rfl, rfl, rfl, trivial⟩ ?_
      clear hB hz hk X8
      rintro k' ρ m' ⟨i, w, cw, rfl, hi, hz, hk, hB, hh⟩
      rw [hh.env]; clear hh
      have X8 : Ext m8 m' := ⟨by omega, hk⟩
      have g1' := X8.cells g1
      have hlM : (Gs' ++ keepM n' i L).length ≤ 200000 := by simp [keepM]; omega
      refine cSR ?_
      refine sBin rfl rfl (aInt_lss) ?_
      refine sN ?_
      refine cSeq ?_
      refine cCond rfl (fun c7 => ?_) (fun c7 => ?_)
      ·
       obtain ⟨b1, o1, p1, r1, cc, ee1, gg, x1⟩ := ((ha.ext eM).ext X8).atN (by omega)
       cases ee1
       obtain ⟨gO, hob, hO⟩ := hB
       obtain ⟨qv, cv, rfl⟩ := hO.1.len
       refine cSkip (kSeqN ?_)
       refine cSeq (cBlock (cSR ?_))
       refine sMn rfl ?_
       refine sIx T22 S3 rfl rfl (by omega) ?_
       refine sLd (v := nv L[i]) A3 rfl gg (x1 i L[i] (by simp)) ?_
       refine sAn rfl ?_
       refine sAn rfl ?_
       refine sN ?_
       refine cDrawH (hs := [(1, 8), (1, 9), (1, 10)]) rfl (by decide) ?_
       refine lStepO (sFA F30_2 rfl (sNil fun e0 hm0 => ?_))
       refine lStepLd (v := .slice qv (Gs' ++ keepM n' i L).length cv) A28 rfl gO rfl fun e1 hm1 hv1 hr1 => ?_
       refine lStepO (sMv (v := nv _) rfl (sNil fun e2 hm2 => ?_))
       refine lStepO (sFA F30_0 rfl (sNil fun e3 hm3 => ?_))
       refine lStepLd (v := nv n') A3 rfl g1' rfl fun e4 hm4 hv4 hr4 => ?_
       refine lStepO (sMv (v := nv _) rfl (sNil fun e5 hm5 => ?_))
       refine lStepO (sBin (a := n') (b := i) rfl rfl (aInt_add (by omega)) (sNil fun e6 hm6 => ?_))
       refine lStepO (sBuildS T22 S3 Z3 (by decide) (by decide) (by decide) (by kernel_rfl) fill2k rfl (sNil fun e7 hm7 => ?_))
       have eb : Ext m' (m'.push (.cells true #[nv L[i], nv (n' + i)])) := .push _ _
       have zb : (m'.push (.cells true #[nv L[i], nv (n' + i)])).size = m'.size + 1 := by simp
       obtain ⟨v17, m17, h17, rfl, e17⟩ := spec_rgate (m := m'.push (.cells true #[nv L[i], nv (n' + i)])) (k := 9) (q := some ⟨m'.size, 0, some 1⟩) (n := 2) (c := 2)
       refine lStepO (sCall2 rfl call109 rfl rfl h17 (sNil fun e8 hm8 => ?_))
       have x17 := eb.trans e17
       have z17 := e17.1
       have o17 : OwnF m'.size m17 (.slice (some ⟨m'.size, 0, some 1⟩) 2 2) (ofs [L[i], n' + i]) := .inr ⟨m'.size, 2, #[nv L[i], nv (n' + i)], rfl, Nat.le_refl _, e17.cells (gP rfl), by simp [ofs], by simp, fun j x hx => by
        have h1 := (List.getElem?_eq_some_iff.1 hx).1
        have hj : j = 0 ∨ j = 1 := by simp [ofs] at h1; omega
        rcases hj with rfl | rfl
        ·simp [ofs] at hx; subst hx; rfl
        ·simp [ofs] at hx; subst hx; rfl⟩
       refine lStepO (sBuildS T28 S49 Z49 (by decide) (by decide) (by decide) (by kernel_rfl) fillA4 rfl (sNil fun e9 hm9 => ?_))
       refine lStepO (sAppC El55 rfl rfl (N := m8.size + 1) (n := (Gs' ++ keepM n' i L).length) (cs := cw) ((hO.ext x17).1.ext (.push _ _)) (gP rfl) rfl (by kernel_rfl) (by simp; omega) (by omega) fun v' m4 hO4 hL4 hG4 => (sNil fun e10 hm10 => ?_))
       have hgr := ((hO.ext x17).ext (.push _ _)).grew (s := .slice (some ⟨m'.size, 0, some 1⟩) 2 2) (k := 9) (w := [L[i], n' + i]) ((o17.mono (by omega)).ext (.push _ _)) (fun c hc e => by
        have h1 := (o17.lt hc).1
        have h2 := (hO.1.lt e).2
        omega) hG4 hO4
       obtain ⟨q4, cp4, rfl⟩ := hO4.len
       have z4 := hL4.1
       simp only [Array.size_push] at z4
       have gc4 := hL4.cells (show m8.size < m8.size + 1 by omega) ((gPn (by omega)).trans (x17.cells gO))
       refine lStepO (sFA F30_2 rfl (sNil fun e11 hm11 => ?_))
       refine lStepO (sSt (v := .slice _ _ _) S28 rfl rfl gc4 (by simp) rfl rfl (sNil fun e12 hm12 => ?_))
       refine ⟨?_, (kBlkN (kSeqN ?_))⟩
       ·
        refine obl_atE (e := e1) (e' := e8) (by simp) (by rfl) (by simp) ((hr1 e8.m _ _ (by rw [hm8, gPn (live gO)]; exact gO) (by rfl)).trans (congrArg some hv1.symm)) ?_
        refine obl_atE (e := e1) (e' := e9) (by simp) (by rfl) (by simp) ((hr1 e9.m _ _ (by rw [hm9]; exact x17.cells gO) (by rfl)).trans (congrArg some hv1.symm)) ?_
        refine obl_atE (e := e1) (e' := e10) (by simp) (by rfl) (by simp) ((hr1 e10.m _ _ (by rw [hm10, gPn (by omega)]; exact x17.cells gO) (by rfl)).trans (congrArg some hv1.symm)) ?_
        trivial
       refine cRegion ?_
       refine sBin rfl rfl (aInt_add (b := 1) (by omega)) ?_
       refine sMn rfl ?_
       refine sN ?_
       refine ⟨_, ?_, i + 1, _, cw ++ #[nv 9, .slice (some ⟨m'.size, 0, some 1⟩) 2 2, nv 0, nv 0], rfl, by omega, by simp; omega, fun c h1 => ?_, ⟨gS rfl (live gc4), hob, ?_⟩, rfl, rfl, rfl, rfl, rfl, rfl, trivial⟩
       ·omega
       ·rw [gSn (by omega), hL4.2 c (by omega), gPn (by omega), x17.2 c (by omega)]; exact hk c h1
       ·have e9 : L.getD i 0 = L[i] := by rw [List.getD_eq_getElem?_getD, List.getElem?_eq_getElem c7]; rfl
        rw [keepM_succ, ← List.append_assoc, e9]
        exact hgr.only (.set m8.size m4 _) (by omega)
      ·
       obtain rfl : i = L.length := by omega
       refine cExit (kSeqE (kSeqE (kBlkS (kSeqN ?_))))
       refine cSeq (cSR ?_)
       refine sFA F30_2 rfl ?_
       refine sLd (v := .slice q Gs'.length cap) A28 rfl g1' rfl ?_
       refine sLen T28 rfl ?_
       refine sBinI (v := .int .i64 (Int.ofNat Gs'.length - 1)) (b := 1) rfl rfl (aInt_subI (by simp only [Int.ofNat_eq_natCast]; omega)) ?_
       refine sAs (v := .int .i64 _) rfl ?_
       refine sN ?_
       refine cBlock ?_
       refine wpC_loop (fun k' ρ M => ∃ j w cw, j = k' ∧ j ≤ Gs'.length ∧ m8.size < M.size ∧ (∀ c, c < m8.size → Mem.get M c = Mem.get m8 c) ∧ GrowB (m8.size + 1) m8.size M (n' + L.length) b' (Gs' ++ keepM n' L.length L ++ Gs'.reverse.take (Gs'.length - j)) w cw ∧ Has ρ [(2, .pointer (some ⟨m.size, 0, none⟩)), (4, .pointer (some ⟨m.size + 1, 0, none⟩)), (9, .pointer (some ⟨m8.size, 0, none⟩)), (14, .int .i64 (Int.ofNat j - 1))]) ⟨Gs'.length, w, cw, rfl, Nat.le_refl _, hz, hk, by rw [Nat.sub_self, List.take_zero, List.append_nil]; exact hB, rfl, rfl, rfl, rfl, trivial⟩ ?_
       clear hB hz hk X8 g1'
       rintro _ ρ m' ⟨j, w, cw, rfl, hj, hz, hk, hB, hh⟩
       rw [hh.env]; clear hh
       have X8 : Ext m8 m' := ⟨by omega, hk⟩
       have g1' := X8.cells g1
       have hlM : (Gs' ++ keepM n' L.length L ++ Gs'.reverse.take (Gs'.length - j)).length ≤ 200000 := by simp [keepM]; omega
       obtain ⟨gO, hob, hO⟩ := hB
       obtain ⟨qv, cv, rfl⟩ := hO.1.len
       refine cSeq (cSR ?_)
       refine sMv (v := .int .i64 (Int.ofNat j - 1)) rfl ?_
       refine sBinI (v := .bool (decide (1 ≤ j))) rfl rfl pred_geq ?_
       refine sN ?_
       refine cCond (p := 1 ≤ j) rfl (fun c8 => ?_) (fun c8 => ?_)
       ·
        obtain ⟨j, rfl⟩ : ∃ j', j = j' + 1 := ⟨j - 1, by omega⟩
        rw [pred_succ]
        obtain ⟨g, hgi⟩ : ∃ g, Gs'[j]? = some g := ⟨_, List.getElem?_eq_getElem (by omega)⟩
        have hgw := hw3 g (List.mem_of_getElem? hgi)
        obtain ⟨b2, cp2, r2, cc, qw, cw2, ee, gb, hcs, hex, hws, hkw⟩ := GsAt.gateN (hG8.ext X8) hgi
        cases ee
        obtain ⟨k0, k1, k2, k3⟩ := extract_at hex
        have hrt : Gs'.reverse.take (Gs'.length - j) = Gs'.reverse.take (Gs'.length - (j + 1)) ++ [g] := by
         rw [show Gs'.length - j = (Gs'.length - (j + 1)) + 1 by omega, List.take_add_one]
         rw [List.getElem?_reverse (by omega), show Gs'.length - 1 - (Gs'.length - (j + 1)) = j by omega, hgi]; rfl
        refine cSkip (kSeqN ?_)
        refine cSeq (cBlock ?_)
        refine cDrawH (hs := [(1, 9), (1, 16), (1, 17), (1, 18), (3, 9), (3, 16), (7, 9), (7, 16), (10, 0), (14, 0)]) rfl (by decide) ?_
        refine lStepO (sFA F30_2 rfl (sNil fun e0 hm0 => ?_))
        refine lStepLd (v := .slice _ _ _) A28 rfl gO rfl fun e1 hm1 hv1 hr1 => ?_
        refine lStepO (sFA F30_2 rfl (sNil fun e2 hm2 => ?_))
        refine lStepLd (v := .slice (some ⟨b2, 0, some 4⟩) Gs'.length cap) A28 rfl g1' rfl fun e3 hm3 hv3 hr3 => ?_
        refine lStepO (sMv (v := nv j) rfl (sNil fun e4 hm4 => ?_))
        refine lStepO (sIx T28 S49 rfl rfl (show j < Gs'.length by omega) (sNil fun e5 hm5 => ?_))
        refine lStepO (sFA F49_0 rfl (sNil fun e6 hm6 => ?_))
        refine lStepLd (v := nv g.1) A3 rfl gb k0 fun e7 hm7 hv7 hr7 => ?_
        refine lStepO (sBuildS (c := #[]) T22 S3 Z3 (by decide) (by decide) (by decide) (by kernel_rfl) rfl rfl (sNil fun e8 hm8 => ?_))
        refine lStepO (sFA F30_2 rfl (sNil fun e9 hm9 => ?_))
        refine lStepLd (v := .slice (some ⟨b2, 0, some 4⟩) Gs'.length cap) A28 rfl ((gPn (live g1')).trans g1') rfl fun e10 hm10 hv10 hr10 => ?_
        refine lStepO (sMv (v := nv j) rfl (sNil fun e11 hm11 => ?_))
        refine lStepO (sIx T28 S49 rfl rfl (show j < Gs'.length by omega) (sNil fun e12 hm12 => ?_))
        refine lStepO (sFA F49_1 rfl (sNil fun e13 hm13 => ?_))
        refine lStepLd (v := .slice qw g.2.length cw2) A22 rfl ((Ext.push m' (.cells true #[])).cells gb) k1 fun e14 hm14 hv14 hr14 => ?_
        refine lStepO (sApp App22 rfl rfl (N := m'.size) (p := []) (.inr ⟨m'.size, 0, #[], rfl, Nat.le_refl _, gP rfl, by simp, by simp, by simp⟩) (hws.ext (.push _ _)) (by simp) (by simp; omega) fun v16 m16 hO16 hL16 => (sNil fun e15 hm15 => ?_))
        rw [List.nil_append] at hO16
        have x16 : Ext m' m16 := hL16.to_ext (.push _ _) (Nat.le_refl _)
        obtain ⟨q16, c16, rfl⟩ := hO16.ints.lenN
        obtain ⟨v17, m17, h17, rfl, e17⟩ := spec_rgate (m := m16) (k := g.1) (q := q16) (n := g.2.length) (c := c16)
        refine lStepO (sCall2 rfl call109 rfl rfl h17 (sNil fun e16 hm16 => ?_))
        have x17 := x16.trans e17
        have z17 := x17.1
        have o17 := hO16.ext e17
        refine lStepO (sBuildS T28 S49 Z49 (by decide) (by decide) (by decide) (by kernel_rfl) fillA4 rfl (sNil fun e17 hm17 => ?_))
        refine lStepO (sAppC El55 rfl rfl (N := m8.size + 1) (n := (Gs' ++ keepM n' L.length L ++ Gs'.reverse.take (Gs'.length - (j + 1))).length) (cs := cw) ((hO.ext x17).1.ext (.push _ _)) (gP rfl) rfl (by kernel_rfl) (by simp; omega) (by omega) fun v' m4 hO4 hL4 hG4 => (sNil fun e18 hm18 => ?_))
        have hgr := ((hO.ext x17).ext (.push _ _)).grew (s := .slice q16 g.2.length c16) (k := g.1) (w := g.2) ((o17.mono (by omega)).ext (.push _ _)) (fun c hc e => by
         have h1 := (o17.lt hc).1
         have h2 := (hO.1.lt e).2
         omega) hG4 hO4
        obtain ⟨q4, cp4, rfl⟩ := hO4.len
        have z4 := hL4.1
        simp only [Array.size_push] at z4
        have gc4 := hL4.cells (show m8.size < m8.size + 1 by omega) ((gPn (by omega)).trans (x17.cells gO))
        refine lStepO (sFA F30_2 rfl (sNil fun e19 hm19 => ?_))
        refine lStepO (sSt (v := .slice _ _ _) S28 rfl rfl gc4 (by simp) rfl rfl (sNil fun e20 hm20 => ?_))
        refine ⟨?_, (kBlkN (kSeqN ?_))⟩
        ·
         refine obl_atE (e := e1) (e' := e9) (by simp) (by rfl) (by simp) ((hr1 e9.m _ _ (by rw [hm9, gPn (live gO)]; exact gO) (by rfl)).trans (congrArg some hv1.symm)) ?_
         refine obl_atE (e := e1) (e' := e16) (by simp) (by rfl) (by simp) ((hr1 e16.m _ _ (by rw [hm16]; exact x16.cells gO) (by rfl)).trans (congrArg some hv1.symm)) ?_
         refine obl_atE (e := e1) (e' := e17) (by simp) (by rfl) (by simp) ((hr1 e17.m _ _ (by rw [hm17]; exact x17.cells gO) (by rfl)).trans (congrArg some hv1.symm)) ?_
         refine obl_atE (e := e1) (e' := e18) (by simp) (by rfl) (by simp) ((hr1 e18.m _ _ (by rw [hm18, gPn (by omega)]; exact x17.cells gO) (by rfl)).trans (congrArg some hv1.symm)) ?_
         refine obl_atE (e := e3) (e' := e9) (by simp) (by rfl) (by simp) ((hr3 e9.m _ _ (by rw [hm9, gPn (live g1')]; exact g1') (by rfl)).trans (congrArg some hv3.symm)) ?_
         refine obl_atE (e := e3) (e' := e16) (by simp) (by rfl) (by simp) ((hr3 e16.m _ _ (by rw [hm16]; exact x16.cells g1') (by rfl)).trans (congrArg some hv3.symm)) ?_
         refine obl_atE (e := e7) (e' := e9) (by simp) (by rfl) (by simp) ((hr7 e9.m _ _ (by rw [hm9]; exact (Ext.push m' (.cells true #[])).cells gb) k0).trans (congrArg some hv7.symm)) ?_
         refine obl_atE (e := e7) (e' := e16) (by simp) (by rfl) (by simp) ((hr7 e16.m _ _ (by rw [hm16]; exact x16.cells gb) k0).trans (congrArg some hv7.symm)) ?_
         refine obl_atE (e := e10) (e' := e0) (by simp) (by rfl) (by simp) ((hr10 e0.m _ _ (by rw [hm0]; exact g1') (by rfl)).trans (congrArg some hv10.symm)) ?_
         refine obl_atE (e := e14) (e' := e0) (by simp) (by rfl) (by simp) ((hr14 e0.m _ _ (by rw [hm0]; exact gb) k1).trans (congrArg some hv14.symm)) ?_
         trivial
        refine cRegion ?_
        refine sMv (v := nv j) rfl ?_
        refine sBinI (v := .int .i64 (Int.ofNat j - 1)) rfl rfl (aInt_subI (by simp only [Int.ofNat_eq_natCast]; omega)) ?_
        refine sAs (v := .int .i64 _) rfl ?_
        refine sN ?_
        refine ⟨_, ?_, j, _, cw ++ #[nv g.1, .slice q16 g.2.length c16, nv 0, nv 0], rfl, by omega, by simp; omega, fun c h1 => ?_, ⟨gS rfl (live gc4), hob, ?_⟩, rfl, rfl, rfl, rfl, trivial⟩
        ·omega
        ·rw [gSn (by omega), hL4.2 c (by omega), gPn (by omega), x17.2 c (by omega)]; exact hk c h1
        ·rw [hrt, ← List.append_assoc]
         exact hgr.only (.set m8.size m4 _) (by omega)
       ·
        obtain rfl : j = 0 := by omega
        rw [Nat.sub_zero, show Gs'.reverse.take Gs'.length = Gs'.reverse by rw [← List.length_reverse, List.take_length]] at hO gO
        change OwnG _ _ _ _ (keepG0 n' Gs' L) at hO
        refine cExit (kSeqE (kSeqE (kBlkS (kSeqN ?_))))
        refine cSR ?_
        refine sLdAll A30 S30 rfl gO rfl ?_
        refine sStAll S30 rfl rfl (X8.cells g2) rfl rfl (by kernel_rfl) ?_
        refine sAn rfl ?_
        refine sN ?_
        refine cRet ?_
        have z8' : m.size + 1 < m'.size := by omega
        refine ⟨.inr rfl, _, resRs_agg2 A30 S30 rfl (gS rfl z8') rfl, .slice qv (keepG0 n' Gs' L).length cv, cw, ?_, ?_, (eM.trans X8).set (by omega) _⟩
        ·rw [keepW, keepB, hE0, if_pos rfl, if_pos rfl, ofs_length]; rfl
        ·rw [keepG, hE0, if_pos rfl, gnM_all, toNat_ofs]
         exact (hO.only (.set (m.size + 1) m' _) (by omega)).mono (by omega)
end Go.AM

/-! R73 -/
namespace Go.AM
open Go.Proofs
theorem CircOk.toS {n : Nat} {Gs : List (Nat × List Nat)} (h : CircOk n Gs) : CircS n Gs := ⟨h.one, h.ten, h.few, fun g hg => ⟨by have := (h.all g hg).kind; omega, (h.all g hg).lt, (h.all g hg).once⟩⟩
theorem gateE_S {n : Nat} {g : Nat × List Nat} (h : GateS n g) : gateE (Int.ofNat n) 0 (gvM g) = 0 := by
 obtain ⟨k, w⟩ := g
 obtain ⟨hk, hlt, hnd⟩ := h
 simp only at hk hlt hnd
 have hwl : ∀ x ∈ ofs w, 0 ≤ x ∧ x < Int.ofNat n := fun x hx => by
  obtain ⟨y, hy, rfl⟩ := List.mem_map.1 hx
  have := hlt y hy
  simp only [Int.ofNat_eq_natCast]; omega
 have har : arI (Int.ofNat k) = w.length := by
  rcases hk with ⟨rfl, h⟩ | ⟨rfl, h⟩ | ⟨rfl, h⟩ | ⟨rfl, h⟩ <;> rw [h] <;> rfl
 have h0 : w.length ≠ 0 := by omega
 have hk13 : k ≠ 13 ∧ k ≠ 14 := by omega
 refine gE7 (by rw [har]; exact h0) (by rw [har, ofs_length]; simp) hwl (ofs_nodup.2 hnd) ?_ ?_
 ·simp only [Int.ofNat_eq_natCast]; omega
 ·simp only [Int.ofNat_eq_natCast]; omega
theorem circ8E_S {n : Nat} {Gs : List (Nat × List Nat)} (h : CircS n Gs) : circ8E (Int.ofNat n) 0 (Gs.map gvM) = 0 := by
 have h1 := h.one
 have h2 := h.ten
 have h3 := h.few
 have hc : circE (Int.ofNat n) 0 (Gs.map gvM) = 0 := by
  rw [circE, if_neg (by simp only [Int.ofNat_eq_natCast]; omega), if_neg (by rw [List.length_map]; omega), gatesE_all]
  intro g hg
  obtain ⟨g', hg', rfl⟩ := List.mem_map.1 hg
  exact gateE_S (h.all g' hg')
 rw [circ8E, if_neg (by rw [hc]; simp), if_pos]
 rw [List.all_eq_true]
 intro g hg
 obtain ⟨g', hg', rfl⟩ := List.mem_map.1 hg
 rw [clI_in, show inK (gvM g').1 = true from inK_S (h.all g' hg')]; rfl
theorem runS_M {n : Nat} : ∀ {Gs : List (Nat × List Nat)}, (∀ g ∈ Gs, GateOk n g) → runS Gs = runM Gs
 | [], _ => rfl
 | g :: Gs, h => by
  funext x
  have hk := (h g (by simp)).kind
  have e : doneS g x = turnM x g.2 := by rw [doneS, if_neg (by omega)]
  show runS Gs (doneS g x) = runM Gs (turnM x g.2)
  rw [e, runS_M fun g' hg' => h g' (by simp [hg'])]
theorem OwnG.gs {N : Nat} {m : Mem} {v : Value} {cs : Array Value} {Gs : List (Nat × List Nat)} (h : OwnG N m v cs Gs) : GsAt m v (Gs.map gvM) := by
 have hsz := h.1.size
 by_cases h0 : Gs = []
 ·subst h0
  rcases h.1 with ⟨h1, _⟩ | ⟨b, cap, c, h1, h2, h3, h4, h5, h6⟩
  ·exact .inl ⟨rfl, .inl h1⟩
  ·exact .inr ⟨b, cap, true, c, h1, h3, fun i g hi => by cases hi⟩
 ·obtain ⟨b, cap, c, h1, h2, h3, h4, h5⟩ := h.1.at (List.length_pos_iff.2 h0)
  refine .inr ⟨b, cap, true, c, by rw [List.length_map]; exact h1, h3, fun i g hi => ?_⟩
  rw [List.getElem?_map, Option.map_eq_some_iff] at hi
  obtain ⟨g', hi, rfl⟩ := hi
  have hil := (List.getElem?_eq_some_iff.1 hi).1
  obtain ⟨s, e1, e2, e3, e4, ho, _⟩ := h.2 i g' hi
  exact ⟨s, by omega, quad_at (by rw [h5 _ (by omega)]; exact e1) (by rw [h5 _ (by omega)]; exact e2) (by rw [h5 _ (by omega)]; exact e3) (by rw [h5 _ (by omega)]; exact e4), ho.ints, ho.capOk⟩
theorem spec_TableW {m : Mem} {N n : Nat} {s : Value} {cs : Array Value} {Gs : List (Nat × List Nat)} (hC : GlobK m) (hG : OwnG N m s cs Gs) (hc : CircOk n Gs) : ∃ v m', ACalls Tryd.prog 41 #[.agg #[nv n, nv 0, s]] m v m' ∧ (∃ w, v = .tuple #[w, nv 0] ∧ OwnF m.size m' w (ofs (rtabM n Gs)) ∧ Ext m m') := by
 obtain ⟨v, m', h1, w, h2, h3, h4⟩ := spec_TableK (n := Int.ofNat n) (b := 0) hC hG.gs
 have h0 := circ8E_S hc.toS
 rw [h0] at h2
 rw [tabL, if_pos h0, gnM_all, rtabS, runS_M hc.all] at h3
 exact ⟨v, m', h1, w, h2, h3, h4⟩
theorem spec_ApplyW {m : Mem} {N n x : Nat} {s : Value} {cs : Array Value} {Gs : List (Nat × List Nat)} (hC : GlobK m) (hG : OwnG N m s cs Gs) (hc : CircOk n Gs) (hx : x < 2 ^ n) : ∃ v m', ACalls Tryd.prog 39 #[.agg #[nv n, nv 0, s], nv x] m v m' ∧ (v = .tuple #[nv (runM Gs x), nv 0] ∧ Ext m m') := by
 obtain ⟨v, m', h1, h2, h4⟩ := spec_ApplyK (n := Int.ofNat n) (b := 0) (x := Int.ofNat x) hC hG.gs
 have h0 := circ8E_S hc.toS
 have ha : appE (Int.ofNat n) 0 (Gs.map gvM) (Int.ofNat x) = 0 := by
  rw [appE, if_neg (by rw [h0]; simp), if_neg]
  show ¬ (Int.ofNat x < 0 ∨ Int.ofNat (2 ^ n) ≤ Int.ofNat x)
  simp only [Int.ofNat_eq_natCast]; omega
 rw [appV, ha, if_pos rfl, gnM_all, runS_M hc.all] at h2
 exact ⟨v, m', h1, h2, h4⟩
theorem mask_W {n : Nat} {Gs : List (Nat × List Nat)} {l : List Nat} (hc : CircOk n Gs) (hlt : ∀ y ∈ l, y < n) (hnd : l.Nodup) : maskE (Int.ofNat n) 0 (Gs.map gvM) (ofs l) = 0 ∧ maskV (Int.ofNat n) 0 (Gs.map gvM) (ofs l) = posM l := by
 have h : maskE (Int.ofNat n) 0 (Gs.map gvM) (ofs l) = 0 := by
  have h1 := maskE_ok (n' := n) (b' := 0) (circ8E_S hc.toS) hlt
  rw [if_pos hnd] at h1
  exact h1
 exact ⟨h, by rw [maskV, if_pos h, toNat_ofs]⟩
theorem spec_CleanXW {m : Mem} {N n : Nat} {s a : Value} {cs : Array Value} {Gs : List (Nat × List Nat)} {l : List Nat} (hC : GlobK m) (hG : OwnG N m s cs Gs) (hc : CircOk n Gs) (ha : IntsAt m a (ofs l)) (hlt : ∀ y ∈ l, y < n) (hnd : l.Nodup) : ∃ v m', ACalls Tryd.prog 46 #[.agg #[nv n, nv 0, s], a] m v m' ∧ (v = .tuple #[nv (foundN n (cleanS Gs (posM l))), nv (foundE n (cleanS Gs (posM l)))] ∧ Ext m m') := by
 have hll := nodup_le hnd hlt
 have h10 := hc.ten
 obtain ⟨v, m', h1, h2, h4⟩ := spec_CleanK (n := Int.ofNat n) (b := 0) hC hG.gs ha (by rw [ofs_length]; omega)
 obtain ⟨k1, k2⟩ := mask_W hc hlt hnd
 have e : cleanK Gs (posM l) = cleanS Gs (posM l) := by funext x; rw [cleanK, cleanS, runS_M hc.all]
 rw [cleV, cleE, if_neg (by rw [k1]; simp), if_neg (by rw [k1]; simp), gnM_all, k2, e] at h2
 exact ⟨v, m', h1, h2, h4⟩
theorem spec_BorrXW {m : Mem} {N n : Nat} {s a : Value} {cs : Array Value} {Gs : List (Nat × List Nat)} {l : List Nat} (hC : GlobK m) (hG : OwnG N m s cs Gs) (hc : CircOk n Gs) (ha : IntsAt m a (ofs l)) (hlt : ∀ y ∈ l, y < n) (hnd : l.Nodup) : ∃ v m', ACalls Tryd.prog 48 #[.agg #[nv n, nv 0, s], a] m v m' ∧ (v = .tuple #[nv (foundN n (borrS Gs (posM l))), nv (foundE n (borrS Gs (posM l)))] ∧ Ext m m') := by
 have hll := nodup_le hnd hlt
 have h10 := hc.ten
 obtain ⟨v, m', h1, h2, h4⟩ := spec_BorrK (n := Int.ofNat n) (b := 0) hC hG.gs ha (by rw [ofs_length]; omega)
 obtain ⟨k1, k2⟩ := mask_W hc hlt hnd
 have e : borrK Gs (posM l) = borrS Gs (posM l) := by funext x; rw [borrK, borrS, runS_M hc.all]
 rw [borV, borE, if_neg (by rw [k1]; simp), if_neg (by rw [k1]; simp), gnM_all, k2, e] at h2
 exact ⟨v, m', h1, h2, h4⟩
def H14w : Nat → List (Nat × Nat) := fun id => if id = 8 then [(999999, 0), (17, 0), (17, 5), (17, 20), (17, 21), (17, 23), (17, 25), (17, 26), (17, 27), (17, 28), (17, 44), (17, 45), (36, 0), (36, 5), (36, 6), (36, 20), (36, 21), (36, 23), (36, 25), (36, 26), (36, 27), (36, 44), (36, 45), (42, 0), (42, 5), (42, 6), (42, 20), (42, 21), (42, 23), (42, 25), (42, 26), (42, 27), (42, 44), (42, 45)] else []
theorem okf14k : okF Tryd.prog H14w 14 218 = true := by kernel_rfl
set_option maxHeartbeats 8000000 in
theorem spec_awakeK {m : Mem} (hC : GlobK m) (hW : GlobW m) : ∃ v m', ACalls Tryd.prog 14 #[] m v m' ∧ (v = .bool true ∧ Ext m m') := by
  refine wpF (args := []) mixed okf14k (fn := Tryd.f14) rfl rfl rfl (by simp) ?_
  refine cSeq ?_
  refine cRegion ?_
  refine sAs (v := .bool _) rfl ?_
  refine sNil (kSeqN ?_)
  refine cSeq ?_
  refine cRegion ?_
  refine sRow [0, 1] rfl (by decide) (by kernel_rfl) fun q19 m19 o19 x19 => ?_
  obtain ⟨v20, m20, h20, rfl, x20⟩ := spec_lgate (m := m19) (k := 9) (q := q19) (n := [0, 1].length) (c := [0, 1].length)
  refine sCall2 rfl call69 rfl rfl h20 ?_
  refine sGates [(9, .slice q19 [0, 1].length [0, 1].length, [0, 1])] (mem_cons (o19.ext x20) (mem_nil)) rfl (by decide) (by kernel_rfl) fun q21 m21 cs21 o21 x21 => ?_
  replace o21 : OwnG 0 m21 (.slice q21 1 1) cs21 [(9, [0, 1])] := o21
  obtain ⟨v22, m22, h22, rfl, x22⟩ := spec_lof (m := m21) (k := 2) (q := q21) (n := 1) (c := 1)
  refine sCall2 rfl call68 rfl rfl h22 ?_
  refine sAllocB (bl := m22.size) rfl Z30 (by kernel_rfl) ?_
  refine sStNAB rfl S30 rfl rfl rfl rfl (by kernel_rfl) ?_
  have xs1 : Ext m22 (m22.push (.cells true #[nv 2, nv 0, .slice q21 1 1])) := .push _ _
  have gs1 : Mem.get (m22.push (.cells true #[nv 2, nv 0, .slice q21 1 1])) m22.size = .cells true #[nv 2, nv 0, .slice q21 1 1] := gP rfl
  generalize m22.push (.cells true #[nv 2, nv 0, .slice q21 1 1]) = ms1 at *
  refine sNil (kSeqN ?_)
  refine cSeq ?_
  refine cRegion ?_
  refine sLdAll A30 S30 rfl gs1 rfl ?_
  obtain ⟨v25, m25, h25, w25, rfl, o25, x25⟩ := spec_TableW (hC.ext ((((x19.trans x20).trans x21).trans x22).trans xs1)) (o21.ext (x22.trans xs1)) c21
  rw [awT] at o25
  replace o25 := o25.mono (Nat.zero_le _)
  obtain ⟨q25, c25, rfl⟩ := o25.ints.lenN
  refine sCall1 rfl call41 rfl h25 ?_
  refine sMv (v := .tuple _) rfl ?_
  refine sP (v := .slice _ _ _) rfl ?_   -- extract ['t23', '0']
  refine sP (v := nv _) rfl ?_   -- extract ['t23', '1']
  refine sAs (v := .slice _ _ _) rfl ?_
  refine sAs (v := nv _) rfl ?_
  refine sNil (kSeqN ?_)
  refine cSeq ?_
  refine cRegion ?_
  refine sRow [0, 1, 2] rfl (by decide) (by kernel_rfl) fun q29 m29 o29 x29 => ?_
  obtain ⟨v30, m30, h30, rfl, x30⟩ := spec_lgate (m := m29) (k := 12) (q := q29) (n := [0, 1, 2].length) (c := [0, 1, 2].length)
  refine sCall2 rfl call69 rfl rfl h30 ?_
  refine sGates [(12, .slice q29 [0, 1, 2].length [0, 1, 2].length, [0, 1, 2])] (mem_cons (o29.ext x30) (mem_nil)) rfl (by decide) (by kernel_rfl) fun q31 m31 cs31 o31 x31 => ?_
  replace o31 : OwnG 0 m31 (.slice q31 1 1) cs31 [(12, [0, 1, 2])] := o31
  obtain ⟨v32, m32, h32, rfl, x32⟩ := spec_lof (m := m31) (k := 3) (q := q31) (n := 1) (c := 1)
  refine sCall2 rfl call68 rfl rfl h32 ?_
  obtain ⟨v33, m33, h33, rfl, x33⟩ := spec_ApplyW (hC.ext (((((((((x19.trans x20).trans x21).trans x22).trans xs1).trans x25).trans x29).trans x30).trans x31).trans x32)) (o31.ext x32) c31 (x := 3) (by decide)
  rw [awA] at h33
  refine sCall2 rfl call39 rfl rfl h33 ?_
  refine sMv (v := .tuple _) rfl ?_
  refine sP (v := nv _) rfl ?_   -- extract ['t28', '0']
  refine sP (v := nv _) rfl ?_   -- extract ['t28', '1']
  refine sAs (v := nv _) rfl ?_
  refine sAs (v := nv _) rfl ?_
  refine sNil (kSeqN ?_)
  refine cSeq ?_
  refine cRegion ?_
  refine sRow [0, 2, 1, 3] rfl (by decide) (by kernel_rfl) fun q37 m37 o37 x37 => ?_
  obtain ⟨v38, m38, h38, s38, cs38, rfl, o38, x38⟩ := spec_Circuit (p := (ofs [0, 2, 1, 3])) o37.ints (by decide)
  rw [awWE, awWN] at h38
  rw [awC] at o38
  replace o38 := o38.mono (Nat.zero_le _)
  obtain ⟨q38, c38, rfl⟩ := o38.1.len
  refine sCall1 rfl call18 rfl h38 ?_
  refine sMv (v := .tuple _) rfl ?_
  refine sP (v := .agg _) rfl ?_   -- extract ['t36', '0']
  refine sP (v := nv _) rfl ?_   -- extract ['t36', '1']
  refine sAllocB (bl := m38.size) rfl Z30 (by kernel_rfl) ?_
  refine sStNAB rfl S30 rfl rfl rfl rfl (by kernel_rfl) ?_
  have xs6 : Ext m38 (m38.push (.cells true #[nv 2, nv 0, .slice q38 3 c38])) := .push _ _
  have gs6 : Mem.get (m38.push (.cells true #[nv 2, nv 0, .slice q38 3 c38])) m38.size = .cells true #[nv 2, nv 0, .slice q38 3 c38] := gP rfl
  generalize m38.push (.cells true #[nv 2, nv 0, .slice q38 3 c38]) = ms6 at *
  refine sAs (v := nv _) rfl ?_
  refine sNil (kSeqN ?_)
  refine cSeq ?_
  refine cRegion ?_
  refine sRow [0, 2, 1, 3] rfl (by decide) (by kernel_rfl) fun q42 m42 o42 x42 => ?_
  obtain ⟨v43, m43, h43, w43, cs43, rfl, o43, x43⟩ := spec_Cycles (p := (ofs [0, 2, 1, 3])) o42.ints (by decide)
  rw [awWE] at h43
  rw [awY] at o43
  have r43 := o43.rows
  obtain ⟨b43, oo43, cp43, rr43, cd43, ee43, g43, xx43⟩ := r43.at (by decide)
  obtain ⟨s43, hs43, ha43⟩ := xx43 0 (ofs [1, 2]) rfl
  obtain ⟨q43, c43, rfl⟩ := ha43.lenN
  subst ee43
  refine sCall1 rfl call21 rfl h43 ?_
  refine sMv (v := .tuple _) rfl ?_
  refine sP (v := .slice _ _ _) rfl ?_   -- extract ['t41', '0']
  refine sP (v := nv _) rfl ?_   -- extract ['t41', '1']
  refine sAs (v := .slice _ _ _) rfl ?_
  refine sAs (v := nv _) rfl ?_
  refine sNil (kSeqN ?_)
  refine cSeq ?_
  refine cRegion ?_
  refine sRow [0, 2, 1, 3] rfl (by decide) (by kernel_rfl) fun q47 m47 o47 x47 => ?_
  obtain ⟨v48, m48, h48, rfl, x48⟩ := spec_Even (p := (ofs [0, 2, 1, 3])) o47.ints (by decide)
  rw [awEv, awWE] at h48
  refine sCall1 rfl call23 rfl h48 ?_
  refine sMv (v := .tuple _) rfl ?_
  refine sP (v := .bool _) rfl ?_   -- extract ['t46', '0']
  refine sP (v := nv _) rfl ?_   -- extract ['t46', '1']
  refine sAs (v := .bool _) rfl ?_
  refine sAs (v := nv _) rfl ?_
  refine sNil (kSeqN ?_)
  refine cSeq ?_
  refine cRegion ?_
  obtain ⟨v52, m52, h52, rfl, x52⟩ := spec_Count (m := m48) (w := 3) (g := 2)
  rw [awCn.1, awCn.2] at h52
  refine sCall2 rfl call35 rfl rfl h52 ?_
  refine sMv (v := .tuple _) rfl ?_
  refine sP (v := nv _) rfl ?_   -- extract ['t51', '0']
  refine sP (v := nv _) rfl ?_   -- extract ['t51', '1']
  refine sAs (v := nv _) rfl ?_
  refine sAs (v := nv _) rfl ?_
  refine sNil (kSeqN ?_)
  refine cSeq ?_   -- seq 8
  refine cSeq ?_
  refine cDrawH (hs := [(999999, 0), (17, 0), (17, 5), (17, 20), (17, 21), (17, 23), (17, 25), (17, 26), (17, 27), (17, 28), (17, 44), (17, 45), (36, 0), (36, 5), (36, 6), (36, 20), (36, 21), (36, 23), (36, 25), (36, 26), (36, 27), (36, 44), (36, 45), (42, 0), (42, 5), (42, 6), (42, 20), (42, 21), (42, 23), (42, 25), (42, 26), (42, 27), (42, 44), (42, 45)]) rfl (by decide) ?_
  refine lStepO (sMv (v := nv _) rfl (sNil fun e0 hm0 => ?_))
  refine lStepO (sBin (v := .bool false) (a := 0) (b := 0) rfl rfl (neqF rfl) (sNil fun e1 hm1 => ?_))
  refine lStepO (sMv (v := .bool false) rfl (sNil fun e2 hm2 => ?_))
  refine lG rfl rfl ?_
  refine lStepO (sMv (v := .slice _ _ _) rfl (sNil fun e3 hm3 => ?_))
  refine lG rfl rfl ?_
  refine lStepO (sRow [0, 3, 2, 1] rfl (by decide) (by kernel_rfl) fun q59 m59 o59 x59 => (sNil fun e4 hm4 => ?_))
  refine lG rfl rfl ?_
  have h60 := spec_Equal (o25.ints.ext (((((((((((((x29.trans x30).trans x31).trans x32).trans x33).trans x37).trans x38).trans xs6).trans x42).trans x43).trans x47).trans x48).trans x52).trans x59)) o59.ints (by decide)
  rw [decide_eq_true rfl] at h60
  refine lStepO (sCall2 rfl call28 rfl rfl h60 (sNil fun e5 hm5 => ?_))
  refine lG rfl rfl ?_
  refine lStepO (sP (v := .bool false) rfl (sNil fun e6 hm6 => ?_))
  refine lStepO (sP (v := .bool false) rfl (sNil fun e7 hm7 => ?_))
  refine lStepO (sMv (v := .bool false) rfl (sNil fun e8 hm8 => ?_))
  refine lG rfl rfl ?_
  refine lStepO (sMv (v := nv _) rfl (sNil fun e9 hm9 => ?_))
  refine lG rfl rfl ?_
  refine lStepO (sBin (v := .bool false) (a := 0) (b := 0) rfl rfl (neqF rfl) (sNil fun e10 hm10 => ?_))
  refine lStepO (sP (v := .bool false) rfl (sNil fun e11 hm11 => ?_))
  refine lStepO (sMv (v := .bool false) rfl (sNil fun e12 hm12 => ?_))
  refine lG rfl rfl ?_
  refine lStepO (sMv (v := nv _) rfl (sNil fun e13 hm13 => ?_))
  refine lG rfl rfl ?_
  refine lStepO (sBin (v := .bool false) (a := 7) (b := 7) rfl rfl (neqF rfl) (sNil fun e14 hm14 => ?_))
  refine lStepO (sP (v := .bool false) rfl (sNil fun e15 hm15 => ?_))
  refine lStepO (sMv (v := .bool false) rfl (sNil fun e16 hm16 => ?_))
  refine lG rfl rfl ?_
  refine lStepLdA A30 S30 rfl ((((((x42.trans x43).trans x47).trans x48).trans x52).trans x59).cells gs6) rfl fun e17 hm17 hv17 hr17 => ?_
  refine lG rfl rfl ?_
  refine lStepO (sMv (v := nv _) rfl (sNil fun e18 hm18 => ?_))
  refine lG rfl rfl ?_
  refine lStepO (sRow [1, 0] rfl (by decide) (by kernel_rfl) fun q74 m74 o74 x74 => (sNil fun e19 hm19 => ?_))
  refine lG rfl rfl ?_
  obtain ⟨v75, m75, h75, rfl, x75⟩ := spec_lgate (m := m74) (k := 9) (q := q74) (n := [1, 0].length) (c := [1, 0].length)
  refine lStepO (sCall2 rfl call69 rfl rfl h75 (sNil fun e20 hm20 => ?_))
  refine lG rfl rfl ?_
  refine lStepO (sRow [0, 1] rfl (by decide) (by kernel_rfl) fun q76 m76 o76 x76 => (sNil fun e21 hm21 => ?_))
  refine lG rfl rfl ?_
  obtain ⟨v77, m77, h77, rfl, x77⟩ := spec_lgate (m := m76) (k := 9) (q := q76) (n := [0, 1].length) (c := [0, 1].length)
  refine lStepO (sCall2 rfl call69 rfl rfl h77 (sNil fun e22 hm22 => ?_))
  refine lG rfl rfl ?_
  refine lStepO (sRow [1, 0] rfl (by decide) (by kernel_rfl) fun q78 m78 o78 x78 => (sNil fun e23 hm23 => ?_))
  refine lG rfl rfl ?_
  obtain ⟨v79, m79, h79, rfl, x79⟩ := spec_lgate (m := m78) (k := 9) (q := q78) (n := [1, 0].length) (c := [1, 0].length)
  refine lStepO (sCall2 rfl call69 rfl rfl h79 (sNil fun e24 hm24 => ?_))
  refine lG rfl rfl ?_
  refine lStepO (sGates [(9, .slice q74 [1, 0].length [1, 0].length, [1, 0]), (9, .slice q76 [0, 1].length [0, 1].length, [0, 1]), (9, .slice q78 [1, 0].length [1, 0].length, [1, 0])] (mem_cons (o74.ext ((((x75.trans x76).trans x77).trans x78).trans x79)) (mem_cons (o76.ext ((x77.trans x78).trans x79)) (mem_cons (o78.ext x79) (mem_nil)))) rfl (by decide) (by kernel_rfl) fun q80 m80 cs80 o80 x80 => (sNil fun e25 hm25 => ?_))
  replace o80 : OwnG 0 m80 (.slice q80 3 3) cs80 [(9, [1, 0]), (9, [0, 1]), (9, [1, 0])] := o80
  refine lG rfl rfl ?_
  obtain ⟨v81, m81, h81, rfl, x81⟩ := spec_lof (m := m80) (k := 2) (q := q80) (n := 3) (c := 3)
  refine lStepO (sCall2 rfl call68 rfl rfl h81 (sNil fun e26 hm26 => ?_))
  refine lG rfl rfl ?_
  obtain ⟨v82, m82, h82, rfl, x82⟩ := spec_known (W := 2) (B := 0) (W' := 2) (B' := 0) (er := 0) (o38.gates.ext ((((((((((((((xs6.trans x42).trans x43).trans x47).trans x48).trans x52).trans x59).trans x74).trans x75).trans x76).trans x77).trans x78).trans x79).trans x80).trans x81)) (o80.gates.ext x81) (by decide) (by decide)
  rw [show (decide ((0 : Nat) = 0) && decide (2 = 2 ∧ 0 = 0 ∧ [(9, [1, 0]), (9, [0, 1]), (9, [1, 0])].map gvM = [(9, [1, 0]), (9, [0, 1]), (9, [1, 0])].map gvM)) = true by simp] at h82
  refine lStepO (sCall3 rfl call70 rfl rfl rfl h82 (sNil fun e27 hm27 => ?_))
  refine lG rfl rfl ?_
  refine lStepO (sP (v := .bool false) rfl (sNil fun e28 hm28 => ?_))
  refine lStepO (sP (v := .bool false) rfl (sNil fun e29 hm29 => ?_))
  refine lStepO (sMv (v := .bool false) rfl (sNil fun e30 hm30 => ?_))
  refine lG rfl rfl ?_
  refine lStepO (sMv (v := nv _) rfl (sNil fun e31 hm31 => ?_))
  refine lG rfl rfl ?_
  refine lStepO (sBin (v := .bool false) (a := 0) (b := 0) rfl rfl (neqF rfl) (sNil fun e32 hm32 => ?_))
  refine lStepO (sP (v := .bool false) rfl (sNil fun e33 hm33 => ?_))
  refine lStepO (sMv (v := .bool false) rfl (sNil fun e34 hm34 => ?_))
  refine lG rfl rfl ?_
  refine lStepO (sMv (v := .slice _ _ _) rfl (sNil fun e35 hm35 => ?_))
  refine lG rfl rfl ?_
  refine lStepLen T34 rfl fun e36 hm36 hv36 hr36 => ?_
  refine lG rfl rfl ?_
  refine lStepO (sBin (v := .bool false) (a := 1) (b := 1) rfl rfl (neqF rfl) (sNil fun e37 hm37 => ?_))
  refine lStepO (sP (v := .bool false) rfl (sNil fun e38 hm38 => ?_))
  refine lStepO (sMv (v := .bool false) rfl (sNil fun e39 hm39 => ?_))
  refine lG rfl rfl ?_
  refine lStepO (sMv (v := .slice _ _ _) rfl (sNil fun e40 hm40 => ?_))
  refine lG rfl rfl ?_
  refine lStepO (sIx T34 S22 rfl rfl (show 0 < (ofs2 [[1, 2]]).length by decide) (sNil fun e41 hm41 => ?_))
  refine lG rfl rfl ?_
  refine lStepLd (v := .slice q43 [1, 2].length c43) A22 rfl (((((((((((((x47.trans x48).trans x52).trans x59).trans x74).trans x75).trans x76).trans x77).trans x78).trans x79).trans x80).trans x81).trans x82).cells g43) hs43 fun e42 hm42 hv42 hr42 => ?_
  refine lG rfl rfl ?_
  refine lStepO (sRow [1, 2] rfl (by decide) (by kernel_rfl) fun q98 m98 o98 x98 => (sNil fun e43 hm43 => ?_))
  refine lG rfl rfl ?_
  have h99 := spec_Equal (ha43.ext (((((((((((((x47.trans x48).trans x52).trans x59).trans x74).trans x75).trans x76).trans x77).trans x78).trans x79).trans x80).trans x81).trans x82).trans x98)) o98.ints (by decide)
  rw [decide_eq_true rfl] at h99
  refine lStepO (sCall2 rfl call28 rfl rfl h99 (sNil fun e44 hm44 => ?_))
  refine lG rfl rfl ?_
  refine lStepO (sP (v := .bool false) rfl (sNil fun e45 hm45 => ?_))
  refine lStepO (sP (v := .bool false) rfl (sNil fun e46 hm46 => ?_))
  refine lStepO (sMv (v := .bool false) rfl (sNil fun e47 hm47 => ?_))
  refine lG rfl rfl ?_
  refine lStepO (sMv (v := nv _) rfl (sNil fun e48 hm48 => ?_))
  refine lG rfl rfl ?_
  refine lStepO (sBin (v := .bool false) (a := 0) (b := 0) rfl rfl (neqF rfl) (sNil fun e49 hm49 => ?_))
  refine lStepO (sP (v := .bool false) rfl (sNil fun e50 hm50 => ?_))
  refine lStepO (sMv (v := .bool false) rfl (sNil fun e51 hm51 => ?_))
  refine lG rfl rfl ?_
  refine lStepO (sMv (v := .bool false) rfl (sNil fun e52 hm52 => ?_))
  refine lStepO (sP (v := .bool false) rfl (sNil fun e53 hm53 => ?_))
  refine lStepO (sMv (v := .bool false) rfl (sNil fun e54 hm54 => ?_))
  refine lG rfl rfl ?_
  refine lStepO (sMv (v := nv _) rfl (sNil fun e55 hm55 => ?_))
  refine lG rfl rfl ?_
  refine lStepO (sBin (v := .bool false) (a := 0) (b := 0) rfl rfl (neqF rfl) (sNil fun e56 hm56 => ?_))
  refine lStepO (sP (v := .bool false) rfl (sNil fun e57 hm57 => ?_))
  refine lStepO (sMv (v := .bool false) rfl (sNil fun e58 hm58 => ?_))
  refine lG rfl rfl ?_
  refine lStepO (sMv (v := nv _) rfl (sNil fun e59 hm59 => ?_))
  refine lG rfl rfl ?_
  refine lStepO (sBin (v := .bool false) (a := 102) (b := 102) rfl rfl (neqF rfl) (sNil fun e60 hm60 => ?_))
  refine lStepO (sP (v := .bool false) rfl (sNil fun e61 hm61 => ?_))
  refine ⟨?_, (kSeqN ?_)⟩
  ·
    refine obl_fl (by simp) ?_
    refine obl3 (m0 := m52) (e17 := e17) (e36 := e36) (e42 := e42) ?_ ((((((((((x59.trans x74).trans x75).trans x76).trans x77).trans x78).trans x79).trans x80).trans x81).trans x82).trans x98) (by kernel_rfl) rfl (by kernel_rfl) rfl (by kernel_rfl) rfl (fun M hM => (hr17 M _ (hM.cells (((((x42.trans x43).trans x47).trans x48).trans x52).cells gs6))).trans (congrArg some hv17.symm)) (by rw [hv36]; exact hr36) (fun M hM => (hr42 M _ _ (hM.cells (((x47.trans x48).trans x52).cells g43)) hs43).trans (congrArg some hv42.symm)) (by decide)
    refine allS ?_ (by rw [hm61]; exact ((((((((((x59.trans x74).trans x75).trans x76).trans x77).trans x78).trans x79).trans x80).trans x81).trans x82).trans x98))
    refine allS ?_ (by rw [hm60]; exact ((((((((((x59.trans x74).trans x75).trans x76).trans x77).trans x78).trans x79).trans x80).trans x81).trans x82).trans x98))
    refine allS ?_ (by rw [hm59]; exact ((((((((((x59.trans x74).trans x75).trans x76).trans x77).trans x78).trans x79).trans x80).trans x81).trans x82).trans x98))
    refine allS ?_ (by rw [hm58]; exact ((((((((((x59.trans x74).trans x75).trans x76).trans x77).trans x78).trans x79).trans x80).trans x81).trans x82).trans x98))
    refine allS ?_ (by rw [hm57]; exact ((((((((((x59.trans x74).trans x75).trans x76).trans x77).trans x78).trans x79).trans x80).trans x81).trans x82).trans x98))
    refine allS ?_ (by rw [hm56]; exact ((((((((((x59.trans x74).trans x75).trans x76).trans x77).trans x78).trans x79).trans x80).trans x81).trans x82).trans x98))
    refine allS ?_ (by rw [hm55]; exact ((((((((((x59.trans x74).trans x75).trans x76).trans x77).trans x78).trans x79).trans x80).trans x81).trans x82).trans x98))
    refine allS ?_ (by rw [hm54]; exact ((((((((((x59.trans x74).trans x75).trans x76).trans x77).trans x78).trans x79).trans x80).trans x81).trans x82).trans x98))
    refine allS ?_ (by rw [hm53]; exact ((((((((((x59.trans x74).trans x75).trans x76).trans x77).trans x78).trans x79).trans x80).trans x81).trans x82).trans x98))
    refine allS ?_ (by rw [hm52]; exact ((((((((((x59.trans x74).trans x75).trans x76).trans x77).trans x78).trans x79).trans x80).trans x81).trans x82).trans x98))
    refine allS ?_ (by rw [hm51]; exact ((((((((((x59.trans x74).trans x75).trans x76).trans x77).trans x78).trans x79).trans x80).trans x81).trans x82).trans x98))
    refine allS ?_ (by rw [hm50]; exact ((((((((((x59.trans x74).trans x75).trans x76).trans x77).trans x78).trans x79).trans x80).trans x81).trans x82).trans x98))
    refine allS ?_ (by rw [hm49]; exact ((((((((((x59.trans x74).trans x75).trans x76).trans x77).trans x78).trans x79).trans x80).trans x81).trans x82).trans x98))
    refine allS ?_ (by rw [hm48]; exact ((((((((((x59.trans x74).trans x75).trans x76).trans x77).trans x78).trans x79).trans x80).trans x81).trans x82).trans x98))
    refine allS ?_ (by rw [hm47]; exact ((((((((((x59.trans x74).trans x75).trans x76).trans x77).trans x78).trans x79).trans x80).trans x81).trans x82).trans x98))
    refine allS ?_ (by rw [hm46]; exact ((((((((((x59.trans x74).trans x75).trans x76).trans x77).trans x78).trans x79).trans x80).trans x81).trans x82).trans x98))
    refine allS ?_ (by rw [hm45]; exact ((((((((((x59.trans x74).trans x75).trans x76).trans x77).trans x78).trans x79).trans x80).trans x81).trans x82).trans x98))
    refine allS ?_ (by rw [hm44]; exact ((((((((((x59.trans x74).trans x75).trans x76).trans x77).trans x78).trans x79).trans x80).trans x81).trans x82).trans x98))
    refine allS ?_ (by rw [hm43]; exact (((((((((x59.trans x74).trans x75).trans x76).trans x77).trans x78).trans x79).trans x80).trans x81).trans x82))
    refine allS ?_ (by rw [hm42]; exact (((((((((x59.trans x74).trans x75).trans x76).trans x77).trans x78).trans x79).trans x80).trans x81).trans x82))
    refine allS ?_ (by rw [hm41]; exact (((((((((x59.trans x74).trans x75).trans x76).trans x77).trans x78).trans x79).trans x80).trans x81).trans x82))
    refine allS ?_ (by rw [hm40]; exact (((((((((x59.trans x74).trans x75).trans x76).trans x77).trans x78).trans x79).trans x80).trans x81).trans x82))
    refine allS ?_ (by rw [hm39]; exact (((((((((x59.trans x74).trans x75).trans x76).trans x77).trans x78).trans x79).trans x80).trans x81).trans x82))
    refine allS ?_ (by rw [hm38]; exact (((((((((x59.trans x74).trans x75).trans x76).trans x77).trans x78).trans x79).trans x80).trans x81).trans x82))
    refine allS ?_ (by rw [hm37]; exact (((((((((x59.trans x74).trans x75).trans x76).trans x77).trans x78).trans x79).trans x80).trans x81).trans x82))
    refine allS ?_ (by rw [hm36]; exact (((((((((x59.trans x74).trans x75).trans x76).trans x77).trans x78).trans x79).trans x80).trans x81).trans x82))
    refine allS ?_ (by rw [hm35]; exact (((((((((x59.trans x74).trans x75).trans x76).trans x77).trans x78).trans x79).trans x80).trans x81).trans x82))
    refine allS ?_ (by rw [hm34]; exact (((((((((x59.trans x74).trans x75).trans x76).trans x77).trans x78).trans x79).trans x80).trans x81).trans x82))
    refine allS ?_ (by rw [hm33]; exact (((((((((x59.trans x74).trans x75).trans x76).trans x77).trans x78).trans x79).trans x80).trans x81).trans x82))
    refine allS ?_ (by rw [hm32]; exact (((((((((x59.trans x74).trans x75).trans x76).trans x77).trans x78).trans x79).trans x80).trans x81).trans x82))
    refine allS ?_ (by rw [hm31]; exact (((((((((x59.trans x74).trans x75).trans x76).trans x77).trans x78).trans x79).trans x80).trans x81).trans x82))
    refine allS ?_ (by rw [hm30]; exact (((((((((x59.trans x74).trans x75).trans x76).trans x77).trans x78).trans x79).trans x80).trans x81).trans x82))
    refine allS ?_ (by rw [hm29]; exact (((((((((x59.trans x74).trans x75).trans x76).trans x77).trans x78).trans x79).trans x80).trans x81).trans x82))
    refine allS ?_ (by rw [hm28]; exact (((((((((x59.trans x74).trans x75).trans x76).trans x77).trans x78).trans x79).trans x80).trans x81).trans x82))
    refine allS ?_ (by rw [hm27]; exact ((((((((x59.trans x74).trans x75).trans x76).trans x77).trans x78).trans x79).trans x80).trans x81))
    refine allS ?_ (by rw [hm26]; exact (((((((x59.trans x74).trans x75).trans x76).trans x77).trans x78).trans x79).trans x80))
    refine allS ?_ (by rw [hm25]; exact ((((((x59.trans x74).trans x75).trans x76).trans x77).trans x78).trans x79))
    refine allS ?_ (by rw [hm24]; exact (((((x59.trans x74).trans x75).trans x76).trans x77).trans x78))
    refine allS ?_ (by rw [hm23]; exact ((((x59.trans x74).trans x75).trans x76).trans x77))
    refine allS ?_ (by rw [hm22]; exact (((x59.trans x74).trans x75).trans x76))
    refine allS ?_ (by rw [hm21]; exact ((x59.trans x74).trans x75))
    refine allS ?_ (by rw [hm20]; exact (x59.trans x74))
    refine allS ?_ (by rw [hm19]; exact x59)
    refine allS ?_ (by rw [hm18]; exact x59)
    refine allS ?_ (by rw [hm17]; exact x59)
    refine allS ?_ (by rw [hm16]; exact x59)
    refine allS ?_ (by rw [hm15]; exact x59)
    refine allS ?_ (by rw [hm14]; exact x59)
    refine allS ?_ (by rw [hm13]; exact x59)
    refine allS ?_ (by rw [hm12]; exact x59)
    refine allS ?_ (by rw [hm11]; exact x59)
    refine allS ?_ (by rw [hm10]; exact x59)
    refine allS ?_ (by rw [hm9]; exact x59)
    refine allS ?_ (by rw [hm8]; exact x59)
    refine allS ?_ (by rw [hm7]; exact x59)
    refine allS ?_ (by rw [hm6]; exact x59)
    refine allS ?_ (by rw [hm5]; exact x59)
    refine allS ?_ (by rw [hm4]; exact .refl _)
    refine allS ?_ (by rw [hm3]; exact .refl _)
    refine allS ?_ (by rw [hm2]; exact .refl _)
    refine allS ?_ (by rw [hm1]; exact .refl _)
    refine allS ?_ (by rw [hm0]; exact .refl _)
    exact fun e h => by cases h
  refine cCondF rfl ?_
  refine cSkip (kSeqN ?_)
  refine cSeq ?_
  refine cRegion ?_
  refine sRow [0, 2, 1, 3] rfl (by decide) (by kernel_rfl) fun q118 m118 o118 x118 => ?_
  obtain ⟨v119, m119, h119, s119, cs119, rfl, o119, x119⟩ := spec_Shortest (p := (ofs [0, 2, 1, 3])) (most := 2) o118.ints (by decide)
  rw [awS2, awS2n] at h119
  obtain ⟨q119, c119, rfl⟩ := o119.1.len
  refine sCall2 rfl call29 rfl rfl h119 ?_
  refine sMv (v := .tuple _) rfl ?_
  refine sP (v := .agg _) rfl ?_   -- extract ['t117', '0']
  refine sP (v := nv _) rfl ?_   -- extract ['t117', '1']
  refine sAs (v := nv _) rfl ?_
  refine sNil (kSeqN ?_)
  refine cSeq ?_
  refine cRegion ?_
  refine sRow [0, 2, 1, 3] rfl (by decide) (by kernel_rfl) fun q123 m123 o123 x123 => ?_
  obtain ⟨v124, m124, h124, s124, cs124, rfl, o124, x124⟩ := spec_Shortest (p := (ofs [0, 2, 1, 3])) (most := 3) o123.ints (by decide)
  rw [awS3, awS3n] at h124
  obtain ⟨q124, c124, rfl⟩ := o124.1.len
  rw [awS3l] at h124
  refine sCall2 rfl call29 rfl rfl h124 ?_
  refine sMv (v := .tuple _) rfl ?_
  refine sP (v := .agg _) rfl ?_   -- extract ['t122', '0']
  refine sP (v := nv _) rfl ?_   -- extract ['t122', '1']
  refine sAllocB (bl := m124.size) rfl Z30 (by kernel_rfl) ?_
  refine sStNAB rfl S30 rfl rfl rfl rfl (by kernel_rfl) ?_
  have xs14 : Ext m124 (m124.push (.cells true #[nv 2, nv 0, .slice q124 3 c124])) := .push _ _
  have gs14 : Mem.get (m124.push (.cells true #[nv 2, nv 0, .slice q124 3 c124])) m124.size = .cells true #[nv 2, nv 0, .slice q124 3 c124] := gP rfl
  generalize m124.push (.cells true #[nv 2, nv 0, .slice q124 3 c124]) = ms14 at *
  refine sAs (v := nv _) rfl ?_
  refine sNil (kSeqN ?_)
  refine cSeq ?_
  refine cRegion ?_
  have yA := ((((((((((((((((((((((((((((((((((x19.trans x20).trans x21).trans x22).trans xs1).trans x25).trans x29).trans x30).trans x31).trans x32).trans x33).trans x37).trans x38).trans xs6).trans x42).trans x43).trans x47).trans x48).trans x52).trans x59).trans x74).trans x75).trans x76).trans x77).trans x78).trans x79).trans x80).trans x81).trans x82).trans x98).trans x118).trans x119).trans x123).trans x124).trans xs14)
  obtain ⟨v128, m128, h128, rfl, x128⟩ := spec_lvar (m := ms14) (k := 0)
  refine sCall1 rfl call72 rfl h128 ?_
  obtain ⟨v129, m129, h129, rfl, x129⟩ := spec_lvar (m := m128) (k := 1)
  refine sCall1 rfl call72 rfl h129 ?_
  refine sBuildS (c := #[nv 1, nv 0, .slice none 0 0, nv 1, nv 1, .slice none 0 0]) T64 S66 Z66 (by decide) (by decide) (by decide) (by kernel_rfl) (by kernel_rfl) rfl ?_
  have x130 : Ext m129 (m129.push (.cells true #[nv 1, nv 0, .slice none 0 0, nv 1, nv 1, .slice none 0 0])) := .push _ _
  have g130 : Mem.get (m129.push (.cells true #[nv 1, nv 0, .slice none 0 0, nv 1, nv 1, .slice none 0 0])) m129.size = .cells true #[nv 1, nv 0, .slice none 0 0, nv 1, nv 1, .slice none 0 0] := gP rfl
  generalize m129.push (.cells true #[nv 1, nv 0, .slice none 0 0, nv 1, nv 1, .slice none 0 0]) = m130 at *
  obtain ⟨v131, m131, h131, rfl, x131⟩ := spec_lmade (m := m130) (k := 5) (q := some ⟨m129.size, 0, some 3⟩) (n := 2) (c := 2)
  refine sCall2 rfl call71 rfl rfl h131 ?_
  obtain ⟨v132, m132, h132, s132, cs132, rfl, o132, x132⟩ := spec_Compile 2 2 (hW.ext ((((yA.trans x128).trans x129).trans x130).trans x131)) (orAt (x131.cells g130)) (by decide)
  rw [awPE, awPN] at h132
  rw [awPG] at o132
  replace o132 := o132.mono (Nat.zero_le _)
  obtain ⟨q132, c132, rfl⟩ := o132.1.len
  refine sCall2 rfl call55 rfl rfl h132 ?_
  refine sMv (v := .tuple _) rfl ?_
  refine sP (v := .agg _) rfl ?_   -- extract ['t127', '0']
  refine sP (v := nv _) rfl ?_   -- extract ['t127', '1']
  refine sAllocB (bl := m132.size) rfl Z30 (by kernel_rfl) ?_
  refine sStNAB rfl S30 rfl rfl rfl rfl (by kernel_rfl) ?_
  have xs15 : Ext m132 (m132.push (.cells true #[nv 5, nv 0, .slice q132 10 c132])) := .push _ _
  have gs15 : Mem.get (m132.push (.cells true #[nv 5, nv 0, .slice q132 10 c132])) m132.size = .cells true #[nv 5, nv 0, .slice q132 10 c132] := gP rfl
  generalize m132.push (.cells true #[nv 5, nv 0, .slice q132 10 c132]) = ms15 at *
  refine sAs (v := nv _) rfl ?_
  refine sNil (kSeqN ?_)
  refine cSeq ?_
  refine cRegion ?_
  refine sRow [0, 3] rfl (by decide) (by kernel_rfl) fun q135 m135 o135 x135 => ?_
  obtain ⟨v136, m136, h136, rfl, x136⟩ := spec_lgate (m := m135) (k := 9) (q := q135) (n := [0, 3].length) (c := [0, 3].length)
  refine sCall2 rfl call69 rfl rfl h136 ?_
  refine sRow [3] rfl (by decide) (by kernel_rfl) fun q137 m137 o137 x137 => ?_
  obtain ⟨v138, m138, h138, rfl, x138⟩ := spec_lgate (m := m137) (k := 1) (q := q137) (n := [3].length) (c := [3].length)
  refine sCall2 rfl call69 rfl rfl h138 ?_
  refine sRow [1, 4] rfl (by decide) (by kernel_rfl) fun q139 m139 o139 x139 => ?_
  obtain ⟨v140, m140, h140, rfl, x140⟩ := spec_lgate (m := m139) (k := 9) (q := q139) (n := [1, 4].length) (c := [1, 4].length)
  refine sCall2 rfl call69 rfl rfl h140 ?_
  refine sRow [4] rfl (by decide) (by kernel_rfl) fun q141 m141 o141 x141 => ?_
  obtain ⟨v142, m142, h142, rfl, x142⟩ := spec_lgate (m := m141) (k := 1) (q := q141) (n := [4].length) (c := [4].length)
  refine sCall2 rfl call69 rfl rfl h142 ?_
  refine sRow [3, 4, 2] rfl (by decide) (by kernel_rfl) fun q143 m143 o143 x143 => ?_
  obtain ⟨v144, m144, h144, rfl, x144⟩ := spec_lgate (m := m143) (k := 12) (q := q143) (n := [3, 4, 2].length) (c := [3, 4, 2].length)
  refine sCall2 rfl call69 rfl rfl h144 ?_
  refine sRow [4] rfl (by decide) (by kernel_rfl) fun q145 m145 o145 x145 => ?_
  obtain ⟨v146, m146, h146, rfl, x146⟩ := spec_lgate (m := m145) (k := 1) (q := q145) (n := [4].length) (c := [4].length)
  refine sCall2 rfl call69 rfl rfl h146 ?_
  refine sRow [1, 4] rfl (by decide) (by kernel_rfl) fun q147 m147 o147 x147 => ?_
  obtain ⟨v148, m148, h148, rfl, x148⟩ := spec_lgate (m := m147) (k := 9) (q := q147) (n := [1, 4].length) (c := [1, 4].length)
  refine sCall2 rfl call69 rfl rfl h148 ?_
  refine sRow [3] rfl (by decide) (by kernel_rfl) fun q149 m149 o149 x149 => ?_
  obtain ⟨v150, m150, h150, rfl, x150⟩ := spec_lgate (m := m149) (k := 1) (q := q149) (n := [3].length) (c := [3].length)
  refine sCall2 rfl call69 rfl rfl h150 ?_
  refine sRow [0, 3] rfl (by decide) (by kernel_rfl) fun q151 m151 o151 x151 => ?_
  obtain ⟨v152, m152, h152, rfl, x152⟩ := spec_lgate (m := m151) (k := 9) (q := q151) (n := [0, 3].length) (c := [0, 3].length)
  refine sCall2 rfl call69 rfl rfl h152 ?_
  refine sRow [2] rfl (by decide) (by kernel_rfl) fun q153 m153 o153 x153 => ?_
  obtain ⟨v154, m154, h154, rfl, x154⟩ := spec_lgate (m := m153) (k := 1) (q := q153) (n := [2].length) (c := [2].length)
  refine sCall2 rfl call69 rfl rfl h154 ?_
  refine sGates [(9, .slice q135 [0, 3].length [0, 3].length, [0, 3]), (1, .slice q137 [3].length [3].length, [3]), (9, .slice q139 [1, 4].length [1, 4].length, [1, 4]), (1, .slice q141 [4].length [4].length, [4]), (12, .slice q143 [3, 4, 2].length [3, 4, 2].length, [3, 4, 2]), (1, .slice q145 [4].length [4].length, [4]), (9, .slice q147 [1, 4].length [1, 4].length, [1, 4]), (1, .slice q149 [3].length [3].length, [3]), (9, .slice q151 [0, 3].length [0, 3].length, [0, 3]), (1, .slice q153 [2].length [2].length, [2])] (mem_cons (o135.ext ((((((((((((((((((x136.trans x137).trans x138).trans x139).trans x140).trans x141).trans x142).trans x143).trans x144).trans x145).trans x146).trans x147).trans x148).trans x149).trans x150).trans x151).trans x152).trans x153).trans x154)) (mem_cons (o137.ext ((((((((((((((((x138.trans x139).trans x140).trans x141).trans x142).trans x143).trans x144).trans x145).trans x146).trans x147).trans x148).trans x149).trans x150).trans x151).trans x152).trans x153).trans x154)) (mem_cons (o139.ext ((((((((((((((x140.trans x141).trans x142).trans x143).trans x144).trans x145).trans x146).trans x147).trans x148).trans x149).trans x150).trans x151).trans x152).trans x153).trans x154)) (mem_cons (o141.ext ((((((((((((x142.trans x143).trans x144).trans x145).trans x146).trans x147).trans x148).trans x149).trans x150).trans x151).trans x152).trans x153).trans x154)) (mem_cons (o143.ext ((((((((((x144.trans x145).trans x146).trans x147).trans x148).trans x149).trans x150).trans x151).trans x152).trans x153).trans x154)) (mem_cons (o145.ext ((((((((x146.trans x147).trans x148).trans x149).trans x150).trans x151).trans x152).trans x153).trans x154)) (mem_cons (o147.ext ((((((x148.trans x149).trans x150).trans x151).trans x152).trans x153).trans x154)) (mem_cons (o149.ext ((((x150.trans x151).trans x152).trans x153).trans x154)) (mem_cons (o151.ext ((x152.trans x153).trans x154)) (mem_cons (o153.ext x154) (mem_nil))))))))))) rfl (by decide) (by kernel_rfl) fun q155 m155 cs155 o155 x155 => ?_
  replace o155 : OwnG 0 m155 (.slice q155 10 10) cs155 [(9, [0, 3]), (1, [3]), (9, [1, 4]), (1, [4]), (12, [3, 4, 2]), (1, [4]), (9, [1, 4]), (1, [3]), (9, [0, 3]), (1, [2])] := o155
  obtain ⟨v156, m156, h156, rfl, x156⟩ := spec_lof (m := m155) (k := 5) (q := q155) (n := 10) (c := 10)
  refine sCall2 rfl call68 rfl rfl h156 ?_
  refine sAllocB (bl := m156.size) rfl Z30 (by kernel_rfl) ?_
  refine sStNAB rfl S30 rfl rfl rfl rfl (by kernel_rfl) ?_
  have xs16 : Ext m156 (m156.push (.cells true #[nv 5, nv 0, .slice q155 10 10])) := .push _ _
  have gs16 : Mem.get (m156.push (.cells true #[nv 5, nv 0, .slice q155 10 10])) m156.size = .cells true #[nv 5, nv 0, .slice q155 10 10] := gP rfl
  generalize m156.push (.cells true #[nv 5, nv 0, .slice q155 10 10]) = ms16 at *
  refine sNil (kSeqN ?_)
  refine cSeq ?_
  refine cRegion ?_
  refine sLdAll A30 S30 rfl (((((((((((((((((((((((((((((((((((((((((((((((((((((((((((x25.trans x29).trans x30).trans x31).trans x32).trans x33).trans x37).trans x38).trans xs6).trans x42).trans x43).trans x47).trans x48).trans x52).trans x59).trans x74).trans x75).trans x76).trans x77).trans x78).trans x79).trans x80).trans x81).trans x82).trans x98).trans x118).trans x119).trans x123).trans x124).trans xs14).trans x128).trans x129).trans x130).trans x131).trans x132).trans xs15).trans x135).trans x136).trans x137).trans x138).trans x139).trans x140).trans x141).trans x142).trans x143).trans x144).trans x145).trans x146).trans x147).trans x148).trans x149).trans x150).trans x151).trans x152).trans x153).trans x154).trans x155).trans x156).trans xs16).cells gs1) rfl ?_
  refine sRow [1] rfl (by decide) (by kernel_rfl) fun q159 m159 o159 x159 => ?_
  obtain ⟨v160, m160, h160, rfl, x160⟩ := spec_CleanXW (hC.ext ((((((((((((((((((((((((((((((yA.trans x128).trans x129).trans x130).trans x131).trans x132).trans xs15).trans x135).trans x136).trans x137).trans x138).trans x139).trans x140).trans x141).trans x142).trans x143).trans x144).trans x145).trans x146).trans x147).trans x148).trans x149).trans x150).trans x151).trans x152).trans x153).trans x154).trans x155).trans x156).trans xs16).trans x159)) (o21.ext (((((((((((((((((((((((((((((((((((((((((((((((((((((((((((((x22.trans xs1).trans x25).trans x29).trans x30).trans x31).trans x32).trans x33).trans x37).trans x38).trans xs6).trans x42).trans x43).trans x47).trans x48).trans x52).trans x59).trans x74).trans x75).trans x76).trans x77).trans x78).trans x79).trans x80).trans x81).trans x82).trans x98).trans x118).trans x119).trans x123).trans x124).trans xs14).trans x128).trans x129).trans x130).trans x131).trans x132).trans xs15).trans x135).trans x136).trans x137).trans x138).trans x139).trans x140).trans x141).trans x142).trans x143).trans x144).trans x145).trans x146).trans x147).trans x148).trans x149).trans x150).trans x151).trans x152).trans x153).trans x154).trans x155).trans x156).trans xs16).trans x159)) c21 o159.ints (by decide) (by decide)
  rw [awF1n, awF1e] at h160
  refine sCall2 rfl call46 rfl rfl h160 ?_
  refine sMv (v := .tuple _) rfl ?_
  refine sP (v := nv _) rfl ?_   -- extract ['t157', '0']
  refine sP (v := nv _) rfl ?_   -- extract ['t157', '1']
  refine sAs (v := nv _) rfl ?_
  refine sAs (v := nv _) rfl ?_
  refine sNil (kSeqN ?_)
  refine cSeq ?_
  refine cRegion ?_
  refine sLdAll A30 S30 rfl (((((((((((((((((((((((((((((((((((((((((((((((((((((((((((((x25.trans x29).trans x30).trans x31).trans x32).trans x33).trans x37).trans x38).trans xs6).trans x42).trans x43).trans x47).trans x48).trans x52).trans x59).trans x74).trans x75).trans x76).trans x77).trans x78).trans x79).trans x80).trans x81).trans x82).trans x98).trans x118).trans x119).trans x123).trans x124).trans xs14).trans x128).trans x129).trans x130).trans x131).trans x132).trans xs15).trans x135).trans x136).trans x137).trans x138).trans x139).trans x140).trans x141).trans x142).trans x143).trans x144).trans x145).trans x146).trans x147).trans x148).trans x149).trans x150).trans x151).trans x152).trans x153).trans x154).trans x155).trans x156).trans xs16).trans x159).trans x160).cells gs1) rfl ?_
  refine sRow [0] rfl (by decide) (by kernel_rfl) fun q165 m165 o165 x165 => ?_
  obtain ⟨v166, m166, h166, rfl, x166⟩ := spec_BorrXW (hC.ext ((((((((((((((((((((((((((((((((yA.trans x128).trans x129).trans x130).trans x131).trans x132).trans xs15).trans x135).trans x136).trans x137).trans x138).trans x139).trans x140).trans x141).trans x142).trans x143).trans x144).trans x145).trans x146).trans x147).trans x148).trans x149).trans x150).trans x151).trans x152).trans x153).trans x154).trans x155).trans x156).trans xs16).trans x159).trans x160).trans x165)) (o21.ext (((((((((((((((((((((((((((((((((((((((((((((((((((((((((((((((x22.trans xs1).trans x25).trans x29).trans x30).trans x31).trans x32).trans x33).trans x37).trans x38).trans xs6).trans x42).trans x43).trans x47).trans x48).trans x52).trans x59).trans x74).trans x75).trans x76).trans x77).trans x78).trans x79).trans x80).trans x81).trans x82).trans x98).trans x118).trans x119).trans x123).trans x124).trans xs14).trans x128).trans x129).trans x130).trans x131).trans x132).trans xs15).trans x135).trans x136).trans x137).trans x138).trans x139).trans x140).trans x141).trans x142).trans x143).trans x144).trans x145).trans x146).trans x147).trans x148).trans x149).trans x150).trans x151).trans x152).trans x153).trans x154).trans x155).trans x156).trans xs16).trans x159).trans x160).trans x165)) c21 o165.ints (by decide) (by decide)
  rw [awF2n, awF2e] at h166
  refine sCall2 rfl call48 rfl rfl h166 ?_
  refine sMv (v := .tuple _) rfl ?_
  refine sP (v := nv _) rfl ?_   -- extract ['t163', '0']
  refine sP (v := nv _) rfl ?_   -- extract ['t163', '1']
  refine sAs (v := nv _) rfl ?_
  refine sAs (v := nv _) rfl ?_
  refine sNil (kSeqN ?_)
  refine cSeq ?_
  refine cRegion ?_
  refine sRow [0, 1] rfl (by decide) (by kernel_rfl) fun q170 m170 o170 x170 => ?_
  obtain ⟨v171, m171, h171, rfl, x171⟩ := spec_lgate (m := m170) (k := 9) (q := q170) (n := [0, 1].length) (c := [0, 1].length)
  refine sCall2 rfl call69 rfl rfl h171 ?_
  refine sRow [0, 1] rfl (by decide) (by kernel_rfl) fun q172 m172 o172 x172 => ?_
  obtain ⟨v173, m173, h173, rfl, x173⟩ := spec_lgate (m := m172) (k := 9) (q := q172) (n := [0, 1].length) (c := [0, 1].length)
  refine sCall2 rfl call69 rfl rfl h173 ?_
  refine sGates [(9, .slice q170 [0, 1].length [0, 1].length, [0, 1]), (9, .slice q172 [0, 1].length [0, 1].length, [0, 1])] (mem_cons (o170.ext ((x171.trans x172).trans x173)) (mem_cons (o172.ext x173) (mem_nil))) rfl (by decide) (by kernel_rfl) fun q174 m174 cs174 o174 x174 => ?_
  replace o174 : OwnG 0 m174 (.slice q174 2 2) cs174 [(9, [0, 1]), (9, [0, 1])] := o174
  obtain ⟨v175, m175, h175, rfl, x175⟩ := spec_lof (m := m174) (k := 2) (q := q174) (n := 2) (c := 2)
  refine sCall2 rfl call68 rfl rfl h175 ?_
  refine sRow [0] rfl (by decide) (by kernel_rfl) fun q176 m176 o176 x176 => ?_
  obtain ⟨v177, m177, h177, rfl, x177⟩ := spec_BorrXW (hC.ext ((((((((((((((((((((((((((((((((((((((((yA.trans x128).trans x129).trans x130).trans x131).trans x132).trans xs15).trans x135).trans x136).trans x137).trans x138).trans x139).trans x140).trans x141).trans x142).trans x143).trans x144).trans x145).trans x146).trans x147).trans x148).trans x149).trans x150).trans x151).trans x152).trans x153).trans x154).trans x155).trans x156).trans xs16).trans x159).trans x160).trans x165).trans x166).trans x170).trans x171).trans x172).trans x173).trans x174).trans x175).trans x176)) (o174.ext (x175.trans x176)) c174 o176.ints (by decide) (by decide)
  rw [awF3n, awF3e] at h177
  refine sCall2 rfl call48 rfl rfl h177 ?_
  refine sMv (v := .tuple _) rfl ?_
  refine sP (v := nv _) rfl ?_   -- extract ['t169', '0']
  refine sP (v := nv _) rfl ?_   -- extract ['t169', '1']
  refine sAs (v := nv _) rfl ?_
  refine sNil (kSeqN ?_)
  refine cSeq ?_
  refine cRegion ?_
  refine sMv (v := nv _) rfl ?_
  refine sBin (v := .bool true) (a := 6) (b := 6) rfl rfl (eqlT rfl) ?_
  refine sMv (v := .bool true) rfl ?_
  refine sG rfl rfl ?_
  refine sMv (v := nv _) rfl ?_
  refine sG rfl rfl ?_
  refine sBin (v := .bool true) (a := 0) (b := 0) rfl rfl (eqlT rfl) ?_
  refine sP (v := .bool true) rfl ?_
  refine sMv (v := .bool true) rfl ?_
  refine sG rfl rfl ?_
  refine sFA F30_2 rfl ?_
  refine sG rfl rfl ?_
  refine sLd (v := .slice q124 3 c124) A28 rfl (((((((((((((((((((((((((((((((((((((((((x128.trans x129).trans x130).trans x131).trans x132).trans xs15).trans x135).trans x136).trans x137).trans x138).trans x139).trans x140).trans x141).trans x142).trans x143).trans x144).trans x145).trans x146).trans x147).trans x148).trans x149).trans x150).trans x151).trans x152).trans x153).trans x154).trans x155).trans x156).trans xs16).trans x159).trans x160).trans x165).trans x166).trans x170).trans x171).trans x172).trans x173).trans x174).trans x175).trans x176).trans x177).cells gs14) rfl ?_
  refine sG rfl rfl ?_
  refine sLen T28 rfl ?_
  refine sG rfl rfl ?_
  refine sBin (v := .bool true) (a := 3) (b := 3) rfl rfl (eqlT rfl) ?_
  refine sP (v := .bool true) rfl ?_
  refine sMv (v := .bool true) rfl ?_
  refine sG rfl rfl ?_
  refine sLdAll A30 S30 rfl (((((((((((((((((((((((((((((((((((x135.trans x136).trans x137).trans x138).trans x139).trans x140).trans x141).trans x142).trans x143).trans x144).trans x145).trans x146).trans x147).trans x148).trans x149).trans x150).trans x151).trans x152).trans x153).trans x154).trans x155).trans x156).trans xs16).trans x159).trans x160).trans x165).trans x166).trans x170).trans x171).trans x172).trans x173).trans x174).trans x175).trans x176).trans x177).cells gs15) rfl ?_
  refine sG rfl rfl ?_
  refine sMv (v := nv _) rfl ?_
  refine sG rfl rfl ?_
  refine sLdAll A30 S30 rfl ((((((((((((x159.trans x160).trans x165).trans x166).trans x170).trans x171).trans x172).trans x173).trans x174).trans x175).trans x176).trans x177).cells gs16) rfl ?_
  refine sG rfl rfl ?_
  obtain ⟨v196, m196, h196, rfl, x196⟩ := spec_known (W := 5) (B := 0) (W' := 5) (B' := 0) (er := 0) (o132.gates.ext (((((((((((((((((((((((((((((((((((xs15.trans x135).trans x136).trans x137).trans x138).trans x139).trans x140).trans x141).trans x142).trans x143).trans x144).trans x145).trans x146).trans x147).trans x148).trans x149).trans x150).trans x151).trans x152).trans x153).trans x154).trans x155).trans x156).trans xs16).trans x159).trans x160).trans x165).trans x166).trans x170).trans x171).trans x172).trans x173).trans x174).trans x175).trans x176).trans x177)) (o155.gates.ext (((((((((((((x156.trans xs16).trans x159).trans x160).trans x165).trans x166).trans x170).trans x171).trans x172).trans x173).trans x174).trans x175).trans x176).trans x177)) (by decide) (by decide)
  rw [show (decide ((0 : Nat) = 0) && decide (5 = 5 ∧ 0 = 0 ∧ [(9, [0, 3]), (1, [3]), (9, [1, 4]), (1, [4]), (12, [3, 4, 2]), (1, [4]), (9, [1, 4]), (1, [3]), (9, [0, 3]), (1, [2])].map gvM = [(9, [0, 3]), (1, [3]), (9, [1, 4]), (1, [4]), (12, [3, 4, 2]), (1, [4]), (9, [1, 4]), (1, [3]), (9, [0, 3]), (1, [2])].map gvM)) = true by simp] at h196
  refine sCall3 rfl call70 rfl rfl rfl h196 ?_
  refine sP (v := .bool true) rfl ?_
  refine sMv (v := .bool true) rfl ?_
  refine sG rfl rfl ?_
  refine sMv (v := nv _) rfl ?_
  refine sG rfl rfl ?_
  refine sBin (v := .bool true) (a := 0) (b := 0) rfl rfl (eqlT rfl) ?_
  refine sP (v := .bool true) rfl ?_
  refine sMv (v := .bool true) rfl ?_
  refine sG rfl rfl ?_
  refine sMv (v := nv _) rfl ?_
  refine sG rfl rfl ?_
  refine sBin (v := .bool true) (a := 1) (b := 1) rfl rfl (eqlT rfl) ?_
  refine sP (v := .bool true) rfl ?_
  refine sMv (v := .bool true) rfl ?_
  refine sG rfl rfl ?_
  refine sMv (v := nv _) rfl ?_
  refine sG rfl rfl ?_
  refine sBin (v := .bool true) (a := 0) (b := 0) rfl rfl (eqlT rfl) ?_
  refine sP (v := .bool true) rfl ?_
  refine sMv (v := .bool true) rfl ?_
  refine sG rfl rfl ?_
  refine sMv (v := nv _) rfl ?_
  refine sG rfl rfl ?_
  refine sBin (v := .bool true) (a := 1) (b := 1) rfl rfl (eqlT rfl) ?_
  refine sP (v := .bool true) rfl ?_
  refine sMv (v := .bool true) rfl ?_
  refine sG rfl rfl ?_
  refine sMv (v := nv _) rfl ?_
  refine sG rfl rfl ?_
  refine sBin (v := .bool true) (a := 6) (b := 6) rfl rfl (eqlT rfl) ?_
  refine sP (v := .bool true) rfl ?_
  refine sAs (v := .bool _) rfl ?_
  refine sNil (kSeqN ?_)
  refine cRet ?_
  exact ⟨.inr rfl, _, rfl, rfl, ((((((((((((((((((((((((((((((((((((((((((yA.trans x128).trans x129).trans x130).trans x131).trans x132).trans xs15).trans x135).trans x136).trans x137).trans x138).trans x139).trans x140).trans x141).trans x142).trans x143).trans x144).trans x145).trans x146).trans x147).trans x148).trans x149).trans x150).trans x151).trans x152).trans x153).trans x154).trans x155).trans x156).trans xs16).trans x159).trans x160).trans x165).trans x166).trans x170).trans x171).trans x172).trans x173).trans x174).trans x175).trans x176).trans x177).trans x196)⟩
end Go.AM

/-! R72 -/
namespace Go.AM
open Go.Proofs
theorem eqlN2 (k : Nat) : aInt .eql .i64 (Int.ofNat k) (Int.ofNat k) = some (.bool true) := eqlT rfl
theorem keep_facts (n b : Int) (Gs : List GateV) (l : List Int) : (keepG n b Gs l).length ≤ 200000 ∧ ∀ g ∈ keepG n b Gs l, g.2.length ≤ 3 := by
 unfold keepG
 by_cases h : keepE n b Gs l = 0
 ·rw [if_pos h]
  have h0 : circ8E n b Gs = 0 := by
   unfold keepE at h
   split at h
   ·rename_i hh; exact absurd h hh
   ·rename_i hh; exact Classical.byContradiction hh
  obtain ⟨n', b', Gs', rfl, rfl, rfl, hc⟩ := circ8_nat h0
  have hfew := hc.few
  have hl : l.length ≤ 120 := by
   have h1 := h
   unfold keepE at h1
   rw [if_neg (by rw [h0]; simp)] at h1
   split at h1
   ·cases h1
   split at h1
   ·cases h1
   split at h1
   ·cases h1
   ·omega
  rw [gnM_all]
  refine ⟨by simp [keepG0, keepM]; omega, fun g hg => ?_⟩
  rw [keepG0] at hg
  rcases List.mem_append.1 hg with hg | hg
  ·rcases List.mem_append.1 hg with hg | hg
   ·have := (hc.all g hg).kind; omega
   ·obtain ⟨i, _, rfl⟩ := List.mem_map.1 hg
    show 2 ≤ 3; decide
  ·have := (hc.all g (List.mem_reverse.1 hg)).kind; omega
 ·rw [if_neg h]
  exact ⟨Nat.zero_le _, fun g hg => by cases hg⟩
theorem okf7 : okF Tryd.prog H0 7 112 = true := by kernel_rfl
theorem spec_LeavesLaw {m : Mem} {s a : Value} {n b : Int} {Gs : List GateV} {l : List Int} (hK : GlobK m) (hW : GlobW m) (hG : GsAt m s Gs) (ha : IntsAt m a l) : ∃ v' m', ACalls Tryd.prog 7 #[.agg #[.int .i64 n, .int .i64 b, s], a] m v' m' ∧ (v' = .bool true ∧ Ext m m') := by
 obtain ⟨q, cap, rfl⟩ := hG.len
 obtain ⟨ql, cl, rfl⟩ := ha.len
 refine wpF (args := [_, _]) mixed okf7 (fn := Tryd.f7) rfl rfl rfl (by simp) ?_
 refine cSR ?_
 refine sBox (v := .agg _) rfl ?_
 change wpOps _ _ _ _ _ (m.push (.cells true #[.int .i64 n, .int .i64 b, .slice q Gs.length cap]))
 have eqs : Ext m (m.push (.cells true #[.int .i64 n, .int .i64 b, .slice q Gs.length cap])) := .push _ _
 have g2 : Mem.get (m.push (.cells true #[.int .i64 n, .int .i64 b, .slice q Gs.length cap])) m.size = .cells true #[.int .i64 n, .int .i64 b, .slice q Gs.length cap] := gP rfl
 generalize (m.push (.cells true #[.int .i64 n, .int .i64 b, .slice q Gs.length cap])) = m1 at *
 refine sAb rfl ?_
 refine sN ?_
 refine cSeq ?_
 refine cCut (fun ρ M => Ext m1 M ∧ Has ρ [(1, .slice ql l.length cl), (2, .pointer (some ⟨m.size, 0, none⟩)), (26, .bool (decide (greatC Gs = true ∨ 20 < l.length)))]) ?_ ?_
 ·
  refine cRegion ?_
  refine sLdAll A30 S30 rfl g2 rfl ?_
  obtain ⟨v21, m21, h21, rfl, e21⟩ := spec_GreatC (n := n) (b := b) (hG.ext eqs)
  refine sCall1 rfl call37 rfl h21 ?_
  refine sMv (v := .bool (greatC Gs)) rfl ?_
  by_cases q1 : greatC Gs = true
  ·
   rw [q1]
   refine sGT rfl rfl ?_
   refine sGT rfl rfl ?_
   refine sGT rfl rfl ?_
   refine sPb rfl ?_
   refine sN ?_
   exact ⟨e21, rfl, rfl, by show Value.bool true = Value.bool _; simp, trivial⟩
  ·
   rw [Bool.eq_false_iff.2 q1]
   refine sG rfl rfl ?_
   refine sMv (v := .slice ql l.length cl) rfl ?_
   refine sG rfl rfl ?_
   refine sLen T22 rfl ?_
   refine sG rfl rfl ?_
   refine sBin (a := l.length) (b := 20) rfl rfl aInt_gtr ?_
   refine sPb rfl ?_
   refine sN ?_
   exact ⟨e21, rfl, rfl, by show Value.bool (decide (20 < l.length)) = Value.bool _; simp, trivial⟩
 rintro ρ M ⟨xM, hh⟩
 rw [hh.env]; clear hh
 replace g2 := xM.cells g2
 replace eqs := eqs.trans xM
 refine cCond (p := greatC Gs = true ∨ 20 < l.length) rfl (fun c0 => ?_) (fun c0 => ?_)
 ·
  refine cSR ?_
  obtain ⟨v27, m27, h27, rfl, e27⟩ := spec_awakeK (hK.ext eqs) (hW.ext eqs)
  refine sCall0 rfl call14 h27 ?_
  refine sAb rfl ?_
  refine sN ?_
  refine cRet (kSeqR ?_)
  exact ⟨.inr rfl, _, rfl, rfl, eqs.trans e27⟩
 ·
  obtain ⟨hl1, hw1⟩ := greatC_no (fun h => c0 (.inl h))
  have hl20 : l.length ≤ 20 := by
   refine Nat.le_of_not_lt fun h => c0 (.inr h)
  clear c0
  refine cSkip (kSeqN ?_)
  refine cSR ?_
  refine sLdAll A30 S30 rfl g2 rfl ?_
  obtain ⟨v29, m29, h29, sw, csw, rfl, ow, x29⟩ := spec_OwnK (n := n) (b := b) (hG.ext eqs) (by omega) (fun g hg => by have := hw1 g hg; omega)
  refine sCall1 rfl call38 rfl h29 ?_
  refine sMv (v := .slice ql l.length cl) rfl ?_
  obtain ⟨v31, m31, h31, oi, x31⟩ := spec_Clone ((ha.ext eqs).ext x29) (by omega)
  obtain ⟨qi, ci, rfl⟩ := oi.ints.len
  refine sCall1 rfl call15 rfl h31 ?_
  obtain ⟨qw, cw, rfl⟩ := ow.1.len
  refine sAllocB (bl := m31.size) rfl Z30 (by kernel_rfl) ?_
  refine sStNAB rfl S30 rfl rfl rfl rfl (by kernel_rfl) ?_
  have x5 : Ext m31 (m31.push (.cells true #[.int .i64 n, .int .i64 b, .slice qw Gs.length cw])) := .push _ _
  have g5 : Mem.get (m31.push (.cells true #[.int .i64 n, .int .i64 b, .slice qw Gs.length cw])) m31.size = .cells true #[.int .i64 n, .int .i64 b, .slice qw Gs.length cw] := gP rfl
  have ga := (ow.ext (x31.trans x5)).gs
  have il := oi.ints.ext x5
  generalize (m31.push (.cells true #[.int .i64 n, .int .i64 b, .slice qw Gs.length cw])) = m5 at *
  replace eqs := eqs.trans ((x29.trans x31).trans x5)
  replace g2 := ((x29.trans x31).trans x5).cells g2
  refine sAs (v := .slice _ _ _) rfl ?_
  refine sN ?_
  refine cSR ?_
  refine sLdAll A30 S30 rfl g5 rfl ?_
  refine sMv (v := .slice qi l.length ci) rfl ?_
  obtain ⟨v35, m35, h35, rfl, x35⟩ := spec_CleanK (n := n) (b := b) (hK.ext eqs) ga il (by omega)
  refine sCall2 rfl call46 rfl rfl h35 ?_
  replace eqs := eqs.trans x35
  replace g2 := x35.cells g2
  replace g5 := x35.cells g5
  replace ga := ga.ext x35
  replace il := il.ext x35
  refine sMv (v := .tuple _) rfl ?_
  refine sP (v := nv _) rfl ?_
  refine sP (v := nv _) rfl ?_
  refine sAn rfl ?_
  refine sAn rfl ?_
  refine sN ?_
  refine cSR ?_
  refine sLdAll A30 S30 rfl g2 rfl ?_
  refine sMv (v := .slice ql l.length cl) rfl ?_
  obtain ⟨v41, m41, h41, rfl, x41⟩ := spec_rCleanK (n := n) (b := b) (hG.ext eqs) (ha.ext eqs) (by omega)
  refine sCall2 rfl call47 rfl rfl h41 ?_
  replace eqs := eqs.trans x41
  replace g2 := x41.cells g2
  replace g5 := x41.cells g5
  replace ga := ga.ext x41
  replace il := il.ext x41
  refine sMv (v := .tuple _) rfl ?_
  refine sP (v := nv _) rfl ?_
  refine sP (v := nv _) rfl ?_
  refine sAn rfl ?_
  refine sAn rfl ?_
  refine sN ?_
  refine cSR ?_
  refine sLdAll A30 S30 rfl g5 rfl ?_
  refine sMv (v := .slice qi l.length ci) rfl ?_
  obtain ⟨v47, m47, h47, rfl, x47⟩ := spec_BorrK (n := n) (b := b) (hK.ext eqs) ga il (by omega)
  refine sCall2 rfl call48 rfl rfl h47 ?_
  replace eqs := eqs.trans x47
  replace g2 := x47.cells g2
  replace g5 := x47.cells g5
  replace ga := ga.ext x47
  replace il := il.ext x47
  refine sMv (v := .tuple _) rfl ?_
  refine sP (v := nv _) rfl ?_
  refine sP (v := nv _) rfl ?_
  refine sAn rfl ?_
  refine sAn rfl ?_
  refine sN ?_
  refine cSR ?_
  refine sLdAll A30 S30 rfl g2 rfl ?_
  refine sMv (v := .slice ql l.length cl) rfl ?_
  obtain ⟨v53, m53, h53, rfl, x53⟩ := spec_rBorrK (n := n) (b := b) (hG.ext eqs) (ha.ext eqs) (by omega)
  refine sCall2 rfl call49 rfl rfl h53 ?_
  replace eqs := eqs.trans x53
  replace g2 := x53.cells g2
  replace g5 := x53.cells g5
  replace ga := ga.ext x53
  replace il := il.ext x53
  refine sMv (v := .tuple _) rfl ?_
  refine sP (v := nv _) rfl ?_
  refine sP (v := nv _) rfl ?_
  refine sAn rfl ?_
  refine sAn rfl ?_
  refine sN ?_
  refine cSR ?_
  refine sLdAll A30 S30 rfl g5 rfl ?_
  refine sMv (v := .slice qi l.length ci) rfl ?_
  obtain ⟨v59, m59, h59, s59, cs59, rfl, o59, x59⟩ := spec_Keep (n := n) (b := b) (hK.ext eqs) ga il (by omega)
  obtain ⟨q59, c59, rfl⟩ := o59.1.len
  refine sCall2 rfl call50 rfl rfl h59 ?_
  refine sMv (v := .tuple _) rfl ?_
  refine sP (v := .agg _) rfl ?_
  refine sP (v := nv _) rfl ?_
  refine sAllocB (bl := m59.size) rfl Z30 (by kernel_rfl) ?_
  refine sStNAB rfl S30 rfl rfl rfl rfl (by kernel_rfl) ?_
  have x15 : Ext m59 (m59.push (.cells true #[nv (keepW n b Gs l), nv (keepB n b Gs l), .slice q59 (keepG n b Gs l).length c59])) := .push _ _
  have g15 : Mem.get (m59.push (.cells true #[nv (keepW n b Gs l), nv (keepB n b Gs l), .slice q59 (keepG n b Gs l).length c59])) m59.size = .cells true #[nv (keepW n b Gs l), nv (keepB n b Gs l), .slice q59 (keepG n b Gs l).length c59] := gP rfl
  generalize (m59.push (.cells true #[nv (keepW n b Gs l), nv (keepB n b Gs l), .slice q59 (keepG n b Gs l).length c59])) = m15 at *
  have y15 := x59.trans x15
  refine sAn rfl ?_
  refine sN ?_
  refine cSR ?_
  refine sLdAll A30 S30 rfl (y15.cells g2) rfl ?_
  refine sMv (v := .slice ql l.length cl) rfl ?_
  obtain ⟨v65, m65, h65, s65, cs65, rfl, o65, x65⟩ := spec_rKeep (n := n) (b := b) (hG.ext (eqs.trans y15)) (ha.ext (eqs.trans y15)) (by omega)
  obtain ⟨q65, c65, rfl⟩ := o65.1.len
  refine sCall2 rfl call51 rfl rfl h65 ?_
  refine sMv (v := .tuple _) rfl ?_
  refine sP (v := .agg _) rfl ?_
  refine sP (v := nv _) rfl ?_
  refine sAllocB (bl := m65.size) rfl Z30 (by kernel_rfl) ?_
  refine sStNAB rfl S30 rfl rfl rfl rfl (by kernel_rfl) ?_
  have x17 : Ext m65 (m65.push (.cells true #[nv (keepW n b Gs l), nv (keepB n b Gs l), .slice q65 (keepG n b Gs l).length c65])) := .push _ _
  have g17 : Mem.get (m65.push (.cells true #[nv (keepW n b Gs l), nv (keepB n b Gs l), .slice q65 (keepG n b Gs l).length c65])) m65.size = .cells true #[nv (keepW n b Gs l), nv (keepB n b Gs l), .slice q65 (keepG n b Gs l).length c65] := gP rfl
  generalize (m65.push (.cells true #[nv (keepW n b Gs l), nv (keepB n b Gs l), .slice q65 (keepG n b Gs l).length c65])) = m17 at *
  have y17 := x65.trans x17
  refine sAn rfl ?_
  refine sN ?_
  refine cSR ?_
  refine sMn rfl ?_
  refine sMn rfl ?_
  refine sBin (v := .bool true) (a := cleV n b Gs l) (b := cleV n b Gs l) rfl rfl (eqlN2 _) ?_
  refine sMv (v := .bool true) rfl ?_
  refine sG rfl rfl ?_
  refine sMn rfl ?_
  refine sG rfl rfl ?_
  refine sMn rfl ?_
  refine sG rfl rfl ?_
  refine sBin (v := .bool true) (a := cleE n b Gs l) (b := cleE n b Gs l) rfl rfl (eqlN2 _) ?_
  refine sP (v := .bool true) rfl ?_
  refine sMv (v := .bool true) rfl ?_
  refine sG rfl rfl ?_
  refine sMn rfl ?_
  refine sG rfl rfl ?_
  refine sMn rfl ?_
  refine sG rfl rfl ?_
  refine sBin (v := .bool true) (a := borV n b Gs l) (b := borV n b Gs l) rfl rfl (eqlN2 _) ?_
  refine sP (v := .bool true) rfl ?_
  refine sMv (v := .bool true) rfl ?_
  refine sG rfl rfl ?_
  refine sMn rfl ?_
  refine sG rfl rfl ?_
  refine sMn rfl ?_
  refine sG rfl rfl ?_
  refine sBin (v := .bool true) (a := borE n b Gs l) (b := borE n b Gs l) rfl rfl (eqlN2 _) ?_
  refine sP (v := .bool true) rfl ?_
  refine sMv (v := .bool true) rfl ?_
  refine sG rfl rfl ?_
  refine sLdAll A30 S30 rfl (y17.cells g15) rfl ?_
  refine sG rfl rfl ?_
  refine sLdAll A30 S30 rfl g17 rfl ?_
  refine sG rfl rfl ?_
  obtain ⟨hkl, hk3⟩ := keep_facts n b Gs l
  obtain ⟨v89, m89, h89, rfl, x89⟩ := spec_Same (W := keepW n b Gs l) (B := keepB n b Gs l) (W' := keepW n b Gs l) (B' := keepB n b Gs l) (o59.gates.ext (x15.trans y17)) (o65.gates.ext x17) (by rw [List.length_map]; omega) (fun g hg => by
   obtain ⟨g', hg', rfl⟩ := List.mem_map.1 hg
   have := hk3 g' hg'
   show (ofs g'.2).length < _
   rw [ofs_length]; omega)
  rw [decide_eq_true ⟨rfl, rfl, rfl⟩] at h89
  refine sCall2 rfl call20 rfl rfl h89 ?_
  refine sP (v := .bool true) rfl ?_
  refine sMv (v := .bool true) rfl ?_
  refine sG rfl rfl ?_
  refine sMn rfl ?_
  refine sG rfl rfl ?_
  refine sMn rfl ?_
  refine sG rfl rfl ?_
  refine sBin (v := .bool true) (a := keepE n b Gs l) (b := keepE n b Gs l) rfl rfl (eqlN2 _) ?_
  refine sP (v := .bool true) rfl ?_
  refine sAs (v := .bool true) rfl ?_
  refine sN ?_
  refine cSR ?_
  refine sLdAll A30 S30 rfl ((y17.trans x89).cells g15) rfl ?_
  have E89 : Ext m59 m89 := (x15.trans y17).trans x89
  obtain ⟨w97, m97, h97, z97, k97⟩ := spec_SpoilW (W := keepW n b Gs l) (B := keepB n b Gs l) o59 E89 x59.1 (by omega)
  refine sCall1 rfl call26 rfl h97 ?_
  have zz := x59.1
  have zE := E89.1
  have x97 : Ext m53 m97 := ⟨by omega, fun b hb => by rw [k97 b (by omega) (.inl hb)]; exact (x59.trans E89).2 b hb⟩
  replace eqs := eqs.trans x97
  replace g2 := x97.cells g2
  replace g5 := x97.cells g5
  replace ga := ga.ext x97
  replace il := il.ext x97
  refine sN ?_
  refine cSR ?_
  refine sMv (v := .bool true) rfl ?_
  refine sMv (v := .bool true) rfl ?_
  refine sG rfl rfl ?_
  refine sLdAll A30 S30 rfl g5 rfl ?_
  refine sG rfl rfl ?_
  refine sLdAll A30 S30 rfl g2 rfl ?_
  refine sG rfl rfl ?_
  obtain ⟨v102, m102, h102, rfl, x102⟩ := spec_kSameK (W := n) (B := b) (W' := n) (B' := b) ga (hG.ext eqs) (by omega) (fun g hg => by have := hw1 g hg; omega)
  rw [decide_eq_true ⟨rfl, rfl, rfl⟩] at h102
  refine sCall2 rfl call20 rfl rfl h102 ?_
  replace eqs := eqs.trans x102
  replace g2 := x102.cells g2
  replace g5 := x102.cells g5
  replace ga := ga.ext x102
  replace il := il.ext x102
  refine sP (v := .bool true) rfl ?_
  refine sMv (v := .bool true) rfl ?_
  refine sG rfl rfl ?_
  refine sMv (v := .slice qi l.length ci) rfl ?_
  refine sG rfl rfl ?_
  refine sMv (v := .slice ql l.length cl) rfl ?_
  refine sG rfl rfl ?_
  have h107 := spec_Equal il (ha.ext eqs) (by omega)
  rw [decide_eq_true rfl] at h107
  refine sCall2 rfl call28 rfl rfl h107 ?_
  refine sP (v := .bool true) rfl ?_
  refine sMv (v := .bool true) rfl ?_
  refine sG rfl rfl ?_
  obtain ⟨v110, m110, h110, rfl, x110⟩ := spec_awakeK (hK.ext eqs) (hW.ext eqs)
  refine sCall0 rfl call14 h110 ?_
  refine sP (v := .bool true) rfl ?_
  refine sAb rfl ?_
  refine sN ?_
  refine cRet ?_
  exact ⟨.inr rfl, _, rfl, rfl, eqs.trans x110⟩
end Go.AM

/-! F50 -/
namespace Go.AM
open Go.Proofs Go.Proofs.YtdokoekgdeebpaaDoor Go.ChangeShapes
theorem gSize : Tryd.prog.globals.size = 3 := by kernel_rfl
theorem u4 : Tryd.prog.underlying 4 = some .bool := by kernel_rfl
theorem var_block {P : Program} {w : World} {n : String} {g : Nat} {cs : Array Value} (hg : P.globalNamed n = some g) (h : w.var? P n = some cs) : ∃ t fz, w.heap[g]? = some (.cells cs t fz) := by
 simp only [World.var?, hg, Option.bind_some] at h
 split at h
 ·rename_i c t fz e
  injection h with h; subst h
  exact ⟨t, fz, e⟩
 ·cases h
theorem gCla : Tryd.prog.globalNamed "spoondrift/rev.classical" = some 1 := by kernel_rfl
theorem tCla : (Tryd.prog.globals[1]?).map (·.type) = some 129 := by kernel_rfl
theorem u3 : Tryd.prog.underlying 3 = some (.int .i64) := by kernel_rfl
theorem u98 : Tryd.prog.underlying 98 = some (.func #[3, 22] #[3] false) := by kernel_rfl
theorem u127 : Tryd.prog.underlying 127 = some (.struct #[{ name := "controls", type := 3, offset := 0, embedded := false, tag := "", pkgPath := "spoondrift/rev", byteOffset := 0 }, { name := "does", type := 98, offset := 1, embedded := false, tag := "", pkgPath := "spoondrift/rev", byteOffset := 8 }]) := by kernel_rfl
theorem u129 : Tryd.prog.underlying 129 = some (.map 3 127) := by kernel_rfl
theorem hc3 : Tryd.prog.cellsOf 3 = 1 := by kernel_rfl
theorem hc98 : Tryd.prog.cellsOf 98 = 1 := by kernel_rfl
theorem hc127 : Tryd.prog.cellsOf 127 = 2 := by kernel_rfl
def tokT : List UInt8 := [115, 112, 111, 111, 110, 100, 114, 105, 102, 116, 47, 114, 101, 118, 46, 116, 117, 114, 110, 101, 100]
def tokS : List UInt8 := [115, 112, 111, 111, 110, 100, 114, 105, 102, 116, 47, 114, 101, 118, 46, 115, 119, 97, 112, 112, 101, 100]
theorem oneT : ((List.range Tryd.prog.funcs.size).filter fun f => (Tryd.prog.funcs[f]?).any (·.name.toUTF8.data.toList == tokT)) = [76] := by kernel_rfl
theorem oneS : ((List.range Tryd.prog.funcs.size).filter fun f => (Tryd.prog.funcs[f]?).any (·.name.toUTF8.data.toList == tokS)) = [181] := by kernel_rfl
/-- A kind's entry: how many controls, what it does. -/
theorem entry_kind {w : World} {n : Nat} {c : Int} {q : FuncId} {tk : List UInt8} (ht : (tk = tokT ∧ q = 76) ∨ (tk = tokS ∧ q = 181)) {cs : List Value} {y : DataW (List UInt8) × List MemPlace}
  (h : DataW.trod (funcToken Tryd.prog) Tryd.prog w 0 (fun _ => true) true n 127 cs = some y) (hy : y.1 = .agg [.lit (.int .i64 c), .held tk]) : cs = [.int .i64 c, .func (.func q) #[] #[]] := by
 obtain ⟨xs, m, rfl, hx, hl, hn, hel⟩ := DataW.trod_struct u127 h
 have h0 := hel 0 _ rfl
 have h1 := hel 1 _ rfl
 rw [hx] at hy
 simp only [DataW.agg.injEq] at hy
 rw [hc127] at hl
 match cs, hl with
 | [a, b], _ =>
  match xs, hn, hy, h0, h1 with
  | [e0, e1], _, hy, h0, h1 =>
   simp only [List.map_cons, List.map_nil, List.cons.injEq, and_true] at hy
   have h2 : DataW.trod (funcToken Tryd.prog) Tryd.prog w 0 (fun _ => true) true m 3 [a] = some (.lit (.int .i64 c), e0.2) := by
    rw [← hy.1]; simpa [hc3] using h0
   have h3 : DataW.trod (funcToken Tryd.prog) Tryd.prog w 0 (fun _ => true) true m 98 [b] = some (.held tk, e1.2) := by
    rw [← hy.2]; simpa [hc98] using h1
   have hb : b = .func (.func q) #[] #[] := by
    rcases ht with ⟨rfl, rfl⟩ | ⟨rfl, rfl⟩
    ·exact func_of_trod u98 oneT h3
    ·exact func_of_trod u98 oneS h3
   subst hb
   cases m with
   | zero => simp [DataW.trod] at h2
   | succ m =>
    rw [DataW.trod_step] at h2
    unfold DataW.trodStep at h2
    rw [u3] at h2
    cases a <;> simp at h2
    simp_all
def claD : DataW Unit := .map [(.int .i64 1, .agg [.lit (.int .i64 0), .iface "func" (.lit (.string tokT))]), (.int .i64 9, .agg [.lit (.int .i64 1), .iface "func" (.lit (.string tokT))]), (.int .i64 11, .agg [.lit (.int .i64 0), .iface "func" (.lit (.string tokS))]), (.int .i64 12, .agg [.lit (.int .i64 2), .iface "func" (.lit (.string tokT))])]
/-- One of the table's entries. -/
def IsKind (k v : Value) : Prop := (k = .int .i64 1 ∧ v = .agg #[.int .i64 0, .func (.func 76) #[] #[]]) ∨ (k = .int .i64 9 ∧ v = .agg #[.int .i64 1, .func (.func 76) #[] #[]]) ∨ (k = .int .i64 11 ∧ v = .agg #[.int .i64 0, .func (.func 181) #[] #[]]) ∨ (k = .int .i64 12 ∧ v = .agg #[.int .i64 2, .func (.func 76) #[] #[]])
theorem mem_fold {x : Lit × DataW (List UInt8)} : ∀ {l : List (Lit × DataW (List UInt8))}, x ∈ l.foldr DataW.insert [] ↔ x ∈ l
 | [] => by simp
 | y :: l => by
  rw [List.foldr_cons, Go.ChangeMaps.mem_insert_iff, mem_fold, List.mem_cons]
theorem open_kinds {w : World} (h : funcsAt Tryd.prog w "spoondrift/rev.classical" claD) :
  ∃ c t fz b es clk, w.heap[1]? = some (.cells c t fz) ∧ c[0]? = some (.map (some b)) ∧ w.heap[b]? = some (.map es clk) ∧ (∀ x ∈ es.toList, IsKind x.key x.val) ∧ ∀ k, (k = 1 ∨ k = 9 ∨ k = 12 ∨ k = 11) → ∃ x ∈ es.toList, x.key = .int .i64 k := by
 obtain ⟨g, t, cs, fuel, p, hg, ht, hc, hd⟩ := h
 obtain rfl := Option.some.inj (gCla.symm.trans hg)
 obtain rfl := Option.some.inj (tCla.symm.trans ht)
 obtain ⟨ty, fz, hb0⟩ := var_block hg hc
 have hout : claD.funcsOut = .map [(.int .i64 1, .agg [.lit (.int .i64 0), .held tokT]), (.int .i64 9, .agg [.lit (.int .i64 1), .held tokT]), (.int .i64 11, .agg [.lit (.int .i64 0), .held tokS]), (.int .i64 12, .agg [.lit (.int .i64 2), .held tokT])] := by rfl
 rw [hout] at hd
 rcases Go.WideElems.open_map u129 hd with ⟨_, h2⟩ | ⟨b, es, clk, n, _, hcs, hb, _, F, hx⟩
 ·simp at h2
 simp only [Prod.mk.injEq, DataW.map.injEq] at hx
 have hx1 := hx.1
 have hmem : ∀ z, z ∈ es.toList.map (Go.WideElems.rg Tryd.prog 3 (Go.WideElems.elemAt (funcToken Tryd.prog) Tryd.prog w 0 (fun _ => true) true n 127)) ↔ z ∈ [((.int .i64 1 : Lit), (.agg [.lit (.int .i64 0), .held tokT] : DataW (List UInt8))), (.int .i64 9, .agg [.lit (.int .i64 1), .held tokT]), (.int .i64 11, .agg [.lit (.int .i64 0), .held tokS]), (.int .i64 12, .agg [.lit (.int .i64 2), .held tokT])] := fun z => by
  rw [hx1, mem_fold]
 have key : ∀ x ∈ es.toList, ∀ (k c : Int) (tk : List UInt8) (q : FuncId), ((tk = tokT ∧ q = 76) ∨ (tk = tokS ∧ q = 181)) → Go.WideElems.rg Tryd.prog 3 (Go.WideElems.elemAt (funcToken Tryd.prog) Tryd.prog w 0 (fun _ => true) true n 127) x = (.int .i64 k, .agg [.lit (.int .i64 c), .held tk]) → x.key = .int .i64 k ∧ x.val = .agg #[.int .i64 c, .func (.func q) #[] #[]] := by
  intro x hx k c tk q htk hr
  obtain ⟨y, hy⟩ := F.reads x hx
  rw [Go.WideElems.rg_of hy] at hr
  subst hr
  have h1 := Go.WideElems.rd_key hy
  obtain ⟨z, hz, h2⟩ := Go.WideElems.rd_val hy
  refine ⟨?_, ?_⟩
  ·simp only [keyOf, u3, mapKey] at h1
   split at h1 <;> simp_all
  ·simp only [Go.WideElems.elemAt] at hz
   split at hz
   ·rename_i hf
    have := entry_kind htk hz h2.symm
    cases hv : x.val with
    | agg cs2 =>
     rw [hv] at this
     have e : cs2.toList = [.int .i64 c, .func (.func q) #[] #[]] := this
     obtain ⟨l⟩ := cs2
     simp only at e
     subst e; rfl
    | _ => rw [hv] at hf; simp [Value.formed, u127] at hf
   ·cases hz
 have hcs0 : cs[0]? = some (.map (some b)) := by
  have := congrArg (·[0]?) hcs
  simpa using this
 refine ⟨cs, ty, fz, b, es, clk, hb0, hcs0, hb, fun x hx => ?_, fun k hk => ?_⟩
 ·have h1 := (hmem _).1 (List.mem_map.2 ⟨x, hx, rfl⟩)
  simp only [List.mem_cons, List.not_mem_nil, or_false] at h1
  rcases h1 with h1 | h1 | h1 | h1
  ·exact .inl (key x hx _ _ _ 76 (.inl ⟨rfl, rfl⟩) h1)
  ·exact .inr (.inl (key x hx _ _ _ 76 (.inl ⟨rfl, rfl⟩) h1))
  ·exact .inr (.inr (.inl (key x hx _ _ _ 181 (.inr ⟨rfl, rfl⟩) h1)))
  ·exact .inr (.inr (.inr (key x hx _ _ _ 76 (.inl ⟨rfl, rfl⟩) h1)))
 ·by_cases h11 : k = 11
  ·subst h11
   obtain ⟨x, hx, hr⟩ := List.mem_map.1 ((hmem (.int .i64 11, .agg [.lit (.int .i64 0), .held tokS])).2 (by simp))
   exact ⟨x, hx, (key x hx _ _ _ 181 (.inr ⟨rfl, rfl⟩) hr).1⟩
  replace hk : k = 1 ∨ k = 9 ∨ k = 12 := by omega
  have : ∃ c : Int, ((.int .i64 k : Lit), (.agg [.lit (.int .i64 c), .held tokT] : DataW (List UInt8))) ∈ [((.int .i64 1 : Lit), (.agg [.lit (.int .i64 0), .held tokT] : DataW (List UInt8))), (.int .i64 9, .agg [.lit (.int .i64 1), .held tokT]), (.int .i64 11, .agg [.lit (.int .i64 0), .held tokS]), (.int .i64 12, .agg [.lit (.int .i64 2), .held tokT])] := by
   rcases hk with rfl | rfl | rfl
   ·exact ⟨0, by simp⟩
   ·exact ⟨1, by simp⟩
   ·exact ⟨2, by simp⟩
  obtain ⟨c, hm⟩ := this
  obtain ⟨x, hx, hr⟩ := List.mem_map.1 ((hmem _).2 hm)
  exact ⟨x, hx, (key x hx _ _ _ 76 (.inl ⟨rfl, rfl⟩) hr).1⟩
theorem cla_data : (Rows.laid_spoondrift_rev_classical : DataW Unit) = .iface "func table" claD := by rfl
/-- An array of numbers that is read. -/
theorem open_nums {H : Type} {enc : TypeId × Value → H} {P : Program} {w : World} {sp : Nat → Bool} {held : Bool} {t e n fuel : Nat} {k : IntKind} {cs : List Value} {ds : List (DataW H)} {p : List MemPlace}
  (ht : P.underlying t = some (.array n e)) (he : P.underlying e = some (.int k)) (hc : P.cellsOf e = 1) (h : DataW.trod enc P w 0 sp held fuel t cs = some (.agg ds, p)) {i : Nat} {v : Int} (hi : ds[i]? = some (.lit (.int k v))) :
  cs[i]? = some (.int k v) := by
 obtain ⟨xs, m, rfl, hx, hl, hn, hel⟩ := DataW.trod_array ht h
 simp only [Prod.mk.injEq, DataW.agg.injEq] at hx
 obtain ⟨rfl, _⟩ := hx
 rw [List.getElem?_map, Option.map_eq_some_iff] at hi
 obtain ⟨y, hy, hy1⟩ := hi
 have hin : i < n := by rw [← hn]; exact (List.getElem?_eq_some_iff.1 hy).1
 have h0 := hel i hin
 rw [hy, hc, Nat.mul_one] at h0
 obtain ⟨q, e1, e2, _⟩ := DataW.trod_int he h0
 have e3 : q = v := by
  rw [e2] at hy1
  simpa using hy1
 subst e3
 have := congrArg (·[0]?) e1
 simpa [List.getElem?_take, List.getElem?_drop] using this
theorem gWan : Tryd.prog.globalNamed "spoondrift/rev.wants" = some 2 := by kernel_rfl
theorem tWan : (Tryd.prog.globals[2]?).map (·.type) = some 108 := by kernel_rfl
theorem u108 : Tryd.prog.underlying 108 = some (.array 8 3) := by kernel_rfl
def wanL : List Nat := [0, 0, 1, 2, 2, 2, 0, 0]
def laid1 : List (String × DataW Unit) := [("spoondrift/rev.classical", Rows.laid_spoondrift_rev_classical), ("spoondrift/rev.wants", Rows.laid_spoondrift_rev_wants)]
theorem wan_data : (Rows.laid_spoondrift_rev_wants : DataW Unit) = .agg (wanL.map fun x => .lit (.int .i64 (Int.ofNat x))) := by rfl
theorem of_laid0 {w : World} (h : laidMetH Tryd.prog laid1 w) : ∃ c t fz b es clk, w.heap[1]? = some (.cells c t fz) ∧ c[0]? = some (.map (some b)) ∧ w.heap[b]? = some (.map es clk) ∧ (∀ x ∈ es.toList, IsKind x.key x.val) ∧ ∀ k, (k = 1 ∨ k = 9 ∨ k = 12 ∨ k = 11) → ∃ x ∈ es.toList, x.key = .int .i64 k :=
 open_kinds (h.funcs (n := "spoondrift/rev.classical") (by rw [← cla_data]; simp [laid1]))
theorem of_laid {w : World} (h : laidMetH Tryd.prog laid1 w) : ∃ c t fz, w.heap[2]? = some (.cells c t fz) ∧ ∀ (i x : Nat), wanL[i]? = some x → c[i]? = some (Value.int .i64 (Int.ofNat x)) := by
 have h1 : laidMet Tryd.prog [("spoondrift/rev.wants", Rows.laid_spoondrift_rev_wants)] w := by
  have e1 : laid1.filter (fun x => x.2.handleName?.isSome) = [("spoondrift/rev.classical", Rows.laid_spoondrift_rev_classical)] := by rfl
  have e2 : laid1.filter (fun x => x.2.handleName?.isNone) = [("spoondrift/rev.wants", Rows.laid_spoondrift_rev_wants)] := by rfl
  unfold laidMetH at h
  rw [e1, e2] at h
  exact h.1
 obtain ⟨ps, ⟨g1, t1, cs1, f1, p1, q1, hg1, ht1, hv1, hd1, _, _⟩, _, _⟩ := h1
 obtain rfl := Option.some.inj (gWan.symm.trans hg1)
 obtain rfl := Option.some.inj (tWan.symm.trans ht1)
 obtain ⟨ty, fz, hb⟩ := var_block hg1 hv1
 refine ⟨cs1, ty, fz, hb, fun i x hx => ?_⟩
 rw [wan_data] at hd1
 have := open_nums (i := i) (v := Int.ofNat x) u108 u3 hc3 hd1 (by rw [List.getElem?_map, hx]; rfl)
 simpa using this
end Go.AM

/-! F51 -/
namespace Go.AM
open Go.Proofs Go.Proofs.YtdokoekgdeebpaaDoor Go.RowKit
/-- An argument's block: where it lies, and its abstract cells (each stands for the machine's cell at the same place), or the entries of a map. -/
structure Arg0 where
  blk : Nat
  off : Nat
  cap : Nat
  cs : Array Value
  es : Option (List (Value × Value))
def arg0 : Arg0 := ⟨0, 0, 0, #[], none⟩
def Arg0.obj (a : Arg0) : AObj := match a.es with
  | none => .cells false a.cs
  | some es => .map false es
theorem Arg0.obj_rw (a : Arg0) : a.obj.rw = false := by
 unfold Arg0.obj; split <;> rfl
def wanCs : Array Value := #[nv 0, nv 0, nv 1, nv 2, nv 2, nv 2, nv 0, nv 0]
def mem0 (A : List Arg0) : Mem := (AObj.dead :: AObj.cells false #[.map (some 3)] :: AObj.cells false wanCs :: A.map Arg0.obj).toArray
def beta0 (A : List Arg0) : Beta where
  blk i := if i < 3 then i else (A.getD (i - 3) arg0).blk
  sh i := if i < 3 then 0 else (A.getD (i - 3) arg0).off
  cap i := if i < 3 then 1000000 else (A.getD (i - 3) arg0).off + max (A.getD (i - 3) arg0).cs.size (A.getD (i - 3) arg0).cap
/-- What is known of an argument's cells, all arguments' places being known. -/
def Arg0.ok (W : World) (A : List Arg0) (a : Arg0) : Prop :=
  (a.es = none → ∃ c t fz, W.heap[a.blk]? = some (.cells c t fz) ∧ ∀ (i : Nat) v, a.cs[i]? = some v → ∃ v', c[a.off + i]? = some v' ∧ VRel (beta0 A) (3 + A.length) v v') ∧
  ∀ es, a.es = some es → ∃ es' clk, W.heap[a.blk]? = some (.map es' clk) ∧ es'.size = es.length ∧ ∀ (i : Nat) x e', es[i]? = some x → es'[i]? = some e' → VRel (beta0 A) (3 + A.length) x.1 e'.key ∧ VRel (beta0 A) (3 + A.length) x.2 e'.val
theorem mem0_size (A : List Arg0) : (mem0 A).size = 3 + A.length := by simp [mem0]; omega
theorem mem0_get (A : List Arg0) (i : Nat) : Mem.get (mem0 A) i = if i = 0 then .dead else if i = 1 then .cells false #[.map (some 3)] else if i = 2 then .cells false wanCs else if h : i - 3 < A.length then (A[i - 3]).obj else .dead := by
 unfold Mem.get mem0
 rw [Array.getD_eq_getD_getElem?, List.getElem?_toArray]
 match i with
 | 0 => rfl
 | 1 => rfl
 | 2 => rfl
 | i + 3 =>
  rw [if_neg (by omega), if_neg (by omega), if_neg (by omega)]
  simp only [List.getElem?_cons_succ, Nat.add_sub_cancel, List.getElem?_map]
  by_cases h : i < A.length
  ·rw [dif_pos h, List.getElem?_eq_getElem h]; rfl
  ·rw [dif_neg h, List.getElem?_eq_none (by omega)]; rfl
theorem globW0 (A : List Arg0) : GlobW (mem0 A) := ⟨false, by rw [mem0_get]; rfl⟩
/-- The table of kinds: its block, its entries. -/
structure Kinds (W : World) (a : Arg0) : Prop where
  glob : ∃ c t fz, W.heap[1]? = some (.cells c t fz) ∧ c[0]? = some (.map (some a.blk))
  es : ∃ es, a.es = some es ∧ (∀ x ∈ es, IsKind x.1 x.2) ∧ ∀ k, (k = 1 ∨ k = 9 ∨ k = 12 ∨ k = 11) → ∃ x ∈ es, x.1 = .int .i64 k
  ok : ∀ A, a.ok W A
theorem flat_kind {β : Beta} {N : Nat} {c : Int} {q : FuncId} : VRel β N (.agg #[.int .i64 c, .func (.func q) #[] #[]]) (.agg #[.int .i64 c, .func (.func q) #[] #[]]) := by
 refine .agg _ _ rfl fun i v v' h h' => ?_
 match i with
 | 0 => simp at h h'; subst h h'; exact .int _ _
 | 1 => simp at h h'; subst h h'; exact .func _ _ _ _ _ rfl (fun i v v' h => by simp at h) rfl (fun i v v' h => by simp at h)
 | i + 2 => simp at h
theorem kinds_ex {W : World} (hL : laidMetH Tryd.prog laid1 W) : ∃ a, Kinds W a := by
 obtain ⟨c, t, fz, b, es, clk, h0, h1, h2, h3, h4⟩ := of_laid0 hL
 refine ⟨⟨b, 0, 0, #[], some (es.toList.map fun x => (x.key, x.val))⟩, ⟨c, t, fz, h0, h1⟩, ⟨_, rfl, fun x hx => ?_, fun k hk => ?_⟩, fun A => ⟨fun h => (by cases h), fun es2 he => ?_⟩⟩
 ·obtain ⟨y, hy, rfl⟩ := List.mem_map.1 hx
  exact h3 y hy
 ·obtain ⟨y, hy, e⟩ := h4 k hk
  exact ⟨_, List.mem_map.2 ⟨y, hy, rfl⟩, e⟩
 ·cases he
  refine ⟨es, clk, h2, by simp, fun i x e' hx he' => ?_⟩
  rw [List.getElem?_map, Array.getElem?_toList, he'] at hx
  cases hx
  have := h3 e' (by rw [← Array.mem_def]; exact Array.mem_of_getElem? he')
  rcases this with ⟨e1, e2⟩ | ⟨e1, e2⟩ | ⟨e1, e2⟩ | ⟨e1, e2⟩ <;> (simp only [e1, e2]; exact ⟨.int _ _, flat_kind⟩)
theorem sameI (a b : Int) : Instr.sameNow (.int .i64) (.int .i64 a) (.int .i64 b) = some (decide (a = b)) := by
 by_cases h : a = b
 ·subst h; simp [Instr.sameNow]
 ·simp [Instr.sameNow, h]
theorem rel0 {W : World} (hL : laidMetH Tryd.prog laid1 W) {A : List Arg0} {a0 : Arg0} (hK : Kinds W a0) (hA0 : A[0]? = some a0) (hA : ∀ a ∈ A, a.ok W A) : Rel Tryd.prog (beta0 A) (mem0 A) W := by
 obtain ⟨c, t, fz, h0, hc0⟩ := of_laid hL
 obtain ⟨ck, tk, fk, k0, k1⟩ := hK.glob
 obtain ⟨hl0, e0⟩ := List.getElem?_eq_some_iff.1 hA0
 refine ⟨by rw [mem0_size, gSize]; omega, fun g hg => ?_, fun i hi => ?_, fun i j _ hr _ => ?_⟩
 ·rw [gSize] at hg
  exact ⟨if_pos hg, if_pos hg⟩
 ·rw [mem0_get] at hi ⊢
  by_cases ez : i = 0
  ·rw [if_pos ez] at hi; cases hi
  rw [if_neg ez] at hi ⊢
  by_cases ei : i = 1
  ·subst ei
   rw [if_pos rfl] at hi ⊢
   refine ⟨_, k0, ck, tk, fk, rfl, by simp [beta0], fun j v hj => ?_, fun h => by cases h⟩
   match j with
   | 0 =>
    simp at hj; subst hj
    refine ⟨_, by simpa [beta0] using k1, ?_⟩
    have hb : (beta0 A).blk 3 = a0.blk := by
     simp only [beta0]; rw [if_neg (by omega), List.getD_eq_getElem?_getD, hA0]; rfl
    rw [← hb]
    exact .map _ (by rw [mem0_size]; omega)
   | j + 1 => simp at hj
  rw [if_neg ei] at hi ⊢
  by_cases e1 : i = 2
  ·subst e1
   rw [if_pos rfl] at hi ⊢
   refine ⟨_, h0, c, t, fz, rfl, by simp [beta0, wanCs], fun j v hj => ?_, fun h => by cases h⟩
   have hj8 := (Array.getElem?_eq_some_iff.1 hj).1
   have hj8' : j < 8 := hj8
   obtain ⟨x, hx⟩ : ∃ x, wanL[j]? = some x := ⟨_, List.getElem?_eq_getElem hj8'⟩
   have hv : v = nv x := by
    have hall : ∀ j < 8, wanCs[j]? = (wanL[j]?).map fun x => nv x := by
     intro j hj
     match j, hj with
     | 0, _ => rfl
     | 1, _ => rfl
     | 2, _ => rfl
     | 3, _ => rfl
     | 4, _ => rfl
     | 5, _ => rfl
     | 6, _ => rfl
     | 7, _ => rfl
    rw [hall j hj8', hx] at hj
    exact (Option.some.inj hj).symm
   subst hv
   exact ⟨_, by simpa [beta0] using hc0 j x hx, .int _ _⟩
  rw [if_neg e1] at hi ⊢
  by_cases e4 : i - 3 < A.length
  ·rw [dif_pos e4] at hi ⊢
   obtain ⟨o1, o2⟩ := hA _ (List.getElem_mem e4)
   have hb : (beta0 A).blk i = (A[i - 3]).blk := by
    simp only [beta0]; rw [if_neg (by omega), List.getD_eq_getElem?_getD, List.getElem?_eq_getElem e4]; rfl
   have hsh : (beta0 A).sh i = (A[i - 3]).off := by
    simp only [beta0]; rw [if_neg (by omega), List.getD_eq_getElem?_getD, List.getElem?_eq_getElem e4]; rfl
   have hcp : (beta0 A).cap i = (A[i - 3]).off + max (A[i - 3]).cs.size (A[i - 3]).cap := by
    simp only [beta0]; rw [if_neg (by omega), List.getD_eq_getElem?_getD, List.getElem?_eq_getElem e4]; rfl
   cases hes : (A[i - 3]).es with
   | none =>
    obtain ⟨c, t, fz, g1, g2⟩ := o1 hes
    rw [Arg0.obj, hes]
    refine ⟨_, by rw [hb]; exact g1, c, t, fz, rfl, by rw [hsh, hcp]; omega, fun j v hj => ?_, fun h => by cases h⟩
    obtain ⟨v', q1, q2⟩ := g2 j v hj
    exact ⟨v', by rw [hsh]; exact q1, by rw [mem0_size]; exact q2⟩
   | some es =>
    obtain ⟨es', clk, g1, g2, g3⟩ := o2 es hes
    rw [Arg0.obj, hes]
    exact ⟨_, by rw [hb]; exact g1, es', clk, rfl, g2, fun i x e' hx he => by rw [mem0_size]; exact g3 i x e' hx he, fun h => by cases h⟩
  ·rw [dif_neg e4] at hi; cases hi
 ·rw [mem0_get] at hr
  split at hr
  ·cases hr
  split at hr
  ·cases hr
  split at hr
  ·cases hr
  split at hr
  ·rw [Arg0.obj_rw] at hr; cases hr
  ·cases hr
theorem arel_nil {β : Beta} {N : Nat} : ARel β N #[] #[] := ⟨rfl, fun i v v' h => by simp at h⟩
theorem arel_cons {β : Beta} {N : Nat} {v v' : Value} {l l' : List Value} (hv : VRel β N v v') (h : ARel β N l.toArray l'.toArray) : ARel β N (v :: l).toArray (v' :: l').toArray := by
 refine ⟨by have := h.1; simp at this ⊢; exact this, fun i x x' h1 h2 => ?_⟩
 cases i with
 | zero => simp at h1 h2; subst h1 h2; exact hv
 | succ i => exact h.2 i x x' (by simpa using h1) (by simpa using h2)
/-- From the abstract call to the machine's. -/
theorem entry {f : FuncId} {args args' : Array Value} {W : World} {A : List Arg0} (hL : laidMetH Tryd.prog laid1 W) {a0 : Arg0} (hK : Kinds W a0) (hA0 : A[0]? = some a0) (hA : ∀ a ∈ A, a.ok W A)
  (hargs : ARel (beta0 A) (3 + A.length) args args') (hc : ∃ v m', ACalls Tryd.prog f args (mem0 A) v m' ∧ v = .bool true) :
  Calls Tryd.prog f args' W fun e W' => e = .returned (.bool true) ∧ Below W.heap.size W W' := by
 have hR := rel0 hL hK hA0 hA
 obtain ⟨v, m', hcall, rfl⟩ := hc
 refine (hcall.2 _ W args' hR (by rw [mem0_size]; exact hargs)).mono ?_
 rintro e W' ⟨v', rfl, β', hv, _, hS⟩
 cases hv
 refine ⟨rfl, hS.os, hS.tape, hS.output, hS.wsz, fun k hk => hS.keep k hk fun i hi => ?_⟩
 rw [mem0_get] at hi
 split at hi
 ·cases hi
 split at hi
 ·cases hi
 split at hi
 ·cases hi
 split at hi
 ·rw [Arg0.obj_rw] at hi; cases hi
 ·cases hi
end Go.AM
