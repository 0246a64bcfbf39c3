/- Part 7 of the proof: Plain laws, and contracts of the program's functions. -/
import Derived.Test.YtdokoekgdeebpaaDoorPartF
import Derived.WideKeyElems2
import Derived.ChangeMaps
import Derived.Test.YtdokoekgdeebpaaDoorRows
import Derived.ProofKit
import Derived.LaidMore
import Derived.LaidHandle
import Derived.OpenShut
import Derived.Stop.Joined
import Derived.Below
import Derived.Carry
import Derived.ChangeSlices
import Derived.WideShapes
set_option linter.unusedVariables false
set_option linter.unusedSimpArgs false
/-! ### R31 -/
namespace Go.AM
open Go.Proofs
set_option maxRecDepth 100000
set_option linter.unusedVariables false
set_option linter.unusedSimpArgs false
theorem awT : rtabM 2 [(9, [0, 1])] = [0, 3, 2, 1] := by decide +kernel
theorem awA : runM [(12, [0, 1, 2])] 3 = 7 := by decide +kernel
theorem awC : circP (ofs [0, 2, 1, 3]) = [(9, [1, 0]), (9, [0, 1]), (9, [1, 0])] := by decide +kernel
theorem awY : cyclesP (ofs [0, 2, 1, 3]) = [[1, 2]] := by decide +kernel
theorem awEv : evenP (ofs [0, 2, 1, 3]) = false := by decide +kernel
theorem awWE : wideE (ofs [0, 2, 1, 3]) = 0 := by decide +kernel
theorem awWN : wideN (ofs [0, 2, 1, 3]) = 2 := by decide +kernel
theorem awCn : countV 3 2 = 102 ∧ countE 3 2 = 0 := by decide +kernel
theorem awS2 : shortE (ofs [0, 2, 1, 3]) 2 = 6 := by decide +kernel
theorem awS2n : shortN (ofs [0, 2, 1, 3]) 2 = 0 := by decide +kernel
theorem awS3 : shortE (ofs [0, 2, 1, 3]) 3 = 0 := by decide +kernel
theorem awS3n : shortN (ofs [0, 2, 1, 3]) 3 = 2 := by decide +kernel
theorem awS3l : (shortP (ofs [0, 2, 1, 3]) 3).length = 3 := by decide +kernel
theorem awF1n : foundN 2 (cleanS [(9, [0, 1])] (posM [1])) = 1 := by decide +kernel
theorem awF1e : foundE 2 (cleanS [(9, [0, 1])] (posM [1])) = 0 := by decide +kernel
theorem awF2n : foundN 2 (borrS [(9, [0, 1])] (posM [0])) = 1 := by decide +kernel
theorem awF2e : foundE 2 (borrS [(9, [0, 1])] (posM [0])) = 0 := by decide +kernel
theorem awF3n : foundN 2 (borrS [(9, [0, 1]), (9, [0, 1])] (posM [0])) = 0 := by decide +kernel
theorem awF3e : foundE 2 (borrS [(9, [0, 1]), (9, [0, 1])] (posM [0])) = 6 := by decide +kernel
def orX : BX := .mk 5 0 [.mk 1 0 [], .mk 1 1 []]
theorem awPE : cpE 2 2 orX = 0 := by decide +kernel
theorem awPN : cpN 2 2 orX = 5 := by decide +kernel
theorem awPG : cpG 2 2 orX = [(9, [0, 3]), (1, [3]), (9, [1, 4]), (1, [4]), (12, [3, 4, 2]), (1, [4]), (9, [1, 4]), (1, [3]), (9, [0, 3]), (1, [2])] := by decide +kernel
theorem c21 : CircOk 2 [(9, [0, 1])] := .of (by decide)
theorem c31 : CircOk 3 [(12, [0, 1, 2])] := .of (by decide)
theorem c174 : CircOk 2 [(9, [0, 1]), (9, [0, 1])] := .of (by decide)
theorem allS {α : Type} {p : α → Prop} {a : α} {l : List α} (hl : ∀ t ∈ l, p t) (h : p a) : ∀ t ∈ l ++ [a], p t := fun t ht => by
  rcases List.mem_append.1 ht with ht | ht
  · exact hl t ht
  · rw [List.mem_singleton.1 ht]; exact h
theorem obl3 {P : Program} {l : List Oper} {log : List Ent} {m' m0 : Mem} {hs : List (Nat × Nat)} {e17 e36 e42 : Ent} {o17 o36 o42 : Oper} (hE : ∀ e ∈ log, Ext m0 e.m) (hE' : Ext m0 m')
    (h17 : log[17]? = some e17) (l17 : l[17]? = some o17) (h36 : log[36]? = some e36) (l36 : l[36]? = some o36) (h42 : log[42]? = some e42) (l42 : l[42]? = some o42)
    (f17 : ∀ M, Ext m0 M → aRead P M (evR e17.ρ) o17.op = some e17.v) (f36 : aPure P (evR e36.ρ) o36.op = some e36.v) (f42 : ∀ M, Ext m0 M → aRead P M (evR e42.ρ) o42.op = some e42.v)
    (hh : ∀ p ∈ hs, p.1 = 17 ∨ p.1 = 36 ∨ p.1 = 42) : obl P ⟨l⟩ log m' hs := by
  refine obl_ext hE hE' fun p hp e o he ho M hM => ?_
  rcases hh p hp with h | h | h <;> rw [h] at he ho
  · rw [h17] at he; rw [l17] at ho; cases he; cases ho; exact .inl (f17 M hM)
  · rw [h36] at he; rw [l36] at ho; cases he; cases ho; exact .inr f36
  · rw [h42] at he; rw [l42] at ho; cases he; cases ho; exact .inl (f42 M hM)
theorem mem_nil {α : Type} {p : α → Prop} : ∀ t ∈ ([] : List α), p t := fun t h => by cases h
theorem mem_cons {α : Type} {p : α → Prop} {a : α} {l : List α} (h : p a) (hl : ∀ t ∈ l, p t) : ∀ t ∈ a :: l, p t := fun t ht => by
  rcases List.mem_cons.1 ht with rfl | ht
  · exact h
  · exact hl t ht
theorem orAt {m : Mem} {b : Nat} (hg : Mem.get m b = .cells true #[nv 1, nv 0, .slice none 0 0, nv 1, nv 1, .slice none 0 0]) : BAt (fun b => b < m.size) m 2 (.agg #[nv 5, nv 0, .slice (some ⟨b, 0, some 3⟩) 2 2]) orX := by
  refine ⟨_, rfl, .inr ⟨b, 0, 2, true, _, rfl, live hg, hg, fun i a hi => ?_⟩⟩
  have h1 := (List.getElem?_eq_some_iff.1 hi).1
  have hi' : i = 0 ∨ i = 1 := by have : orX.args.length = 2 := rfl; omega
  rcases hi' with rfl | rfl
  · obtain rfl : BX.mk 1 0 [] = a := by injection hi
    exact ⟨by simp, _, rfl, .inl ⟨rfl, _, _, rfl⟩⟩
  · obtain rfl : BX.mk 1 1 [] = a := by injection hi
    exact ⟨by simp, _, rfl, .inl ⟨rfl, _, _, rfl⟩⟩
def H14r : Nat → List (Nat × Nat) := fun id => if id = 8 then [(999999, 0), (17, 0), (17, 5), (17, 20), (17, 21), (17, 23), (17, 25), (17, 26), (17, 27), (17, 28), (17, 44), (17, 45), (36, 0), (36, 5), (36, 6), (36, 20), (36, 21), (36, 23), (36, 25), (36, 26), (36, 27), (36, 44), (36, 45), (42, 0), (42, 5), (42, 6), (42, 20), (42, 21), (42, 23), (42, 25), (42, 26), (42, 27), (42, 44), (42, 45)] else []
theorem okf14 : okF Tryd.prog H14r 14 218 = true := by kernel_rfl
set_option maxHeartbeats 8000000 in
theorem spec_awake {m : Mem} (hC : GlobC m) (hW : GlobW m) : ∃ v m', ACalls Tryd.prog 14 #[] m v m' ∧ (v = .bool true ∧ Ext m m') := by
  refine wpF (args := []) mixed okf14 (fn := Tryd.f14) rfl rfl rfl (by simp) ?_
  refine cSeq ?_
  refine cRegion ?_
  refine sAs (v := .bool _) rfl ?_
  refine sNil (kSeqN ?_)
  refine cSeq ?_
  refine cRegion ?_
  refine sRow [0, 1] rfl (by decide) (by kernel_rfl) fun q19 m19 o19 x19 => ?_
  obtain ⟨v20, m20, h20, rfl, x20⟩ := spec_lgate (m := m19) (k := 9) (q := q19) (n := [0, 1].length) (c := [0, 1].length)
  refine sCall2 rfl call69 rfl rfl h20 ?_
  refine sGates [(9, .slice q19 [0, 1].length [0, 1].length, [0, 1])] (mem_cons (o19.ext x20) (mem_nil)) rfl (by decide) (by kernel_rfl) fun q21 m21 cs21 o21 x21 => ?_
  replace o21 : OwnG 0 m21 (.slice q21 1 1) cs21 [(9, [0, 1])] := o21
  obtain ⟨v22, m22, h22, rfl, x22⟩ := spec_lof (m := m21) (k := 2) (q := q21) (n := 1) (c := 1)
  refine sCall2 rfl call68 rfl rfl h22 ?_
  refine sAllocB (bl := m22.size) rfl Z30 (by kernel_rfl) ?_
  refine sStNAB rfl S30 rfl rfl rfl rfl (by kernel_rfl) ?_
  have xs1 : Ext m22 (m22.push (.cells true #[nv 2, nv 0, .slice q21 1 1])) := .push _ _
  have gs1 : Mem.get (m22.push (.cells true #[nv 2, nv 0, .slice q21 1 1])) m22.size = .cells true #[nv 2, nv 0, .slice q21 1 1] := gP rfl
  generalize m22.push (.cells true #[nv 2, nv 0, .slice q21 1 1]) = ms1 at *
  refine sNil (kSeqN ?_)
  refine cSeq ?_
  refine cRegion ?_
  refine sLdAll A30 S30 rfl gs1 rfl ?_
  obtain ⟨v25, m25, h25, w25, rfl, o25, x25⟩ := spec_Table (hC.ext ((((x19.trans x20).trans x21).trans x22).trans xs1)) (o21.ext (x22.trans xs1)) c21
  rw [awT] at o25
  replace o25 := o25.mono (Nat.zero_le _)
  obtain ⟨q25, c25, rfl⟩ := o25.ints.lenN
  refine sCall1 rfl call41 rfl h25 ?_
  refine sMv (v := .tuple _) rfl ?_
  refine sP (v := .slice _ _ _) rfl ?_   -- extract ['t23', '0']
  refine sP (v := nv _) rfl ?_   -- extract ['t23', '1']
  refine sAs (v := .slice _ _ _) rfl ?_
  refine sAs (v := nv _) rfl ?_
  refine sNil (kSeqN ?_)
  refine cSeq ?_
  refine cRegion ?_
  refine sRow [0, 1, 2] rfl (by decide) (by kernel_rfl) fun q29 m29 o29 x29 => ?_
  obtain ⟨v30, m30, h30, rfl, x30⟩ := spec_lgate (m := m29) (k := 12) (q := q29) (n := [0, 1, 2].length) (c := [0, 1, 2].length)
  refine sCall2 rfl call69 rfl rfl h30 ?_
  refine sGates [(12, .slice q29 [0, 1, 2].length [0, 1, 2].length, [0, 1, 2])] (mem_cons (o29.ext x30) (mem_nil)) rfl (by decide) (by kernel_rfl) fun q31 m31 cs31 o31 x31 => ?_
  replace o31 : OwnG 0 m31 (.slice q31 1 1) cs31 [(12, [0, 1, 2])] := o31
  obtain ⟨v32, m32, h32, rfl, x32⟩ := spec_lof (m := m31) (k := 3) (q := q31) (n := 1) (c := 1)
  refine sCall2 rfl call68 rfl rfl h32 ?_
  obtain ⟨v33, m33, h33, rfl, x33⟩ := spec_Apply (hC.ext (((((((((x19.trans x20).trans x21).trans x22).trans xs1).trans x25).trans x29).trans x30).trans x31).trans x32)) (o31.ext x32) c31 (x := 3) (by decide)
  rw [awA] at h33
  refine sCall2 rfl call39 rfl rfl h33 ?_
  refine sMv (v := .tuple _) rfl ?_
  refine sP (v := nv _) rfl ?_   -- extract ['t28', '0']
  refine sP (v := nv _) rfl ?_   -- extract ['t28', '1']
  refine sAs (v := nv _) rfl ?_
  refine sAs (v := nv _) rfl ?_
  refine sNil (kSeqN ?_)
  refine cSeq ?_
  refine cRegion ?_
  refine sRow [0, 2, 1, 3] rfl (by decide) (by kernel_rfl) fun q37 m37 o37 x37 => ?_
  obtain ⟨v38, m38, h38, s38, cs38, rfl, o38, x38⟩ := spec_Circuit (p := (ofs [0, 2, 1, 3])) o37.ints (by decide)
  rw [awWE, awWN] at h38
  rw [awC] at o38
  replace o38 := o38.mono (Nat.zero_le _)
  obtain ⟨q38, c38, rfl⟩ := o38.1.len
  refine sCall1 rfl call18 rfl h38 ?_
  refine sMv (v := .tuple _) rfl ?_
  refine sP (v := .agg _) rfl ?_   -- extract ['t36', '0']
  refine sP (v := nv _) rfl ?_   -- extract ['t36', '1']
  refine sAllocB (bl := m38.size) rfl Z30 (by kernel_rfl) ?_
  refine sStNAB rfl S30 rfl rfl rfl rfl (by kernel_rfl) ?_
  have xs6 : Ext m38 (m38.push (.cells true #[nv 2, nv 0, .slice q38 3 c38])) := .push _ _
  have gs6 : Mem.get (m38.push (.cells true #[nv 2, nv 0, .slice q38 3 c38])) m38.size = .cells true #[nv 2, nv 0, .slice q38 3 c38] := gP rfl
  generalize m38.push (.cells true #[nv 2, nv 0, .slice q38 3 c38]) = ms6 at *
  refine sAs (v := nv _) rfl ?_
  refine sNil (kSeqN ?_)
  refine cSeq ?_
  refine cRegion ?_
  refine sRow [0, 2, 1, 3] rfl (by decide) (by kernel_rfl) fun q42 m42 o42 x42 => ?_
  obtain ⟨v43, m43, h43, w43, cs43, rfl, o43, x43⟩ := spec_Cycles (p := (ofs [0, 2, 1, 3])) o42.ints (by decide)
  rw [awWE] at h43
  rw [awY] at o43
  have r43 := o43.rows
  obtain ⟨b43, oo43, cp43, rr43, cd43, ee43, g43, xx43⟩ := r43.at (by decide)
  obtain ⟨s43, hs43, ha43⟩ := xx43 0 (ofs [1, 2]) rfl
  obtain ⟨q43, c43, rfl⟩ := ha43.lenN
  subst ee43
  refine sCall1 rfl call21 rfl h43 ?_
  refine sMv (v := .tuple _) rfl ?_
  refine sP (v := .slice _ _ _) rfl ?_   -- extract ['t41', '0']
  refine sP (v := nv _) rfl ?_   -- extract ['t41', '1']
  refine sAs (v := .slice _ _ _) rfl ?_
  refine sAs (v := nv _) rfl ?_
  refine sNil (kSeqN ?_)
  refine cSeq ?_
  refine cRegion ?_
  refine sRow [0, 2, 1, 3] rfl (by decide) (by kernel_rfl) fun q47 m47 o47 x47 => ?_
  obtain ⟨v48, m48, h48, rfl, x48⟩ := spec_Even (p := (ofs [0, 2, 1, 3])) o47.ints (by decide)
  rw [awEv, awWE] at h48
  refine sCall1 rfl call23 rfl h48 ?_
  refine sMv (v := .tuple _) rfl ?_
  refine sP (v := .bool _) rfl ?_   -- extract ['t46', '0']
  refine sP (v := nv _) rfl ?_   -- extract ['t46', '1']
  refine sAs (v := .bool _) rfl ?_
  refine sAs (v := nv _) rfl ?_
  refine sNil (kSeqN ?_)
  refine cSeq ?_
  refine cRegion ?_
  obtain ⟨v52, m52, h52, rfl, x52⟩ := spec_Count (m := m48) (w := 3) (g := 2)
  rw [awCn.1, awCn.2] at h52
  refine sCall2 rfl call35 rfl rfl h52 ?_
  refine sMv (v := .tuple _) rfl ?_
  refine sP (v := nv _) rfl ?_   -- extract ['t51', '0']
  refine sP (v := nv _) rfl ?_   -- extract ['t51', '1']
  refine sAs (v := nv _) rfl ?_
  refine sAs (v := nv _) rfl ?_
  refine sNil (kSeqN ?_)
  refine cSeq ?_   -- seq 8
  refine cSeq ?_
  refine cDrawH (hs := [(999999, 0), (17, 0), (17, 5), (17, 20), (17, 21), (17, 23), (17, 25), (17, 26), (17, 27), (17, 28), (17, 44), (17, 45), (36, 0), (36, 5), (36, 6), (36, 20), (36, 21), (36, 23), (36, 25), (36, 26), (36, 27), (36, 44), (36, 45), (42, 0), (42, 5), (42, 6), (42, 20), (42, 21), (42, 23), (42, 25), (42, 26), (42, 27), (42, 44), (42, 45)]) rfl (by decide) ?_
  refine lStepO (sMv (v := nv _) rfl (sNil fun e0 hm0 => ?_))
  refine lStepO (sBin (v := .bool false) (a := 0) (b := 0) rfl rfl (neqF rfl) (sNil fun e1 hm1 => ?_))
  refine lStepO (sMv (v := .bool false) rfl (sNil fun e2 hm2 => ?_))
  refine lG rfl rfl ?_
  refine lStepO (sMv (v := .slice _ _ _) rfl (sNil fun e3 hm3 => ?_))
  refine lG rfl rfl ?_
  refine lStepO (sRow [0, 3, 2, 1] rfl (by decide) (by kernel_rfl) fun q59 m59 o59 x59 => (sNil fun e4 hm4 => ?_))
  refine lG rfl rfl ?_
  have h60 := spec_Equal (o25.ints.ext (((((((((((((x29.trans x30).trans x31).trans x32).trans x33).trans x37).trans x38).trans xs6).trans x42).trans x43).trans x47).trans x48).trans x52).trans x59)) o59.ints (by decide)
  rw [decide_eq_true rfl] at h60
  refine lStepO (sCall2 rfl call28 rfl rfl h60 (sNil fun e5 hm5 => ?_))
  refine lG rfl rfl ?_
  refine lStepO (sP (v := .bool false) rfl (sNil fun e6 hm6 => ?_))
  refine lStepO (sP (v := .bool false) rfl (sNil fun e7 hm7 => ?_))
  refine lStepO (sMv (v := .bool false) rfl (sNil fun e8 hm8 => ?_))
  refine lG rfl rfl ?_
  refine lStepO (sMv (v := nv _) rfl (sNil fun e9 hm9 => ?_))
  refine lG rfl rfl ?_
  refine lStepO (sBin (v := .bool false) (a := 0) (b := 0) rfl rfl (neqF rfl) (sNil fun e10 hm10 => ?_))
  refine lStepO (sP (v := .bool false) rfl (sNil fun e11 hm11 => ?_))
  refine lStepO (sMv (v := .bool false) rfl (sNil fun e12 hm12 => ?_))
  refine lG rfl rfl ?_
  refine lStepO (sMv (v := nv _) rfl (sNil fun e13 hm13 => ?_))
  refine lG rfl rfl ?_
  refine lStepO (sBin (v := .bool false) (a := 7) (b := 7) rfl rfl (neqF rfl) (sNil fun e14 hm14 => ?_))
  refine lStepO (sP (v := .bool false) rfl (sNil fun e15 hm15 => ?_))
  refine lStepO (sMv (v := .bool false) rfl (sNil fun e16 hm16 => ?_))
  refine lG rfl rfl ?_
  refine lStepLdA A30 S30 rfl ((((((x42.trans x43).trans x47).trans x48).trans x52).trans x59).cells gs6) rfl fun e17 hm17 hv17 hr17 => ?_
  refine lG rfl rfl ?_
  refine lStepO (sMv (v := nv _) rfl (sNil fun e18 hm18 => ?_))
  refine lG rfl rfl ?_
  refine lStepO (sRow [1, 0] rfl (by decide) (by kernel_rfl) fun q74 m74 o74 x74 => (sNil fun e19 hm19 => ?_))
  refine lG rfl rfl ?_
  obtain ⟨v75, m75, h75, rfl, x75⟩ := spec_lgate (m := m74) (k := 9) (q := q74) (n := [1, 0].length) (c := [1, 0].length)
  refine lStepO (sCall2 rfl call69 rfl rfl h75 (sNil fun e20 hm20 => ?_))
  refine lG rfl rfl ?_
  refine lStepO (sRow [0, 1] rfl (by decide) (by kernel_rfl) fun q76 m76 o76 x76 => (sNil fun e21 hm21 => ?_))
  refine lG rfl rfl ?_
  obtain ⟨v77, m77, h77, rfl, x77⟩ := spec_lgate (m := m76) (k := 9) (q := q76) (n := [0, 1].length) (c := [0, 1].length)
  refine lStepO (sCall2 rfl call69 rfl rfl h77 (sNil fun e22 hm22 => ?_))
  refine lG rfl rfl ?_
  refine lStepO (sRow [1, 0] rfl (by decide) (by kernel_rfl) fun q78 m78 o78 x78 => (sNil fun e23 hm23 => ?_))
  refine lG rfl rfl ?_
  obtain ⟨v79, m79, h79, rfl, x79⟩ := spec_lgate (m := m78) (k := 9) (q := q78) (n := [1, 0].length) (c := [1, 0].length)
  refine lStepO (sCall2 rfl call69 rfl rfl h79 (sNil fun e24 hm24 => ?_))
  refine lG rfl rfl ?_
  refine lStepO (sGates [(9, .slice q74 [1, 0].length [1, 0].length, [1, 0]), (9, .slice q76 [0, 1].length [0, 1].length, [0, 1]), (9, .slice q78 [1, 0].length [1, 0].length, [1, 0])] (mem_cons (o74.ext ((((x75.trans x76).trans x77).trans x78).trans x79)) (mem_cons (o76.ext ((x77.trans x78).trans x79)) (mem_cons (o78.ext x79) (mem_nil)))) rfl (by decide) (by kernel_rfl) fun q80 m80 cs80 o80 x80 => (sNil fun e25 hm25 => ?_))
  replace o80 : OwnG 0 m80 (.slice q80 3 3) cs80 [(9, [1, 0]), (9, [0, 1]), (9, [1, 0])] := o80
  refine lG rfl rfl ?_
  obtain ⟨v81, m81, h81, rfl, x81⟩ := spec_lof (m := m80) (k := 2) (q := q80) (n := 3) (c := 3)
  refine lStepO (sCall2 rfl call68 rfl rfl h81 (sNil fun e26 hm26 => ?_))
  refine lG rfl rfl ?_
  obtain ⟨v82, m82, h82, rfl, x82⟩ := spec_known (W := 2) (B := 0) (W' := 2) (B' := 0) (er := 0) (o38.gates.ext ((((((((((((((xs6.trans x42).trans x43).trans x47).trans x48).trans x52).trans x59).trans x74).trans x75).trans x76).trans x77).trans x78).trans x79).trans x80).trans x81)) (o80.gates.ext x81) (by decide) (by decide)
  rw [show (decide ((0 : Nat) = 0) && decide (2 = 2 ∧ 0 = 0 ∧ [(9, [1, 0]), (9, [0, 1]), (9, [1, 0])].map gvM = [(9, [1, 0]), (9, [0, 1]), (9, [1, 0])].map gvM)) = true by simp] at h82
  refine lStepO (sCall3 rfl call70 rfl rfl rfl h82 (sNil fun e27 hm27 => ?_))
  refine lG rfl rfl ?_
  refine lStepO (sP (v := .bool false) rfl (sNil fun e28 hm28 => ?_))
  refine lStepO (sP (v := .bool false) rfl (sNil fun e29 hm29 => ?_))
  refine lStepO (sMv (v := .bool false) rfl (sNil fun e30 hm30 => ?_))
  refine lG rfl rfl ?_
  refine lStepO (sMv (v := nv _) rfl (sNil fun e31 hm31 => ?_))
  refine lG rfl rfl ?_
  refine lStepO (sBin (v := .bool false) (a := 0) (b := 0) rfl rfl (neqF rfl) (sNil fun e32 hm32 => ?_))
  refine lStepO (sP (v := .bool false) rfl (sNil fun e33 hm33 => ?_))
  refine lStepO (sMv (v := .bool false) rfl (sNil fun e34 hm34 => ?_))
  refine lG rfl rfl ?_
  refine lStepO (sMv (v := .slice _ _ _) rfl (sNil fun e35 hm35 => ?_))
  refine lG rfl rfl ?_
  refine lStepLen T34 rfl fun e36 hm36 hv36 hr36 => ?_
  refine lG rfl rfl ?_
  refine lStepO (sBin (v := .bool false) (a := 1) (b := 1) rfl rfl (neqF rfl) (sNil fun e37 hm37 => ?_))
  refine lStepO (sP (v := .bool false) rfl (sNil fun e38 hm38 => ?_))
  refine lStepO (sMv (v := .bool false) rfl (sNil fun e39 hm39 => ?_))
  refine lG rfl rfl ?_
  refine lStepO (sMv (v := .slice _ _ _) rfl (sNil fun e40 hm40 => ?_))
  refine lG rfl rfl ?_
  refine lStepO (sIx T34 S22 rfl rfl (show 0 < (ofs2 [[1, 2]]).length by decide) (sNil fun e41 hm41 => ?_))
  refine lG rfl rfl ?_
  refine lStepLd (v := .slice q43 [1, 2].length c43) A22 rfl (((((((((((((x47.trans x48).trans x52).trans x59).trans x74).trans x75).trans x76).trans x77).trans x78).trans x79).trans x80).trans x81).trans x82).cells g43) hs43 fun e42 hm42 hv42 hr42 => ?_
  refine lG rfl rfl ?_
  refine lStepO (sRow [1, 2] rfl (by decide) (by kernel_rfl) fun q98 m98 o98 x98 => (sNil fun e43 hm43 => ?_))
  refine lG rfl rfl ?_
  have h99 := spec_Equal (ha43.ext (((((((((((((x47.trans x48).trans x52).trans x59).trans x74).trans x75).trans x76).trans x77).trans x78).trans x79).trans x80).trans x81).trans x82).trans x98)) o98.ints (by decide)
  rw [decide_eq_true rfl] at h99
  refine lStepO (sCall2 rfl call28 rfl rfl h99 (sNil fun e44 hm44 => ?_))
  refine lG rfl rfl ?_
  refine lStepO (sP (v := .bool false) rfl (sNil fun e45 hm45 => ?_))
  refine lStepO (sP (v := .bool false) rfl (sNil fun e46 hm46 => ?_))
  refine lStepO (sMv (v := .bool false) rfl (sNil fun e47 hm47 => ?_))
  refine lG rfl rfl ?_
  refine lStepO (sMv (v := nv _) rfl (sNil fun e48 hm48 => ?_))
  refine lG rfl rfl ?_
  refine lStepO (sBin (v := .bool false) (a := 0) (b := 0) rfl rfl (neqF rfl) (sNil fun e49 hm49 => ?_))
  refine lStepO (sP (v := .bool false) rfl (sNil fun e50 hm50 => ?_))
  refine lStepO (sMv (v := .bool false) rfl (sNil fun e51 hm51 => ?_))
  refine lG rfl rfl ?_
  refine lStepO (sMv (v := .bool false) rfl (sNil fun e52 hm52 => ?_))
  refine lStepO (sP (v := .bool false) rfl (sNil fun e53 hm53 => ?_))
  refine lStepO (sMv (v := .bool false) rfl (sNil fun e54 hm54 => ?_))
  refine lG rfl rfl ?_
  refine lStepO (sMv (v := nv _) rfl (sNil fun e55 hm55 => ?_))
  refine lG rfl rfl ?_
  refine lStepO (sBin (v := .bool false) (a := 0) (b := 0) rfl rfl (neqF rfl) (sNil fun e56 hm56 => ?_))
  refine lStepO (sP (v := .bool false) rfl (sNil fun e57 hm57 => ?_))
  refine lStepO (sMv (v := .bool false) rfl (sNil fun e58 hm58 => ?_))
  refine lG rfl rfl ?_
  refine lStepO (sMv (v := nv _) rfl (sNil fun e59 hm59 => ?_))
  refine lG rfl rfl ?_
  refine lStepO (sBin (v := .bool false) (a := 102) (b := 102) rfl rfl (neqF rfl) (sNil fun e60 hm60 => ?_))
  refine lStepO (sP (v := .bool false) rfl (sNil fun e61 hm61 => ?_))
  refine ⟨?_, (kSeqN ?_)⟩
  ·
    refine obl_fl (by simp) ?_
    refine obl3 (m0 := m52) (e17 := e17) (e36 := e36) (e42 := e42) ?_ ((((((((((x59.trans x74).trans x75).trans x76).trans x77).trans x78).trans x79).trans x80).trans x81).trans x82).trans x98) (by kernel_rfl) rfl (by kernel_rfl) rfl (by kernel_rfl) rfl (fun M hM => (hr17 M _ (hM.cells (((((x42.trans x43).trans x47).trans x48).trans x52).cells gs6))).trans (congrArg some hv17.symm)) (by rw [hv36]; exact hr36) (fun M hM => (hr42 M _ _ (hM.cells (((x47.trans x48).trans x52).cells g43)) hs43).trans (congrArg some hv42.symm)) (by decide)
    refine allS ?_ (by rw [hm61]; exact ((((((((((x59.trans x74).trans x75).trans x76).trans x77).trans x78).trans x79).trans x80).trans x81).trans x82).trans x98))
    refine allS ?_ (by rw [hm60]; exact ((((((((((x59.trans x74).trans x75).trans x76).trans x77).trans x78).trans x79).trans x80).trans x81).trans x82).trans x98))
    refine allS ?_ (by rw [hm59]; exact ((((((((((x59.trans x74).trans x75).trans x76).trans x77).trans x78).trans x79).trans x80).trans x81).trans x82).trans x98))
    refine allS ?_ (by rw [hm58]; exact ((((((((((x59.trans x74).trans x75).trans x76).trans x77).trans x78).trans x79).trans x80).trans x81).trans x82).trans x98))
    refine allS ?_ (by rw [hm57]; exact ((((((((((x59.trans x74).trans x75).trans x76).trans x77).trans x78).trans x79).trans x80).trans x81).trans x82).trans x98))
    refine allS ?_ (by rw [hm56]; exact ((((((((((x59.trans x74).trans x75).trans x76).trans x77).trans x78).trans x79).trans x80).trans x81).trans x82).trans x98))
    refine allS ?_ (by rw [hm55]; exact ((((((((((x59.trans x74).trans x75).trans x76).trans x77).trans x78).trans x79).trans x80).trans x81).trans x82).trans x98))
    refine allS ?_ (by rw [hm54]; exact ((((((((((x59.trans x74).trans x75).trans x76).trans x77).trans x78).trans x79).trans x80).trans x81).trans x82).trans x98))
    refine allS ?_ (by rw [hm53]; exact ((((((((((x59.trans x74).trans x75).trans x76).trans x77).trans x78).trans x79).trans x80).trans x81).trans x82).trans x98))
    refine allS ?_ (by rw [hm52]; exact ((((((((((x59.trans x74).trans x75).trans x76).trans x77).trans x78).trans x79).trans x80).trans x81).trans x82).trans x98))
    refine allS ?_ (by rw [hm51]; exact ((((((((((x59.trans x74).trans x75).trans x76).trans x77).trans x78).trans x79).trans x80).trans x81).trans x82).trans x98))
    refine allS ?_ (by rw [hm50]; exact ((((((((((x59.trans x74).trans x75).trans x76).trans x77).trans x78).trans x79).trans x80).trans x81).trans x82).trans x98))
    refine allS ?_ (by rw [hm49]; exact ((((((((((x59.trans x74).trans x75).trans x76).trans x77).trans x78).trans x79).trans x80).trans x81).trans x82).trans x98))
    refine allS ?_ (by rw [hm48]; exact ((((((((((x59.trans x74).trans x75).trans x76).trans x77).trans x78).trans x79).trans x80).trans x81).trans x82).trans x98))
    refine allS ?_ (by rw [hm47]; exact ((((((((((x59.trans x74).trans x75).trans x76).trans x77).trans x78).trans x79).trans x80).trans x81).trans x82).trans x98))
    refine allS ?_ (by rw [hm46]; exact ((((((((((x59.trans x74).trans x75).trans x76).trans x77).trans x78).trans x79).trans x80).trans x81).trans x82).trans x98))
    refine allS ?_ (by rw [hm45]; exact ((((((((((x59.trans x74).trans x75).trans x76).trans x77).trans x78).trans x79).trans x80).trans x81).trans x82).trans x98))
    refine allS ?_ (by rw [hm44]; exact ((((((((((x59.trans x74).trans x75).trans x76).trans x77).trans x78).trans x79).trans x80).trans x81).trans x82).trans x98))
    refine allS ?_ (by rw [hm43]; exact (((((((((x59.trans x74).trans x75).trans x76).trans x77).trans x78).trans x79).trans x80).trans x81).trans x82))
    refine allS ?_ (by rw [hm42]; exact (((((((((x59.trans x74).trans x75).trans x76).trans x77).trans x78).trans x79).trans x80).trans x81).trans x82))
    refine allS ?_ (by rw [hm41]; exact (((((((((x59.trans x74).trans x75).trans x76).trans x77).trans x78).trans x79).trans x80).trans x81).trans x82))
    refine allS ?_ (by rw [hm40]; exact (((((((((x59.trans x74).trans x75).trans x76).trans x77).trans x78).trans x79).trans x80).trans x81).trans x82))
    refine allS ?_ (by rw [hm39]; exact (((((((((x59.trans x74).trans x75).trans x76).trans x77).trans x78).trans x79).trans x80).trans x81).trans x82))
    refine allS ?_ (by rw [hm38]; exact (((((((((x59.trans x74).trans x75).trans x76).trans x77).trans x78).trans x79).trans x80).trans x81).trans x82))
    refine allS ?_ (by rw [hm37]; exact (((((((((x59.trans x74).trans x75).trans x76).trans x77).trans x78).trans x79).trans x80).trans x81).trans x82))
    refine allS ?_ (by rw [hm36]; exact (((((((((x59.trans x74).trans x75).trans x76).trans x77).trans x78).trans x79).trans x80).trans x81).trans x82))
    refine allS ?_ (by rw [hm35]; exact (((((((((x59.trans x74).trans x75).trans x76).trans x77).trans x78).trans x79).trans x80).trans x81).trans x82))
    refine allS ?_ (by rw [hm34]; exact (((((((((x59.trans x74).trans x75).trans x76).trans x77).trans x78).trans x79).trans x80).trans x81).trans x82))
    refine allS ?_ (by rw [hm33]; exact (((((((((x59.trans x74).trans x75).trans x76).trans x77).trans x78).trans x79).trans x80).trans x81).trans x82))
    refine allS ?_ (by rw [hm32]; exact (((((((((x59.trans x74).trans x75).trans x76).trans x77).trans x78).trans x79).trans x80).trans x81).trans x82))
    refine allS ?_ (by rw [hm31]; exact (((((((((x59.trans x74).trans x75).trans x76).trans x77).trans x78).trans x79).trans x80).trans x81).trans x82))
    refine allS ?_ (by rw [hm30]; exact (((((((((x59.trans x74).trans x75).trans x76).trans x77).trans x78).trans x79).trans x80).trans x81).trans x82))
    refine allS ?_ (by rw [hm29]; exact (((((((((x59.trans x74).trans x75).trans x76).trans x77).trans x78).trans x79).trans x80).trans x81).trans x82))
    refine allS ?_ (by rw [hm28]; exact (((((((((x59.trans x74).trans x75).trans x76).trans x77).trans x78).trans x79).trans x80).trans x81).trans x82))
    refine allS ?_ (by rw [hm27]; exact ((((((((x59.trans x74).trans x75).trans x76).trans x77).trans x78).trans x79).trans x80).trans x81))
    refine allS ?_ (by rw [hm26]; exact (((((((x59.trans x74).trans x75).trans x76).trans x77).trans x78).trans x79).trans x80))
    refine allS ?_ (by rw [hm25]; exact ((((((x59.trans x74).trans x75).trans x76).trans x77).trans x78).trans x79))
    refine allS ?_ (by rw [hm24]; exact (((((x59.trans x74).trans x75).trans x76).trans x77).trans x78))
    refine allS ?_ (by rw [hm23]; exact ((((x59.trans x74).trans x75).trans x76).trans x77))
    refine allS ?_ (by rw [hm22]; exact (((x59.trans x74).trans x75).trans x76))
    refine allS ?_ (by rw [hm21]; exact ((x59.trans x74).trans x75))
    refine allS ?_ (by rw [hm20]; exact (x59.trans x74))
    refine allS ?_ (by rw [hm19]; exact x59)
    refine allS ?_ (by rw [hm18]; exact x59)
    refine allS ?_ (by rw [hm17]; exact x59)
    refine allS ?_ (by rw [hm16]; exact x59)
    refine allS ?_ (by rw [hm15]; exact x59)
    refine allS ?_ (by rw [hm14]; exact x59)
    refine allS ?_ (by rw [hm13]; exact x59)
    refine allS ?_ (by rw [hm12]; exact x59)
    refine allS ?_ (by rw [hm11]; exact x59)
    refine allS ?_ (by rw [hm10]; exact x59)
    refine allS ?_ (by rw [hm9]; exact x59)
    refine allS ?_ (by rw [hm8]; exact x59)
    refine allS ?_ (by rw [hm7]; exact x59)
    refine allS ?_ (by rw [hm6]; exact x59)
    refine allS ?_ (by rw [hm5]; exact x59)
    refine allS ?_ (by rw [hm4]; exact .refl _)
    refine allS ?_ (by rw [hm3]; exact .refl _)
    refine allS ?_ (by rw [hm2]; exact .refl _)
    refine allS ?_ (by rw [hm1]; exact .refl _)
    refine allS ?_ (by rw [hm0]; exact .refl _)
    exact fun e h => by cases h
  refine cCondF rfl ?_
  refine cSkip (kSeqN ?_)
  refine cSeq ?_
  refine cRegion ?_
  refine sRow [0, 2, 1, 3] rfl (by decide) (by kernel_rfl) fun q118 m118 o118 x118 => ?_
  obtain ⟨v119, m119, h119, s119, cs119, rfl, o119, x119⟩ := spec_Shortest (p := (ofs [0, 2, 1, 3])) (most := 2) o118.ints (by decide)
  rw [awS2, awS2n] at h119
  obtain ⟨q119, c119, rfl⟩ := o119.1.len
  refine sCall2 rfl call29 rfl rfl h119 ?_
  refine sMv (v := .tuple _) rfl ?_
  refine sP (v := .agg _) rfl ?_   -- extract ['t117', '0']
  refine sP (v := nv _) rfl ?_   -- extract ['t117', '1']
  refine sAs (v := nv _) rfl ?_
  refine sNil (kSeqN ?_)
  refine cSeq ?_
  refine cRegion ?_
  refine sRow [0, 2, 1, 3] rfl (by decide) (by kernel_rfl) fun q123 m123 o123 x123 => ?_
  obtain ⟨v124, m124, h124, s124, cs124, rfl, o124, x124⟩ := spec_Shortest (p := (ofs [0, 2, 1, 3])) (most := 3) o123.ints (by decide)
  rw [awS3, awS3n] at h124
  obtain ⟨q124, c124, rfl⟩ := o124.1.len
  rw [awS3l] at h124
  refine sCall2 rfl call29 rfl rfl h124 ?_
  refine sMv (v := .tuple _) rfl ?_
  refine sP (v := .agg _) rfl ?_   -- extract ['t122', '0']
  refine sP (v := nv _) rfl ?_   -- extract ['t122', '1']
  refine sAllocB (bl := m124.size) rfl Z30 (by kernel_rfl) ?_
  refine sStNAB rfl S30 rfl rfl rfl rfl (by kernel_rfl) ?_
  have xs14 : Ext m124 (m124.push (.cells true #[nv 2, nv 0, .slice q124 3 c124])) := .push _ _
  have gs14 : Mem.get (m124.push (.cells true #[nv 2, nv 0, .slice q124 3 c124])) m124.size = .cells true #[nv 2, nv 0, .slice q124 3 c124] := gP rfl
  generalize m124.push (.cells true #[nv 2, nv 0, .slice q124 3 c124]) = ms14 at *
  refine sAs (v := nv _) rfl ?_
  refine sNil (kSeqN ?_)
  refine cSeq ?_
  refine cRegion ?_
  obtain ⟨v128, m128, h128, rfl, x128⟩ := spec_lvar (m := ms14) (k := 0)
  refine sCall1 rfl call72 rfl h128 ?_
  obtain ⟨v129, m129, h129, rfl, x129⟩ := spec_lvar (m := m128) (k := 1)
  refine sCall1 rfl call72 rfl h129 ?_
  refine sBuildS (c := #[nv 1, nv 0, .slice none 0 0, nv 1, nv 1, .slice none 0 0]) T64 S66 Z66 (by decide) (by decide) (by decide) (by kernel_rfl) (by kernel_rfl) rfl ?_
  have x130 : Ext m129 (m129.push (.cells true #[nv 1, nv 0, .slice none 0 0, nv 1, nv 1, .slice none 0 0])) := .push _ _
  have g130 : Mem.get (m129.push (.cells true #[nv 1, nv 0, .slice none 0 0, nv 1, nv 1, .slice none 0 0])) m129.size = .cells true #[nv 1, nv 0, .slice none 0 0, nv 1, nv 1, .slice none 0 0] := gP rfl
  generalize m129.push (.cells true #[nv 1, nv 0, .slice none 0 0, nv 1, nv 1, .slice none 0 0]) = m130 at *
  obtain ⟨v131, m131, h131, rfl, x131⟩ := spec_lmade (m := m130) (k := 5) (q := some ⟨m129.size, 0, some 3⟩) (n := 2) (c := 2)
  refine sCall2 rfl call71 rfl rfl h131 ?_
  obtain ⟨v132, m132, h132, s132, cs132, rfl, o132, x132⟩ := spec_Compile 2 2 (hW.ext ((((((((((((((((((((((((((((((((((((((x19.trans x20).trans x21).trans x22).trans xs1).trans x25).trans x29).trans x30).trans x31).trans x32).trans x33).trans x37).trans x38).trans xs6).trans x42).trans x43).trans x47).trans x48).trans x52).trans x59).trans x74).trans x75).trans x76).trans x77).trans x78).trans x79).trans x80).trans x81).trans x82).trans x98).trans x118).trans x119).trans x123).trans x124).trans xs14).trans x128).trans x129).trans x130).trans x131)) (orAt (x131.cells g130)) (by decide)
  rw [awPE, awPN] at h132
  rw [awPG] at o132
  replace o132 := o132.mono (Nat.zero_le _)
  obtain ⟨q132, c132, rfl⟩ := o132.1.len
  refine sCall2 rfl call55 rfl rfl h132 ?_
  refine sMv (v := .tuple _) rfl ?_
  refine sP (v := .agg _) rfl ?_   -- extract ['t127', '0']
  refine sP (v := nv _) rfl ?_   -- extract ['t127', '1']
  refine sAllocB (bl := m132.size) rfl Z30 (by kernel_rfl) ?_
  refine sStNAB rfl S30 rfl rfl rfl rfl (by kernel_rfl) ?_
  have xs15 : Ext m132 (m132.push (.cells true #[nv 5, nv 0, .slice q132 10 c132])) := .push _ _
  have gs15 : Mem.get (m132.push (.cells true #[nv 5, nv 0, .slice q132 10 c132])) m132.size = .cells true #[nv 5, nv 0, .slice q132 10 c132] := gP rfl
  generalize m132.push (.cells true #[nv 5, nv 0, .slice q132 10 c132]) = ms15 at *
  refine sAs (v := nv _) rfl ?_
  refine sNil (kSeqN ?_)
  refine cSeq ?_
  refine cRegion ?_
  refine sRow [0, 3] rfl (by decide) (by kernel_rfl) fun q135 m135 o135 x135 => ?_
  obtain ⟨v136, m136, h136, rfl, x136⟩ := spec_lgate (m := m135) (k := 9) (q := q135) (n := [0, 3].length) (c := [0, 3].length)
  refine sCall2 rfl call69 rfl rfl h136 ?_
  refine sRow [3] rfl (by decide) (by kernel_rfl) fun q137 m137 o137 x137 => ?_
  obtain ⟨v138, m138, h138, rfl, x138⟩ := spec_lgate (m := m137) (k := 1) (q := q137) (n := [3].length) (c := [3].length)
  refine sCall2 rfl call69 rfl rfl h138 ?_
  refine sRow [1, 4] rfl (by decide) (by kernel_rfl) fun q139 m139 o139 x139 => ?_
  obtain ⟨v140, m140, h140, rfl, x140⟩ := spec_lgate (m := m139) (k := 9) (q := q139) (n := [1, 4].length) (c := [1, 4].length)
  refine sCall2 rfl call69 rfl rfl h140 ?_
  refine sRow [4] rfl (by decide) (by kernel_rfl) fun q141 m141 o141 x141 => ?_
  obtain ⟨v142, m142, h142, rfl, x142⟩ := spec_lgate (m := m141) (k := 1) (q := q141) (n := [4].length) (c := [4].length)
  refine sCall2 rfl call69 rfl rfl h142 ?_
  refine sRow [3, 4, 2] rfl (by decide) (by kernel_rfl) fun q143 m143 o143 x143 => ?_
  obtain ⟨v144, m144, h144, rfl, x144⟩ := spec_lgate (m := m143) (k := 12) (q := q143) (n := [3, 4, 2].length) (c := [3, 4, 2].length)
  refine sCall2 rfl call69 rfl rfl h144 ?_
  refine sRow [4] rfl (by decide) (by kernel_rfl) fun q145 m145 o145 x145 => ?_
  obtain ⟨v146, m146, h146, rfl, x146⟩ := spec_lgate (m := m145) (k := 1) (q := q145) (n := [4].length) (c := [4].length)
  refine sCall2 rfl call69 rfl rfl h146 ?_
  refine sRow [1, 4] rfl (by decide) (by kernel_rfl) fun q147 m147 o147 x147 => ?_
  obtain ⟨v148, m148, h148, rfl, x148⟩ := spec_lgate (m := m147) (k := 9) (q := q147) (n := [1, 4].length) (c := [1, 4].length)
  refine sCall2 rfl call69 rfl rfl h148 ?_
  refine sRow [3] rfl (by decide) (by kernel_rfl) fun q149 m149 o149 x149 => ?_
  obtain ⟨v150, m150, h150, rfl, x150⟩ := spec_lgate (m := m149) (k := 1) (q := q149) (n := [3].length) (c := [3].length)
  refine sCall2 rfl call69 rfl rfl h150 ?_
  refine sRow [0, 3] rfl (by decide) (by kernel_rfl) fun q151 m151 o151 x151 => ?_
  obtain ⟨v152, m152, h152, rfl, x152⟩ := spec_lgate (m := m151) (k := 9) (q := q151) (n := [0, 3].length) (c := [0, 3].length)
  refine sCall2 rfl call69 rfl rfl h152 ?_
  refine sRow [2] rfl (by decide) (by kernel_rfl) fun q153 m153 o153 x153 => ?_
  obtain ⟨v154, m154, h154, rfl, x154⟩ := spec_lgate (m := m153) (k := 1) (q := q153) (n := [2].length) (c := [2].length)
  refine sCall2 rfl call69 rfl rfl h154 ?_
  refine sGates [(9, .slice q135 [0, 3].length [0, 3].length, [0, 3]), (1, .slice q137 [3].length [3].length, [3]), (9, .slice q139 [1, 4].length [1, 4].length, [1, 4]), (1, .slice q141 [4].length [4].length, [4]), (12, .slice q143 [3, 4, 2].length [3, 4, 2].length, [3, 4, 2]), (1, .slice q145 [4].length [4].length, [4]), (9, .slice q147 [1, 4].length [1, 4].length, [1, 4]), (1, .slice q149 [3].length [3].length, [3]), (9, .slice q151 [0, 3].length [0, 3].length, [0, 3]), (1, .slice q153 [2].length [2].length, [2])] (mem_cons (o135.ext ((((((((((((((((((x136.trans x137).trans x138).trans x139).trans x140).trans x141).trans x142).trans x143).trans x144).trans x145).trans x146).trans x147).trans x148).trans x149).trans x150).trans x151).trans x152).trans x153).trans x154)) (mem_cons (o137.ext ((((((((((((((((x138.trans x139).trans x140).trans x141).trans x142).trans x143).trans x144).trans x145).trans x146).trans x147).trans x148).trans x149).trans x150).trans x151).trans x152).trans x153).trans x154)) (mem_cons (o139.ext ((((((((((((((x140.trans x141).trans x142).trans x143).trans x144).trans x145).trans x146).trans x147).trans x148).trans x149).trans x150).trans x151).trans x152).trans x153).trans x154)) (mem_cons (o141.ext ((((((((((((x142.trans x143).trans x144).trans x145).trans x146).trans x147).trans x148).trans x149).trans x150).trans x151).trans x152).trans x153).trans x154)) (mem_cons (o143.ext ((((((((((x144.trans x145).trans x146).trans x147).trans x148).trans x149).trans x150).trans x151).trans x152).trans x153).trans x154)) (mem_cons (o145.ext ((((((((x146.trans x147).trans x148).trans x149).trans x150).trans x151).trans x152).trans x153).trans x154)) (mem_cons (o147.ext ((((((x148.trans x149).trans x150).trans x151).trans x152).trans x153).trans x154)) (mem_cons (o149.ext ((((x150.trans x151).trans x152).trans x153).trans x154)) (mem_cons (o151.ext ((x152.trans x153).trans x154)) (mem_cons (o153.ext x154) (mem_nil))))))))))) rfl (by decide) (by kernel_rfl) fun q155 m155 cs155 o155 x155 => ?_
  replace o155 : OwnG 0 m155 (.slice q155 10 10) cs155 [(9, [0, 3]), (1, [3]), (9, [1, 4]), (1, [4]), (12, [3, 4, 2]), (1, [4]), (9, [1, 4]), (1, [3]), (9, [0, 3]), (1, [2])] := o155
  obtain ⟨v156, m156, h156, rfl, x156⟩ := spec_lof (m := m155) (k := 5) (q := q155) (n := 10) (c := 10)
  refine sCall2 rfl call68 rfl rfl h156 ?_
  refine sAllocB (bl := m156.size) rfl Z30 (by kernel_rfl) ?_
  refine sStNAB rfl S30 rfl rfl rfl rfl (by kernel_rfl) ?_
  have xs16 : Ext m156 (m156.push (.cells true #[nv 5, nv 0, .slice q155 10 10])) := .push _ _
  have gs16 : Mem.get (m156.push (.cells true #[nv 5, nv 0, .slice q155 10 10])) m156.size = .cells true #[nv 5, nv 0, .slice q155 10 10] := gP rfl
  generalize m156.push (.cells true #[nv 5, nv 0, .slice q155 10 10]) = ms16 at *
  refine sNil (kSeqN ?_)
  refine cSeq ?_
  refine cRegion ?_
  refine sLdAll A30 S30 rfl (((((((((((((((((((((((((((((((((((((((((((((((((((((((((((x25.trans x29).trans x30).trans x31).trans x32).trans x33).trans x37).trans x38).trans xs6).trans x42).trans x43).trans x47).trans x48).trans x52).trans x59).trans x74).trans x75).trans x76).trans x77).trans x78).trans x79).trans x80).trans x81).trans x82).trans x98).trans x118).trans x119).trans x123).trans x124).trans xs14).trans x128).trans x129).trans x130).trans x131).trans x132).trans xs15).trans x135).trans x136).trans x137).trans x138).trans x139).trans x140).trans x141).trans x142).trans x143).trans x144).trans x145).trans x146).trans x147).trans x148).trans x149).trans x150).trans x151).trans x152).trans x153).trans x154).trans x155).trans x156).trans xs16).cells gs1) rfl ?_
  refine sRow [1] rfl (by decide) (by kernel_rfl) fun q159 m159 o159 x159 => ?_
  obtain ⟨v160, m160, h160, rfl, x160⟩ := spec_CleanX (hC.ext ((((((((((((((((((((((((((((((((((((((((((((((((((((((((((((((((x19.trans x20).trans x21).trans x22).trans xs1).trans x25).trans x29).trans x30).trans x31).trans x32).trans x33).trans x37).trans x38).trans xs6).trans x42).trans x43).trans x47).trans x48).trans x52).trans x59).trans x74).trans x75).trans x76).trans x77).trans x78).trans x79).trans x80).trans x81).trans x82).trans x98).trans x118).trans x119).trans x123).trans x124).trans xs14).trans x128).trans x129).trans x130).trans x131).trans x132).trans xs15).trans x135).trans x136).trans x137).trans x138).trans x139).trans x140).trans x141).trans x142).trans x143).trans x144).trans x145).trans x146).trans x147).trans x148).trans x149).trans x150).trans x151).trans x152).trans x153).trans x154).trans x155).trans x156).trans xs16).trans x159)) (o21.ext (((((((((((((((((((((((((((((((((((((((((((((((((((((((((((((x22.trans xs1).trans x25).trans x29).trans x30).trans x31).trans x32).trans x33).trans x37).trans x38).trans xs6).trans x42).trans x43).trans x47).trans x48).trans x52).trans x59).trans x74).trans x75).trans x76).trans x77).trans x78).trans x79).trans x80).trans x81).trans x82).trans x98).trans x118).trans x119).trans x123).trans x124).trans xs14).trans x128).trans x129).trans x130).trans x131).trans x132).trans xs15).trans x135).trans x136).trans x137).trans x138).trans x139).trans x140).trans x141).trans x142).trans x143).trans x144).trans x145).trans x146).trans x147).trans x148).trans x149).trans x150).trans x151).trans x152).trans x153).trans x154).trans x155).trans x156).trans xs16).trans x159)) c21 o159.ints (by decide) (by decide)
  rw [awF1n, awF1e] at h160
  refine sCall2 rfl call46 rfl rfl h160 ?_
  refine sMv (v := .tuple _) rfl ?_
  refine sP (v := nv _) rfl ?_   -- extract ['t157', '0']
  refine sP (v := nv _) rfl ?_   -- extract ['t157', '1']
  refine sAs (v := nv _) rfl ?_
  refine sAs (v := nv _) rfl ?_
  refine sNil (kSeqN ?_)
  refine cSeq ?_
  refine cRegion ?_
  refine sLdAll A30 S30 rfl (((((((((((((((((((((((((((((((((((((((((((((((((((((((((((((x25.trans x29).trans x30).trans x31).trans x32).trans x33).trans x37).trans x38).trans xs6).trans x42).trans x43).trans x47).trans x48).trans x52).trans x59).trans x74).trans x75).trans x76).trans x77).trans x78).trans x79).trans x80).trans x81).trans x82).trans x98).trans x118).trans x119).trans x123).trans x124).trans xs14).trans x128).trans x129).trans x130).trans x131).trans x132).trans xs15).trans x135).trans x136).trans x137).trans x138).trans x139).trans x140).trans x141).trans x142).trans x143).trans x144).trans x145).trans x146).trans x147).trans x148).trans x149).trans x150).trans x151).trans x152).trans x153).trans x154).trans x155).trans x156).trans xs16).trans x159).trans x160).cells gs1) rfl ?_
  refine sRow [0] rfl (by decide) (by kernel_rfl) fun q165 m165 o165 x165 => ?_
  obtain ⟨v166, m166, h166, rfl, x166⟩ := spec_BorrX (hC.ext ((((((((((((((((((((((((((((((((((((((((((((((((((((((((((((((((((x19.trans x20).trans x21).trans x22).trans xs1).trans x25).trans x29).trans x30).trans x31).trans x32).trans x33).trans x37).trans x38).trans xs6).trans x42).trans x43).trans x47).trans x48).trans x52).trans x59).trans x74).trans x75).trans x76).trans x77).trans x78).trans x79).trans x80).trans x81).trans x82).trans x98).trans x118).trans x119).trans x123).trans x124).trans xs14).trans x128).trans x129).trans x130).trans x131).trans x132).trans xs15).trans x135).trans x136).trans x137).trans x138).trans x139).trans x140).trans x141).trans x142).trans x143).trans x144).trans x145).trans x146).trans x147).trans x148).trans x149).trans x150).trans x151).trans x152).trans x153).trans x154).trans x155).trans x156).trans xs16).trans x159).trans x160).trans x165)) (o21.ext (((((((((((((((((((((((((((((((((((((((((((((((((((((((((((((((x22.trans xs1).trans x25).trans x29).trans x30).trans x31).trans x32).trans x33).trans x37).trans x38).trans xs6).trans x42).trans x43).trans x47).trans x48).trans x52).trans x59).trans x74).trans x75).trans x76).trans x77).trans x78).trans x79).trans x80).trans x81).trans x82).trans x98).trans x118).trans x119).trans x123).trans x124).trans xs14).trans x128).trans x129).trans x130).trans x131).trans x132).trans xs15).trans x135).trans x136).trans x137).trans x138).trans x139).trans x140).trans x141).trans x142).trans x143).trans x144).trans x145).trans x146).trans x147).trans x148).trans x149).trans x150).trans x151).trans x152).trans x153).trans x154).trans x155).trans x156).trans xs16).trans x159).trans x160).trans x165)) c21 o165.ints (by decide) (by decide)
  rw [awF2n, awF2e] at h166
  refine sCall2 rfl call48 rfl rfl h166 ?_
  refine sMv (v := .tuple _) rfl ?_
  refine sP (v := nv _) rfl ?_   -- extract ['t163', '0']
  refine sP (v := nv _) rfl ?_   -- extract ['t163', '1']
  refine sAs (v := nv _) rfl ?_
  refine sAs (v := nv _) rfl ?_
  refine sNil (kSeqN ?_)
  refine cSeq ?_
  refine cRegion ?_
  refine sRow [0, 1] rfl (by decide) (by kernel_rfl) fun q170 m170 o170 x170 => ?_
  obtain ⟨v171, m171, h171, rfl, x171⟩ := spec_lgate (m := m170) (k := 9) (q := q170) (n := [0, 1].length) (c := [0, 1].length)
  refine sCall2 rfl call69 rfl rfl h171 ?_
  refine sRow [0, 1] rfl (by decide) (by kernel_rfl) fun q172 m172 o172 x172 => ?_
  obtain ⟨v173, m173, h173, rfl, x173⟩ := spec_lgate (m := m172) (k := 9) (q := q172) (n := [0, 1].length) (c := [0, 1].length)
  refine sCall2 rfl call69 rfl rfl h173 ?_
  refine sGates [(9, .slice q170 [0, 1].length [0, 1].length, [0, 1]), (9, .slice q172 [0, 1].length [0, 1].length, [0, 1])] (mem_cons (o170.ext ((x171.trans x172).trans x173)) (mem_cons (o172.ext x173) (mem_nil))) rfl (by decide) (by kernel_rfl) fun q174 m174 cs174 o174 x174 => ?_
  replace o174 : OwnG 0 m174 (.slice q174 2 2) cs174 [(9, [0, 1]), (9, [0, 1])] := o174
  obtain ⟨v175, m175, h175, rfl, x175⟩ := spec_lof (m := m174) (k := 2) (q := q174) (n := 2) (c := 2)
  refine sCall2 rfl call68 rfl rfl h175 ?_
  refine sRow [0] rfl (by decide) (by kernel_rfl) fun q176 m176 o176 x176 => ?_
  obtain ⟨v177, m177, h177, rfl, x177⟩ := spec_BorrX (hC.ext ((((((((((((((((((((((((((((((((((((((((((((((((((((((((((((((((((((((((((x19.trans x20).trans x21).trans x22).trans xs1).trans x25).trans x29).trans x30).trans x31).trans x32).trans x33).trans x37).trans x38).trans xs6).trans x42).trans x43).trans x47).trans x48).trans x52).trans x59).trans x74).trans x75).trans x76).trans x77).trans x78).trans x79).trans x80).trans x81).trans x82).trans x98).trans x118).trans x119).trans x123).trans x124).trans xs14).trans x128).trans x129).trans x130).trans x131).trans x132).trans xs15).trans x135).trans x136).trans x137).trans x138).trans x139).trans x140).trans x141).trans x142).trans x143).trans x144).trans x145).trans x146).trans x147).trans x148).trans x149).trans x150).trans x151).trans x152).trans x153).trans x154).trans x155).trans x156).trans xs16).trans x159).trans x160).trans x165).trans x166).trans x170).trans x171).trans x172).trans x173).trans x174).trans x175).trans x176)) (o174.ext (x175.trans x176)) c174 o176.ints (by decide) (by decide)
  rw [awF3n, awF3e] at h177
  refine sCall2 rfl call48 rfl rfl h177 ?_
  refine sMv (v := .tuple _) rfl ?_
  refine sP (v := nv _) rfl ?_   -- extract ['t169', '0']
  refine sP (v := nv _) rfl ?_   -- extract ['t169', '1']
  refine sAs (v := nv _) rfl ?_
  refine sNil (kSeqN ?_)
  refine cSeq ?_
  refine cRegion ?_
  refine sMv (v := nv _) rfl ?_
  refine sBin (v := .bool true) (a := 6) (b := 6) rfl rfl (eqlT rfl) ?_
  refine sMv (v := .bool true) rfl ?_
  refine sG rfl rfl ?_
  refine sMv (v := nv _) rfl ?_
  refine sG rfl rfl ?_
  refine sBin (v := .bool true) (a := 0) (b := 0) rfl rfl (eqlT rfl) ?_
  refine sP (v := .bool true) rfl ?_
  refine sMv (v := .bool true) rfl ?_
  refine sG rfl rfl ?_
  refine sFA F30_2 rfl ?_
  refine sG rfl rfl ?_
  refine sLd (v := .slice q124 3 c124) A28 rfl (((((((((((((((((((((((((((((((((((((((((x128.trans x129).trans x130).trans x131).trans x132).trans xs15).trans x135).trans x136).trans x137).trans x138).trans x139).trans x140).trans x141).trans x142).trans x143).trans x144).trans x145).trans x146).trans x147).trans x148).trans x149).trans x150).trans x151).trans x152).trans x153).trans x154).trans x155).trans x156).trans xs16).trans x159).trans x160).trans x165).trans x166).trans x170).trans x171).trans x172).trans x173).trans x174).trans x175).trans x176).trans x177).cells gs14) rfl ?_
  refine sG rfl rfl ?_
  refine sLen T28 rfl ?_
  refine sG rfl rfl ?_
  refine sBin (v := .bool true) (a := 3) (b := 3) rfl rfl (eqlT rfl) ?_
  refine sP (v := .bool true) rfl ?_
  refine sMv (v := .bool true) rfl ?_
  refine sG rfl rfl ?_
  refine sLdAll A30 S30 rfl (((((((((((((((((((((((((((((((((((x135.trans x136).trans x137).trans x138).trans x139).trans x140).trans x141).trans x142).trans x143).trans x144).trans x145).trans x146).trans x147).trans x148).trans x149).trans x150).trans x151).trans x152).trans x153).trans x154).trans x155).trans x156).trans xs16).trans x159).trans x160).trans x165).trans x166).trans x170).trans x171).trans x172).trans x173).trans x174).trans x175).trans x176).trans x177).cells gs15) rfl ?_
  refine sG rfl rfl ?_
  refine sMv (v := nv _) rfl ?_
  refine sG rfl rfl ?_
  refine sLdAll A30 S30 rfl ((((((((((((x159.trans x160).trans x165).trans x166).trans x170).trans x171).trans x172).trans x173).trans x174).trans x175).trans x176).trans x177).cells gs16) rfl ?_
  refine sG rfl rfl ?_
  obtain ⟨v196, m196, h196, rfl, x196⟩ := spec_known (W := 5) (B := 0) (W' := 5) (B' := 0) (er := 0) (o132.gates.ext (((((((((((((((((((((((((((((((((((xs15.trans x135).trans x136).trans x137).trans x138).trans x139).trans x140).trans x141).trans x142).trans x143).trans x144).trans x145).trans x146).trans x147).trans x148).trans x149).trans x150).trans x151).trans x152).trans x153).trans x154).trans x155).trans x156).trans xs16).trans x159).trans x160).trans x165).trans x166).trans x170).trans x171).trans x172).trans x173).trans x174).trans x175).trans x176).trans x177)) (o155.gates.ext (((((((((((((x156.trans xs16).trans x159).trans x160).trans x165).trans x166).trans x170).trans x171).trans x172).trans x173).trans x174).trans x175).trans x176).trans x177)) (by decide) (by decide)
  rw [show (decide ((0 : Nat) = 0) && decide (5 = 5 ∧ 0 = 0 ∧ [(9, [0, 3]), (1, [3]), (9, [1, 4]), (1, [4]), (12, [3, 4, 2]), (1, [4]), (9, [1, 4]), (1, [3]), (9, [0, 3]), (1, [2])].map gvM = [(9, [0, 3]), (1, [3]), (9, [1, 4]), (1, [4]), (12, [3, 4, 2]), (1, [4]), (9, [1, 4]), (1, [3]), (9, [0, 3]), (1, [2])].map gvM)) = true by simp] at h196
  refine sCall3 rfl call70 rfl rfl rfl h196 ?_
  refine sP (v := .bool true) rfl ?_
  refine sMv (v := .bool true) rfl ?_
  refine sG rfl rfl ?_
  refine sMv (v := nv _) rfl ?_
  refine sG rfl rfl ?_
  refine sBin (v := .bool true) (a := 0) (b := 0) rfl rfl (eqlT rfl) ?_
  refine sP (v := .bool true) rfl ?_
  refine sMv (v := .bool true) rfl ?_
  refine sG rfl rfl ?_
  refine sMv (v := nv _) rfl ?_
  refine sG rfl rfl ?_
  refine sBin (v := .bool true) (a := 1) (b := 1) rfl rfl (eqlT rfl) ?_
  refine sP (v := .bool true) rfl ?_
  refine sMv (v := .bool true) rfl ?_
  refine sG rfl rfl ?_
  refine sMv (v := nv _) rfl ?_
  refine sG rfl rfl ?_
  refine sBin (v := .bool true) (a := 0) (b := 0) rfl rfl (eqlT rfl) ?_
  refine sP (v := .bool true) rfl ?_
  refine sMv (v := .bool true) rfl ?_
  refine sG rfl rfl ?_
  refine sMv (v := nv _) rfl ?_
  refine sG rfl rfl ?_
  refine sBin (v := .bool true) (a := 1) (b := 1) rfl rfl (eqlT rfl) ?_
  refine sP (v := .bool true) rfl ?_
  refine sMv (v := .bool true) rfl ?_
  refine sG rfl rfl ?_
  refine sMv (v := nv _) rfl ?_
  refine sG rfl rfl ?_
  refine sBin (v := .bool true) (a := 6) (b := 6) rfl rfl (eqlT rfl) ?_
  refine sP (v := .bool true) rfl ?_
  refine sAs (v := .bool _) rfl ?_
  refine sNil (kSeqN ?_)
  refine cRet ?_
  exact ⟨.inr rfl, _, rfl, rfl, ((((((((((((((((((((((((((((((((((((((((((((((((((((((((((((((((((((((((((((x19.trans x20).trans x21).trans x22).trans xs1).trans x25).trans x29).trans x30).trans x31).trans x32).trans x33).trans x37).trans x38).trans xs6).trans x42).trans x43).trans x47).trans x48).trans x52).trans x59).trans x74).trans x75).trans x76).trans x77).trans x78).trans x79).trans x80).trans x81).trans x82).trans x98).trans x118).trans x119).trans x123).trans x124).trans xs14).trans x128).trans x129).trans x130).trans x131).trans x132).trans xs15).trans x135).trans x136).trans x137).trans x138).trans x139).trans x140).trans x141).trans x142).trans x143).trans x144).trans x145).trans x146).trans x147).trans x148).trans x149).trans x150).trans x151).trans x152).trans x153).trans x154).trans x155).trans x156).trans xs16).trans x159).trans x160).trans x165).trans x166).trans x170).trans x171).trans x172).trans x173).trans x174).trans x175).trans x176).trans x177).trans x196)⟩
end Go.AM

/-! ### R32 -/
namespace Go.AM
open Go.Proofs
set_option maxRecDepth 100000
set_option linter.unusedVariables false
set_option linter.unusedSimpArgs false
theorem okf80 : okF Tryd.prog H0 80 9 = true := by kernel_rfl
theorem spec_bit {m : Mem} {x k : Nat} (hx : x < 9223372036854775808) : ∃ v m', ACalls Tryd.prog 80 #[nv x, nv k] m v m' ∧ (v = nv (x >>> k &&& 1) ∧ m = m') := by
  refine wpF (args := [_, _]) mixed okf80 (fn := Tryd.f80) rfl rfl rfl (by simp) ?_
  refine cSeq ?_
  refine cRegion ?_
  refine sAs (v := nv 0) rfl ?_
  refine sNil (kSeqN ?_)
  refine cSeq ?_
  refine cRegion ?_
  refine sMv (v := nv _) rfl ?_
  refine sMv (v := nv _) rfl ?_
  refine sBin (a := x) (b := k) rfl rfl (aInt_shr (by omega)) ?_
  have hsh := Nat.shiftRight_le x k
  refine sBin (b := 1) rfl rfl (aInt_and (by omega)) ?_
  refine sAs (v := nv _) rfl ?_
  refine sNil (kSeqN ?_)
  refine cRet ?_
  exact ⟨.inr rfl, _, rfl, rfl, rfl⟩
end Go.AM

/-! ### R33 -/
namespace Go.AM
open Go.Proofs
set_option maxRecDepth 100000
set_option linter.unusedVariables false
set_option linter.unusedSimpArgs false
theorem nodes3 : ∀ c < 8, nodesUp c 3 = wiresM c := by decide +kernel
theorem kind_if (n : Nat) (h : n ≤ 2) : (if n = 2 then 12 else if n = 1 then 9 else 1) = kindM n := by
  have : n = 0 ∨ n = 1 ∨ n = 2 := by omega
  rcases this with rfl | rfl | rfl <;> rfl
theorem okf81 : okF Tryd.prog H0 81 32 = true := by kernel_rfl
theorem spec_controlled {m : Mem} {k c : Nat} (hc : c < 8) (h2 : (wiresM c).length ≤ 2) : ∃ v m', ACalls Tryd.prog 81 #[nv k, nv c] m v m' ∧ (∃ w, v = .agg #[nv (turnG k (wiresM c)).1, w, nv 0, nv 0] ∧ OwnF (m.size + 1) m' w (ofs (turnG k (wiresM c)).2) ∧ Ext m m') := by
  refine wpF (args := [_, _]) mixed okf81 (fn := Tryd.f81) rfl rfl rfl (by simp) ?_
  refine cSeq ?_
  refine cRegion ?_
  refine sAlloc Z49 (by kernel_rfl) ?_
  change wpOps _ _ _ _ _ (m.push (.cells true #[nv 0, .slice none 0 0, nv 0, nv 0]))
  have e1 : Ext m (m.push (.cells true #[nv 0, .slice none 0 0, nv 0, nv 0])) := .push _ _
  have g1 : Mem.get (m.push (.cells true #[nv 0, .slice none 0 0, nv 0, nv 0])) m.size = .cells true #[nv 0, .slice none 0 0, nv 0, nv 0] := gP rfl
  have z1 : (m.push (.cells true #[nv 0, .slice none 0 0, nv 0, nv 0])).size = m.size + 1 := by simp
  generalize m.push (.cells true #[nv 0, .slice none 0 0, nv 0, nv 0]) = m1 at *
  refine sNil (kSeqN ?_)
  refine cSeq ?_
  refine cRegion ?_
  refine sAs (v := .slice _ _ _) rfl ?_
  refine sNil (kSeqN ?_)
  refine cSeq ?_
  refine cSeq ?_
  refine cRegion ?_
  refine sAs (v := nv 0) rfl ?_
  refine sNil (kSeqN ?_)
  refine cBlock ?_
  refine wpC_loop (fun k' ρ m' => ∃ i v, k' = 3 - i ∧ i ≤ 3 ∧ Ext m1 m' ∧ OwnF (m.size + 1) m' v (ofs (nodesUp c i)) ∧ Has ρ [(0, nv k), (1, nv c), (4, .pointer (some ⟨m.size, 0, none⟩)), (5, v), (6, nv i)]) ⟨0, _, rfl, by omega, .refl _, .nil _ _, rfl, rfl, rfl, rfl, rfl, trivial⟩ ?_
  rintro k' ρ m' ⟨i, v, rfl, hi, hE, hO, hh⟩
  obtain ⟨qv, cv, rfl⟩ := hO.ints.lenN
  rw [hh.env]; clear hh
  have hsz := hE.1
  have hnl := nodesUp_len c i
  refine cSeq ?_   -- seq 4
  refine cSeq ?_
  refine cRegion ?_
  refine sMv (v := nv _) rfl ?_
  refine sBin (b := 3) rfl rfl aInt_lss ?_
  refine sNil (kSeqN ?_)
  refine cCond rfl (fun c0 => ?_) (fun c0 => ?_)
  ·
    refine cSkip (kSeqN ?_)
    refine cSeq ?_
    refine cBlock ?_
    refine cSeq ?_
    refine cRegion ?_
    refine sMv (v := nv _) rfl ?_
    refine sMv (v := nv _) rfl ?_
    obtain ⟨v14, m14, h14, rfl, rfl⟩ := spec_bit (m := m') (x := c) (k := i) (by omega)
    refine sCall2 rfl call80 rfl rfl h14 ?_
    refine sBin (b := 1) rfl rfl aInt_eql ?_
    refine sNil (kSeqN ?_)
    refine cCond rfl (fun c1 => ?_) (fun c1 => ?_)
    ·
      have hb := (bit_one c i).1 c1
      refine cRegion ?_
      refine sMv (v := .slice _ _ _) rfl ?_
      refine sMv (v := nv _) rfl ?_
      refine sBuildS T22 S3 Z3 (by decide) (by decide) (by decide) (by kernel_rfl) fill1 rfl ?_
      refine sApp App22 rfl rfl (N := m.size + 1) (hO.ext (.push _ _)) one_ints (by simp; omega) (by simp; omega) fun v3 m3 hO3 hL3 => ?_
      have hI3 := hO3.ints
      obtain ⟨q3, cp3, rfl⟩ := hI3.len
      have hE3 : Ext m1 m3 := Low.to_ext (hE.trans (.push _ _)) hL3 (by omega)
      refine sAs (v := .slice _ _ _) rfl ?_
      refine sNil (kBlkN (kSeqN ?_))
      refine cRegion ?_
      refine sMv (v := nv _) rfl ?_
      refine sBin rfl rfl (aInt_add (b := 1) (by omega)) ?_
      refine sAs (v := nv _) rfl ?_
      refine sNil (kSeqN ?_)
      refine ⟨_, ?_, i + 1, _, rfl, by omega, hE3, by rw [nodesUp_succ, if_pos hb, ofs_append]; exact hO3, rfl, rfl, rfl, rfl, rfl, trivial⟩
      omega
    ·
      refine cSkip (kBlkN (kSeqN ?_))
      refine cRegion ?_
      refine sMv (v := nv _) rfl ?_
      refine sBin rfl rfl (aInt_add (b := 1) (by omega)) ?_
      refine sAs (v := nv _) rfl ?_
      refine sNil (kSeqN ?_)
      refine ⟨_, ?_, i + 1, _, rfl, by omega, hE, by rw [nodesUp_succ, if_neg (fun h => c1 ((bit_one c i).2 h)), List.append_nil]; exact hO, rfl, rfl, rfl, rfl, rfl, trivial⟩
      omega
  ·
    obtain rfl : i = 3 := by omega
    rw [nodes3 c hc] at *
    generalize wiresM c = l at *
    refine cExit (kSeqE (kSeqE (kBlkS (kSeqN ?_))))
    refine cSeq ?_
    refine cRegion ?_
    refine sAs (v := nv 1) rfl ?_
    refine sNil (kSeqN ?_)
    refine cCut (fun ρ M => m' = M ∧ Has ρ [(0, nv k), (4, .pointer (some ⟨m.size, 0, none⟩)), (5, .slice qv l.length cv), (7, nv (if l.length = 1 then 9 else 1))]) ?_ ?_
    ·
      refine cSeq ?_
      refine cRegion ?_
      refine sMv (v := .slice _ _ _) rfl ?_
      refine sLen T22 rfl ?_
      refine sBin (a := l.length) (b := 1) rfl rfl aInt_eql ?_
      refine sNil (kSeqN ?_)
      refine cCond rfl (fun c2 => ?_) (fun c2 => ?_)
      ·
        refine cRegion ?_
        refine sAs (v := nv 9) rfl ?_
        refine sNil (kSeqN ?_)
        exact ⟨rfl, rfl, rfl, rfl, by rw [if_pos c2]; rfl, trivial⟩
      ·
        refine cSkip (kSeqN ?_)
        exact ⟨rfl, rfl, rfl, rfl, by rw [if_neg c2]; rfl, trivial⟩
    rintro ρ _ ⟨rfl, hh⟩
    rw [hh.env]; clear hh
    refine cCut (fun ρ M => m' = M ∧ Has ρ [(0, nv k), (4, .pointer (some ⟨m.size, 0, none⟩)), (5, .slice qv l.length cv), (7, nv (kindM l.length))]) ?_ ?_
    ·
      refine cSeq ?_
      refine cRegion ?_
      refine sMv (v := .slice _ _ _) rfl ?_
      refine sLen T22 rfl ?_
      refine sBin (a := l.length) (b := 2) rfl rfl aInt_eql ?_
      refine sNil (kSeqN ?_)
      refine cCond rfl (fun c3 => ?_) (fun c3 => ?_)
      ·
        refine cRegion ?_
        refine sAs (v := nv 12) rfl ?_
        refine sNil (kSeqN ?_)
        exact ⟨rfl, rfl, rfl, rfl, by rw [← kind_if _ h2, if_pos c3]; rfl, trivial⟩
      ·
        refine cSkip (kSeqN ?_)
        exact ⟨rfl, rfl, rfl, rfl, by rw [← kind_if _ h2, if_neg c3]; rfl, trivial⟩
    rintro ρ _ ⟨rfl, hh⟩
    rw [hh.env]; clear hh
    refine cSeq ?_
    refine cRegion ?_
    refine sMv (v := nv _) rfl ?_
    refine sMv (v := .slice _ _ _) rfl ?_
    refine sMv (v := nv _) rfl ?_
    refine sBuildS T22 S3 Z3 (by decide) (by decide) (by decide) (by kernel_rfl) fill1 rfl ?_
    refine sApp App22 rfl rfl (N := m.size + 1) (hO.ext (.push _ _)) one_ints (by simp; omega) (by rw [ofs_length]; simp; omega) fun v13 m13 hO13 hL13 => ?_
    rw [show ofs l ++ [Int.ofNat k] = ofs (l ++ [k]) by rw [ofs_append]; rfl] at hO13
    obtain ⟨q13, c13, rfl⟩ := hO13.ints.lenN
    have hE13 : Ext m1 m13 := Low.to_ext (hE.trans (.push _ _)) hL13 (by omega)
    have g13 := hE13.cells g1
    refine sBuild B49k ?_
    refine sStAll S49 rfl rfl g13 rfl rfl (by kernel_rfl) ?_
    refine sNil (kSeqN ?_)
    refine cRet ?_
    refine ⟨.inr rfl, _, resRs_agg A49 S49 rfl (gS rfl (live g13)) rfl, _, rfl, ?_, ?_⟩
    · exact hO13.keep fun b hb => gSn (by have := (hO13.lt hb).1; omega)
    · exact (e1.trans hE13).set (b := m.size) (Nat.le_refl _) _
def H82 : Nat → List (Nat × Nat) := fun id => if id = 9 then [(8, 0)] else []
theorem okf82 : okF Tryd.prog H82 82 79 = true := by kernel_rfl
theorem spec_Done {m : Mem} {N kd x : Nat} {ws : Value} {w : List Nat} (hw : OwnF N m ws (ofs w)) (h0 : 0 < w.length) (h3 : w.length ≤ 3) (hkd : kd = kindM (w.length - 1)) (hlt : ∀ y ∈ w, y < 10) (hx : x < 2 ^ 10) : ∃ v m', ACalls Tryd.prog 82 #[.agg #[nv kd, ws, nv 0, nv 0], nv x] m v m' ∧ (v = nv (turnM x w) ∧ Ext m m') := by
  obtain ⟨b1, o1, p1, r1, cc, rfl, g0, x0⟩ := hw.ints.atN h0
  have hkc : (w.length = 1 ∧ kd = 1) ∨ (w.length = 2 ∧ kd = 9) ∨ (w.length = 3 ∧ kd = 12) := by
    have : w.length = 1 ∨ w.length = 2 ∨ w.length = 3 := by omega
    rcases this with h | h | h <;> rw [h] at hkd <;> simp [h, hkd, kindM]
  have hp2 : ∀ y ∈ w, 2 ^ y < 2 ^ 10 := fun y hy => Nat.pow_lt_pow_right (by decide) (hlt y hy)
  refine wpF (args := [_, _]) mixed okf82 (fn := Tryd.f82) rfl rfl rfl (by simp) ?_
  refine cSeq ?_
  refine cRegion ?_
  refine sBox (v := .agg _) rfl ?_
  change wpOps _ _ _ _ _ (m.push (.cells true #[nv kd, .slice (some ⟨b1, o1, some 1⟩) w.length p1, nv 0, nv 0]))
  have e1 : Ext m (m.push (.cells true #[nv kd, .slice (some ⟨b1, o1, some 1⟩) w.length p1, nv 0, nv 0])) := .push _ _
  have g1 : Mem.get (m.push (.cells true #[nv kd, .slice (some ⟨b1, o1, some 1⟩) w.length p1, nv 0, nv 0])) m.size = .cells true #[nv kd, .slice (some ⟨b1, o1, some 1⟩) w.length p1, nv 0, nv 0] := gP rfl
  generalize m.push (.cells true #[nv kd, .slice (some ⟨b1, o1, some 1⟩) w.length p1, nv 0, nv 0]) = M at *
  refine sAs (v := nv 0) rfl ?_
  refine sNil (kSeqN ?_)
  refine cSeq ?_
  refine cRegion ?_
  refine sFA F49_1 rfl ?_
  refine sLd (v := .slice _ _ _) A22 rfl g1 rfl ?_
  refine sAs (v := .slice _ _ _) rfl ?_
  refine sNil (kSeqN ?_)
  refine cSeq ?_
  refine cSeq ?_
  refine cRegion ?_
  refine sFA F49_0 rfl ?_
  refine sLd (v := nv kd) A3 rfl g1 rfl ?_
  refine sNil (kSeqN ?_)
  refine cBlock ?_
  refine cSeq ?_
  refine cRegion ?_
  refine sBin (a := kd) (b := 1) rfl rfl aInt_eql ?_
  refine sAs (v := .bool _) rfl ?_
  refine sNil (kSeqN ?_)
  refine cCond rfl (fun c0 => ?_) (fun c0 => ?_)
  ·
    obtain ⟨a, rfl⟩ : ∃ a, w = [a] := by match w, hkc with | [a], _ => exact ⟨a, rfl⟩ | [], h => simp at h | [_, _], h => simp at h; omega | _ :: _ :: _ :: _, h => simp at h; omega
    have ha := hlt a (by simp)
    have hpa := hp2 a (by simp)
    refine cSeq ?_
    refine cRegion ?_
    refine sMv (v := nv _) rfl ?_
    refine sMv (v := .slice _ _ _) rfl ?_
    refine sIx T22 S3 rfl rfl (show 0 < [a].length by simp) ?_
    refine sLd (v := nv a) A3 rfl (e1.cells g0) (x0 0 a rfl) ?_
    refine sBin rfl rfl (aInt_shl (a := 1) (by omega)) ?_
    rw [Nat.shiftLeft_eq, Nat.one_mul]
    refine sBin (a := x) (b := 2 ^ a) rfl rfl (aInt_xor ⟨by omega, by omega⟩) ?_
    refine sAs (v := nv _) rfl ?_
    refine sNil (kSeqN ?_)
    refine cRet (kBlkR (kSeqR ?_))
    exact ⟨.inr rfl, _, rfl, rfl, e1⟩
  ·
    refine cSeq ?_
    refine cRegion ?_
    refine sBin (a := kd) (b := 9) rfl rfl aInt_eql ?_
    refine sAs (v := .bool _) rfl ?_
    refine sNil (kSeqN ?_)
    refine cCond rfl (fun c1 => ?_) (fun c1 => ?_)
    ·
      obtain ⟨a, b, rfl⟩ : ∃ a b, w = [a, b] := by match w, hkc with | [a, b], _ => exact ⟨a, b, rfl⟩ | [], h => simp at h | [_], h => simp at h; omega | _ :: _ :: _ :: _, h => simp at h; omega
      have ha := hlt a (by simp)
      have hb := hlt b (by simp)
      have hpb := hp2 b (by simp)
      refine cSeq ?_
      refine cRegion ?_
      refine sMv (v := nv _) rfl ?_
      refine sMv (v := .slice _ _ _) rfl ?_
      refine sIx T22 S3 rfl rfl (show 0 < [a, b].length by simp) ?_
      refine sLd (v := nv a) A3 rfl (e1.cells g0) (x0 0 a rfl) ?_
      obtain ⟨v24, m24, h24, rfl, rfl⟩ := spec_bit (m := M) (x := x) (k := a) (by omega)
      refine sCall2 rfl call80 rfl rfl h24 ?_
      refine sBin (b := 1) rfl rfl aInt_eql ?_
      refine sNil (kSeqN ?_)
      refine cCond rfl (fun c2 => ?_) (fun c2 => ?_)
      ·
        refine cSeq ?_
        refine cRegion ?_
        refine sMv (v := nv _) rfl ?_
        refine sMv (v := .slice _ _ _) rfl ?_
        refine sIx T22 S3 rfl rfl (show 1 < [a, b].length by simp) ?_
        refine sLd (v := nv b) A3 rfl (e1.cells g0) (x0 1 b rfl) ?_
        refine sBin (a := 1) (b := b) rfl rfl (aInt_shl (by omega)) ?_
        rw [Nat.shiftLeft_eq, Nat.one_mul (2 ^ b)]
        refine sBin (a := x) (b := 2 ^ b) rfl rfl (aInt_xor ⟨by omega, by omega⟩) ?_
        refine sAs (v := nv _) rfl ?_
        refine sNil (kSeqN ?_)
        refine cRet (kBlkR (kSeqR ?_))
        have ht := (bit_one x a).1 c2
        exact ⟨.inr rfl, _, rfl, by rw [show turnM x [a, b] = x ^^^ 2 ^ b by simp [turnM, ht]]; rfl, e1⟩
      ·
        refine cSkip (kBlkN (kSeqN ?_))
        refine cSeq ?_
        refine cRegion ?_
        refine sMv (v := nv _) rfl ?_
        refine sAs (v := nv _) rfl ?_
        refine sNil (kSeqN ?_)
        refine cRet ?_
        have ht : x.testBit a = false := Bool.eq_false_iff.2 (fun h => c2 ((bit_one x a).2 h))
        exact ⟨.inr rfl, _, rfl, by rw [show turnM x [a, b] = x by simp [turnM, ht]]; rfl, e1⟩
    ·
      refine cSeq ?_
      refine cRegion ?_
      refine sBin (a := kd) (b := 11) rfl rfl aInt_eql ?_
      refine sAs (v := .bool _) rfl ?_
      refine sNil (kSeqN ?_)
      refine cCondF' rfl (by omega) ?_
      refine cSeq ?_
      refine cRegion ?_
      refine sBin (a := kd) (b := 12) rfl rfl aInt_eql ?_
      refine sAs (v := .bool _) rfl ?_
      refine sNil (kSeqN ?_)
      refine cCondT' rfl (by omega) ?_
      refine cSeq ?_
      refine cRegion ?_
      obtain ⟨a, b, c, rfl⟩ : ∃ a b c, w = [a, b, c] := by match w, hkc with | [a, b, c], _ => exact ⟨a, b, c, rfl⟩ | [], h => simp at h | [_], h => simp at h; omega | [_, _], h => simp at h; omega | _ :: _ :: _ :: _ :: _, h => simp at h3
      have ha := hlt a (by simp)
      have hb := hlt b (by simp)
      have hc := hlt c (by simp)
      have hpc := hp2 c (by simp)
      refine sMv (v := nv _) rfl ?_
      refine sMv (v := .slice _ _ _) rfl ?_
      refine sIx T22 S3 rfl rfl (show 0 < [a, b, c].length by simp) ?_
      refine sLd (v := nv a) A3 rfl (e1.cells g0) (x0 0 a rfl) ?_
      obtain ⟨v62, m62, h62, rfl, rfl⟩ := spec_bit (m := M) (x := x) (k := a) (by omega)
      refine sCall2 rfl call80 rfl rfl h62 ?_
      refine sBin (b := 1) rfl rfl aInt_eql ?_
      refine sMv (v := .bool _) rfl ?_
      by_cases h1 : x >>> a &&& 1 = 1
      ·
        rw [decide_eq_true h1]
        refine sG rfl rfl ?_
        refine sMv (v := nv _) rfl ?_
        refine sG rfl rfl ?_
        refine sMv (v := .slice _ _ _) rfl ?_
        refine sG rfl rfl ?_
        refine sIx T22 S3 rfl rfl (show 1 < [a, b, c].length by simp) ?_
        refine sG rfl rfl ?_
        refine sLd (v := nv b) A3 rfl (e1.cells g0) (x0 1 b rfl) ?_
        refine sG rfl rfl ?_
        obtain ⟨v69, m69, h69, rfl, rfl⟩ := spec_bit (m := M) (x := x) (k := b) (by omega)
        refine sCall2 rfl call80 rfl rfl h69 ?_
        refine sG rfl rfl ?_
        refine sBin (b := 1) rfl rfl aInt_eql ?_
        refine sP (v := .bool _) rfl ?_
        refine sNil (kSeqN ?_)
        refine cCond (p := x >>> b &&& 1 = 1) rfl (fun c5 => ?_) (fun c5 => ?_)
        ·
          refine cSeq ?_
          refine cRegion ?_
          refine sMv (v := nv _) rfl ?_
          refine sMv (v := .slice _ _ _) rfl ?_
          refine sIx T22 S3 rfl rfl (show 2 < [a, b, c].length by simp) ?_
          refine sLd (v := nv c) A3 rfl (e1.cells g0) (x0 2 c rfl) ?_
          refine sBin (a := 1) (b := c) rfl rfl (aInt_shl (by omega)) ?_
          rw [Nat.shiftLeft_eq, Nat.one_mul (2 ^ c)]
          refine sBin (a := x) (b := 2 ^ c) rfl rfl (aInt_xor ⟨by omega, by omega⟩) ?_
          refine sAs (v := nv _) rfl ?_
          refine sNil (kSeqN ?_)
          refine cRet (kBlkR (kSeqR ?_))
          have ht := (bit_one x a).1 h1
          have hu := (bit_one x b).1 c5
          exact ⟨.inr rfl, _, rfl, by rw [show turnM x [a, b, c] = x ^^^ 2 ^ c by simp [turnM, ht, hu]]; rfl, e1⟩
        ·
          refine cSkip (kBlkN (kSeqN ?_))
          refine cSeq ?_
          refine cRegion ?_
          refine sMv (v := nv _) rfl ?_
          refine sAs (v := nv _) rfl ?_
          refine sNil (kSeqN ?_)
          refine cRet ?_
          have hu : x.testBit b = false := Bool.eq_false_iff.2 (fun h => c5 ((bit_one x b).2 h))
          exact ⟨.inr rfl, _, rfl, by rw [show turnM x [a, b, c] = x by simp [turnM, hu]]; rfl, e1⟩
      ·
        rw [decide_eq_false h1]
        refine sGno (q' := false) rfl rfl (by simp) ?_
        refine sGno (q' := false) rfl rfl (by simp) ?_
        refine sGno (q' := false) rfl rfl (by simp) ?_
        refine sGno (q' := false) rfl rfl (by simp) ?_
        refine sGno (q' := false) rfl rfl (by simp) ?_
        refine sGno (q' := false) rfl rfl (by simp) ?_
        refine sP (v := .bool _) rfl ?_
        refine sNil (kSeqN ?_)
        refine cCondF rfl ?_
        refine cSkip (kBlkN (kSeqN ?_))
        refine cSeq ?_
        refine cRegion ?_
        refine sMv (v := nv _) rfl ?_
        refine sAs (v := nv _) rfl ?_
        refine sNil (kSeqN ?_)
        refine cRet ?_
        have ht : x.testBit a = false := Bool.eq_false_iff.2 (fun h => h1 ((bit_one x a).2 h))
        exact ⟨.inr rfl, _, rfl, by rw [show turnM x [a, b, c] = x by simp [turnM, ht]]; rfl, e1⟩
end Go.AM

/-! ### N7 -/
namespace Go.AM
open Go.Proofs
set_option maxRecDepth 100000
set_option linter.unusedVariables false
set_option linter.unusedSimpArgs false
section
variable {n i : Nat}
end
end Go.AM

/-! ### R34 -/
namespace Go.AM
open Go.Proofs
set_option maxRecDepth 100000
set_option linter.unusedVariables false
set_option linter.unusedSimpArgs false
/-- A gate ahead of others. -/
theorem OwnG.cons {N : Nat} {m : Mem} {bl kd : Nat} {ws : Value} {w : List Nat} (hg : Mem.get m bl = .cells true #[nv kd, ws, nv 0, nv 0]) (hN : N ≤ bl) (hw : OwnF N m ws (ofs w)) (hb : ∀ b, blkOf ws = some b → b ≠ bl) :
    OwnG N m (.slice (some ⟨bl, 0, some 4⟩) 1 1) #[nv kd, ws, nv 0, nv 0] [(kd, w)] := by
  refine ⟨.inr ⟨bl, 1, _, rfl, hN, hg, Nat.le_refl _, rfl, rfl, fun i _ => rfl⟩, fun i g hi => ?_⟩
  have h1 := (List.getElem?_eq_some_iff.1 hi).1
  obtain rfl : i = 0 := by simp at h1; exact h1
  obtain rfl : (kd, w) = g := by simpa using hi
  exact ⟨ws, rfl, rfl, rfl, rfl, hw, fun b h e => by injection e with e; exact hb b h e.symm⟩
end Go.AM

/-! ### R35 -/
namespace Go.AM
open Go.Proofs
set_option maxRecDepth 100000
set_option linter.unusedVariables false
set_option linter.unusedSimpArgs false
/-- What was met, in a row of truths. -/
def MetB (m : Mem) (b n : Nat) (met : List Nat) : Prop := ∃ B, Mem.get m b = .cells true B ∧ B.size = n ∧ ∀ y, y < n → B[y]? = some (.bool (decide (y ∈ met)))
theorem MetB.keep {m m' : Mem} {b n : Nat} {met : List Nat} (h : MetB m b n met) (he : Mem.get m' b = Mem.get m b) : MetB m' b n met := by
  obtain ⟨B, h1, h2⟩ := h; exact ⟨B, he.trans h1, h2⟩
end Go.AM

/-! ### R36 -/
namespace Go.AM
open Go.Proofs
set_option maxRecDepth 100000
set_option linter.unusedVariables false
set_option linter.unusedSimpArgs false
/-- What holds while gates are spoiled. -/
def SpJ (N M : Nat) (v : Value) (m m' : Mem) : Prop := (m.size + 1 ≤ m'.size ∧ ∀ b, b < m.size → b < N ∨ M ≤ b → Mem.get m' b = Mem.get m b) ∧ (∀ b, blkOf v = some b → Mem.get m' b = Mem.get m b) ∧ ∀ b c, b < m.size → Mem.get m b = .cells true c → ∃ c', Mem.get m' b = .cells true c' ∧ c'.size = c.size
theorem SpJ.next {N M : Nat} {v : Value} {m m' m2 : Mem} {o : AObj} (h : SpJ N M v m m') (hN : N ≤ m.size) (hv : ∀ b, blkOf v = some b → b < m.size) (hw : Wipe N M (m'.push o) m2) (hk : ∀ b, blkOf v = some b → Mem.get m2 b = Mem.get (m'.push o) b) : SpJ N M v m m2 := by
  obtain ⟨⟨h1, h2⟩, h3, h4⟩ := h
  refine ⟨⟨by rw [hw.1]; simp; omega, fun b hb hb' => ?_⟩, fun b hb => ?_, fun b c hb hc => ?_⟩
  · rw [hw.2.1 b hb', gPn (by omega)]; exact h2 b hb hb'
  · have := hv b hb
    rw [hk b hb, gPn (by omega)]; exact h3 b hb
  · obtain ⟨c1, hc1, e1⟩ := h4 b c hb hc
    obtain ⟨c2, hc2, e2⟩ := hw.2.2 b c1 ((gPn (by omega)).trans hc1)
    exact ⟨c2, hc2, e2.trans e1⟩
end Go.AM

/-! ### R38 -/
namespace Go.AM
open Go.Proofs
set_option maxRecDepth 100000
set_option linter.unusedVariables false
set_option linter.unusedSimpArgs false
def codeF (n x : Nat) : Nat := 8 * n + x
def codeM (p : List Nat) : Nat := p.foldl codeF p.length
theorem code_bound : ∀ (l : List Nat) (n : Nat), (∀ x ∈ l, x < 8) → l.foldl codeF n + 1 ≤ (n + 1) * 8 ^ l.length
  | [], n, _ => by simp
  | x :: l, n, h => by
    have hx := h x (by simp)
    have ih := code_bound l (codeF n x) fun y hy => h y (by simp [hy])
    simp only [List.foldl_cons, List.length_cons, Nat.pow_succ]
    refine Nat.le_trans ih ?_
    have h1 : codeF n x + 1 ≤ (n + 1) * 8 := by unfold codeF; omega
    calc (codeF n x + 1) * 8 ^ l.length ≤ ((n + 1) * 8) * 8 ^ l.length := Nat.mul_le_mul_right _ h1
      _ = (n + 1) * (8 ^ l.length * 8) := by rw [Nat.mul_assoc, Nat.mul_comm 8]
theorem code_inj0 : ∀ (p q : List Nat) (n k : Nat), p.length = q.length → (∀ x ∈ p, x < 8) → (∀ x ∈ q, x < 8) → p.foldl codeF n = q.foldl codeF k → n = k ∧ p = q
  | [], [], n, k, _, _, _, h => ⟨h, rfl⟩
  | [], _ :: _, n, k, h, _, _, _ => by simp at h
  | _ :: _, [], n, k, h, _, _, _ => by simp at h
  | x :: p, y :: q, n, k, hl, hp, hq, h => by
    obtain ⟨h1, h2⟩ := code_inj0 p q _ _ (by simpa using hl) (fun z hz => hp z (by simp [hz])) (fun z hz => hq z (by simp [hz])) h
    have hx := hp x (by simp)
    have hy := hq y (by simp)
    unfold codeF at h1
    exact ⟨by omega, by rw [h2, show x = y by omega]⟩
theorem code_inj {p q : List Nat} (hl : p.length = q.length) (hp : ∀ x ∈ p, x < 8) (hq : ∀ x ∈ q, x < 8) (h : codeM p = codeM q) : p = q := (code_inj0 p q _ _ hl hp hq h).2
theorem pick3 : ∀ k < 3, ∀ c < 8, c.testBit k = false → pickM k c = true ∧ (wiresM c).length ≤ 2 := by decide +kernel
theorem okf131 : okF Tryd.prog H0 131 20 = true := by kernel_rfl
theorem spec_code {m : Mem} {a : Value} {L : List Nat} (ha : IntsAt m a (ofs L)) (h8 : L.length ≤ 8) (hx : ∀ x ∈ L, x < 8) : ∃ v m', ACalls Tryd.prog 131 #[a] m v m' ∧ (v = nv (codeM L) ∧ m = m') := by
  obtain ⟨q, cap, rfl⟩ := ha.lenN
  refine wpF (args := [_]) mixed okf131 (fn := Tryd.f131) rfl rfl rfl (by simp) ?_
  refine cSeq ?_
  refine cRegion ?_
  refine sAs (v := nv 0) rfl ?_
  refine sNil (kSeqN ?_)
  refine cSeq ?_
  refine cRegion ?_
  refine sMv (v := .slice _ _ _) rfl ?_
  refine sLen T22 rfl ?_
  refine sAs (v := nv _) rfl ?_
  refine sNil (kSeqN ?_)
  refine cSeq ?_
  refine cSeq ?_
  refine cRegion ?_
  refine sMv (v := .slice _ _ _) rfl ?_
  refine sLen T22 rfl ?_
  refine sMv (v := nv 0) rfl ?_
  refine sNil (kSeqN ?_)
  refine cBlock ?_
  refine wpC_loop (fun k ρ m' => ∃ i, k = L.length - i ∧ i ≤ L.length ∧ m = m' ∧ Has ρ [(0, .slice q L.length cap), (3, nv ((L.take i).foldl codeF L.length)), (8, .slice q L.length cap), (9, nv L.length), (10, nv i)]) ⟨0, rfl, Nat.zero_le _, rfl, rfl, rfl, rfl, rfl, rfl, trivial⟩ ?_
  rintro k ρ _ ⟨i, rfl, hi, rfl, hh⟩
  rw [hh.env]; clear hh
  have hb := code_bound (L.take i) L.length (fun x h => hx x (List.mem_of_mem_take h))
  have hb2 : (L.length + 1) * 8 ^ (L.take i).length ≤ 9 * 8 ^ 8 := Nat.mul_le_mul (by omega) (Nat.pow_le_pow_right (by decide) (by rw [List.length_take]; omega))
  generalize hN : (L.take i).foldl codeF L.length = n at *
  refine cSeq ?_
  refine cRegion ?_
  refine sBin rfl rfl (aInt_lss) ?_
  refine sNil (kSeqN ?_)
  refine cSeq ?_   -- seq 5
  refine cCond rfl (fun c0 => ?_) (fun c0 => ?_)
  ·
    obtain ⟨b1, o1, p1, r1, cc, e1, g1, x1⟩ := ha.atN (by omega)
    cases e1
    obtain ⟨x, hx0⟩ : ∃ x, L[i]? = some x := ⟨_, List.getElem?_eq_getElem c0⟩
    have hx8 := hx x (List.mem_of_getElem? hx0)
    refine cSkip (kSeqN ?_)
    refine cSeq ?_
    refine cBlock ?_
    refine cSeq ?_
    refine cRegion ?_
    refine sIx T22 S3 rfl rfl (by omega) ?_
    refine sLd (v := nv x) A3 rfl g1 (x1 i x hx0) ?_
    refine sAs (v := nv _) rfl ?_
    refine sNil (kSeqN ?_)
    refine cRegion ?_
    refine sMv (v := nv _) rfl ?_
    refine sBin (a := 8) (b := n) rfl rfl (aInt_mul (by omega)) ?_
    refine sMv (v := nv _) rfl ?_
    refine sBin (a := 8 * n) (b := x) rfl rfl (aInt_add (by omega)) ?_
    refine sAs (v := nv _) rfl ?_
    refine sNil (kBlkN (kSeqN ?_))
    refine cRegion ?_
    refine sBin rfl rfl (aInt_add (b := 1) (by omega)) ?_
    refine sMv (v := nv _) rfl ?_
    refine sNil (kSeqN ?_)
    refine ⟨_, ?_, i + 1, rfl, by omega, rfl, rfl, ?_, rfl, rfl, rfl, trivial⟩
    · omega
    · rw [List.take_add_one, hx0, List.foldl_append, hN]; rfl
  ·
    obtain rfl : i = L.length := by omega
    rw [List.take_length] at hN
    refine cExit (kSeqE (kSeqE (kBlkS (kSeqN ?_))))
    refine cSeq ?_
    refine cRegion ?_
    refine sMv (v := nv _) rfl ?_
    refine sAs (v := nv _) rfl ?_
    refine sNil (kSeqN ?_)
    refine cRet ?_
    exact ⟨.inr rfl, _, rfl, by rw [codeM, hN]; rfl, rfl⟩
theorem okf132 : okF Tryd.prog H0 132 28 = true := by kernel_rfl
theorem spec_rGates {m : Mem} {n : Nat} (hn : n ≤ 3) : ∃ v m', ACalls Tryd.prog 132 #[nv n] m v m' ∧ (∃ cs, OwnG m.size m' v cs (gatesM n) ∧ Ext m m') := by
  have h8 := two_pow3 hn
  refine wpF (args := [_]) mixed okf132 (fn := Tryd.f132) rfl rfl rfl (by simp) ?_
  refine cSeq ?_
  refine cRegion ?_
  refine sAs (v := .slice _ _ _) rfl ?_
  refine sNil (kSeqN ?_)
  refine cSeq ?_
  refine cRegion ?_
  refine sAs (v := .slice _ _ _) rfl ?_
  refine sNil (kSeqN ?_)
  refine cSeq ?_
  refine cSeq ?_
  refine cRegion ?_
  refine sAs (v := nv 0) rfl ?_
  refine sNil (kSeqN ?_)
  refine cBlock ?_
  refine wpC_loop (fun q ρ m' => ∃ k v cs, q = n - k ∧ k ≤ n ∧ Ext m m' ∧ OwnG m.size m' v cs (gatesUp k n) ∧ Has ρ [(0, nv n), (3, v), (4, nv k)]) ⟨0, .slice none 0 0, #[], rfl, Nat.zero_le _, .refl _, .nil _ _, rfl, rfl, rfl, trivial⟩ ?_
  rintro q ρ m' ⟨k, v, cs, rfl, hk, hE, hO, hh⟩
  obtain ⟨qv, cv, rfl⟩ := hO.1.len
  rw [hh.env]; clear hh
  have hgl := gatesUp_len k n hn
  refine cSeq ?_   -- seq 4
  refine cSeq ?_
  refine cRegion ?_
  refine sMv (v := nv _) rfl ?_
  refine sMv (v := nv _) rfl ?_
  refine sBin rfl rfl (aInt_lss) ?_
  refine sNil (kSeqN ?_)
  refine cCond rfl (fun c0 => ?_) (fun c0 => ?_)
  ·
    refine cSkip (kSeqN ?_)
    refine cSeq ?_
    refine cBlock ?_
    refine cSeq ?_
    refine cRegion ?_
    refine sAs (v := nv 0) rfl ?_
    refine sNil (kSeqN ?_)
    refine cBlock ?_
    refine wpC_loop (fun q ρ m2 => ∃ i v cs, q = 2 ^ n - i ∧ i ≤ 2 ^ n ∧ Ext m m2 ∧ OwnG m.size m2 v cs (gatesUp k n ++ gatesK k i) ∧ Has ρ [(0, nv n), (3, v), (4, nv k), (5, nv i)]) ⟨0, _, cs, rfl, Nat.zero_le _, hE, by rw [show gatesK k 0 = [] from rfl, List.append_nil]; exact hO, rfl, rfl, rfl, rfl, trivial⟩ ?_
    rintro q ρ m2 ⟨i, v, cs, rfl, hi, hE2, hO2, hh⟩
    obtain ⟨qv, cv, rfl⟩ := hO2.1.len
    rw [hh.env]; clear hh
    have hgk := gatesK_len k i
    have hz2 := hE2.1
    refine cSeq ?_   -- seq 8
    refine cSeq ?_
    refine cRegion ?_
    refine sMv (v := nv _) rfl ?_
    refine sMv (v := nv _) rfl ?_
    refine sBin rfl rfl (aInt_shl (a := 1) (by omega)) ?_
    rw [Nat.shiftLeft_eq, Nat.one_mul]
    refine sBin (a := i) (b := 2 ^ n) rfl rfl aInt_lss ?_
    refine sNil (kSeqN ?_)
    refine cCond rfl (fun c1 => ?_) (fun c1 => ?_)
    ·
      refine cSkip (kSeqN ?_)
      refine cSeq ?_
      refine cBlock ?_
      refine cSeq ?_
      refine cRegion ?_
      refine sMv (v := nv _) rfl ?_
      refine sMv (v := nv _) rfl ?_
      obtain ⟨v19, m19, h19, rfl, rfl⟩ := spec_bit (m := m2) (x := i) (k := k) (by omega)
      refine sCall2 rfl call80 rfl rfl h19 ?_
      refine sBin (b := 0) rfl rfl aInt_eql ?_
      refine sNil (kSeqN ?_)
      refine cCond rfl (fun c2 => ?_) (fun c2 => ?_)
      ·
        obtain ⟨hpk, hwl⟩ := pick3 k (by omega) i (by omega) ((bit_zero i k).1 c2)
        refine cRegion ?_
        refine sMv (v := .slice _ _ _) rfl ?_
        refine sMv (v := nv _) rfl ?_
        refine sMv (v := nv _) rfl ?_
        obtain ⟨v24, m24, h24, w24, rfl, o24, e24⟩ := spec_controlled (m := m2) (k := k) (c := i) (by omega) hwl
        obtain ⟨q24, c24, rfl⟩ := o24.ints.lenN
        refine sCall2 rfl call81 rfl rfl h24 ?_
        have z24 := e24.1
        refine sBuildS T28 S49 Z49 (by decide) (by decide) (by decide) (by kernel_rfl) fillA4 rfl ?_
        refine sAppC El55 rfl rfl (N := m.size) (n := (gatesUp k n ++ gatesK k i).length) (cs := cs) ((hO2.ext e24).1.ext (.push _ _)) (gP rfl) rfl (by kernel_rfl) (by simp; omega) (by rw [List.length_append]; omega) fun v' m4 hO4 hL4 hG4 => ?_
        have hgr := ((hO2.ext e24).ext (.push _ _)).grew (s := .slice q24 (turnG k (wiresM i)).2.length c24) (k := (turnG k (wiresM i)).1) (w := (turnG k (wiresM i)).2) ((o24.mono (by omega)).ext (.push _ _)) (fun b hb e => by
          have h1 := (o24.lt hb).1
          have h2 := (hO2.1.lt e).2
          omega) hG4 hO4
        obtain ⟨q4, cp4, rfl⟩ := hO4.len
        refine sAs (v := .slice _ _ _) rfl ?_
        refine sNil (kBlkN (kSeqN ?_))
        refine cRegion ?_
        refine sMv (v := nv _) rfl ?_
        refine sBin rfl rfl (aInt_add (b := 1) (by omega)) ?_
        refine sAs (v := nv _) rfl ?_
        refine sNil (kSeqN ?_)
        refine ⟨_, ?_, i + 1, _, cs ++ #[nv (turnG k (wiresM i)).1, .slice q24 (turnG k (wiresM i)).2.length c24, nv 0, nv 0], rfl, by omega, Low.to_ext ((hE2.trans e24).trans (.push _ _)) hL4 (Nat.le_refl _), ?_, rfl, rfl, rfl, rfl, trivial⟩
        · omega
        · rw [gatesK_succ, hpk, if_pos rfl, ← List.append_assoc]; exact hgr
      ·
        refine cSkip (kBlkN (kSeqN ?_))
        refine cRegion ?_
        refine sMv (v := nv _) rfl ?_
        refine sBin rfl rfl (aInt_add (b := 1) (by omega)) ?_
        refine sAs (v := nv _) rfl ?_
        refine sNil (kSeqN ?_)
        refine ⟨_, ?_, i + 1, _, cs, rfl, by omega, hE2, ?_, rfl, rfl, rfl, rfl, trivial⟩
        · omega
        · have hpk : pickM k i = false := by
            unfold pickM
            cases hb : i.testBit k with
            | true => rfl
            | false => exact absurd ((bit_zero i k).2 hb) c2
          rw [gatesK_succ, hpk, if_neg (by decide), List.append_nil]; exact hO2
    ·
      obtain rfl : i = 2 ^ n := by omega
      refine cExit (kSeqE (kSeqE (kBlkS (kBlkN (kSeqN ?_)))))
      refine cRegion ?_
      refine sMv (v := nv _) rfl ?_
      refine sBin rfl rfl (aInt_add (b := 1) (by omega)) ?_
      refine sAs (v := nv _) rfl ?_
      refine sNil (kSeqN ?_)
      refine ⟨_, ?_, k + 1, _, cs, rfl, by omega, hE2, ?_, rfl, rfl, rfl, trivial⟩
      · omega
      · rw [gatesUp_succ]; exact hO2
  ·
    refine cExit (kSeqE (kSeqE (kBlkS (kSeqN ?_))))
    refine cSeq ?_
    refine cRegion ?_
    refine sMv (v := .slice _ _ _) rfl ?_
    refine sAs (v := .slice _ _ _) rfl ?_
    refine sNil (kSeqN ?_)
    refine cRet ?_
    obtain rfl : k = n := by omega
    exact ⟨.inr rfl, _, rfl, cs, hO, hE⟩
end Go.AM

/-! ### N8 -/
namespace Go.AM
open Go.Proofs
set_option maxRecDepth 100000
set_option linter.unusedVariables false
set_option linter.unusedSimpArgs false
def lvTry (p : List Nat) (K : List (List Nat)) (g : Nat × List Nat) : List (List Nat) := if doL g.2 p ∈ K then K else K ++ [doL g.2 p]
def lvTries (p : List Nat) (gs : List (Nat × List Nat)) (K : List (List Nat)) : List (List Nat) := gs.foldl (lvTry p) K
def lvRun (n : Nat) : Nat → Nat → List (List Nat) → List (List Nat)
  | 0, _, K => K
  | c + 1, i, K => lvRun n c (i + 1) (lvTries (K.getD i []) (gatesM n) K)
def lvS (n : Nat) : Nat → Nat × List (List Nat)
  | 0 => (0, [List.range (2 ^ n)])
  | d + 1 => ((lvS n d).2.length, lvRun n ((lvS n d).2.length - (lvS n d).1) (lvS n d).1 (lvS n d).2)
def lvl (n d : Nat) : List (List Nat) := (lvS n d).2.drop (lvS n d).1
/-- A table of n wires. -/
def PermT (n : Nat) (p : List Nat) : Prop := p.length = 2 ^ n ∧ ∀ x ∈ p, x < 2 ^ n
theorem PermT.next {n : Nat} {p : List Nat} {g : Nat × List Nat} (h : PermT n p) (hg : g ∈ gatesM n) : PermT n (doL g.2 p) := by
  obtain ⟨h1, h2, _⟩ := gatesM_lt hg
  refine ⟨by simp [doL, h.1], fun x hx => ?_⟩
  unfold doL at hx
  rw [List.mem_map] at hx
  obtain ⟨y, hy, rfl⟩ := hx
  exact turnM_lt (h.2 y hy) h1 h2
theorem PermT.range (n : Nat) : PermT n (List.range (2 ^ n)) := ⟨by simp, fun x hx => by simpa using hx⟩
theorem lvTry_app (p : List Nat) (K : List (List Nat)) (g : Nat × List Nat) : ∃ R, lvTry p K g = K ++ R ∧ R.length ≤ 1 := by
  unfold lvTry
  split
  · exact ⟨[], by simp, by simp⟩
  · exact ⟨_, rfl, by simp⟩
theorem lvTries_app (p : List Nat) : ∀ (gs : List (Nat × List Nat)) (K : List (List Nat)), ∃ R, lvTries p gs K = K ++ R ∧ R.length ≤ gs.length
  | [], K => ⟨[], by simp [lvTries], by simp⟩
  | g :: gs, K => by
    obtain ⟨R, h1, h2⟩ := lvTry_app p K g
    obtain ⟨S, h3, h4⟩ := lvTries_app p gs (lvTry p K g)
    refine ⟨R ++ S, ?_, by simp; omega⟩
    show lvTries p gs (lvTry p K g) = _
    rw [h3, h1, List.append_assoc]
theorem lvRun_app (n : Nat) : ∀ (c i : Nat) (K : List (List Nat)), ∃ R, lvRun n c i K = K ++ R ∧ R.length ≤ c * (gatesM n).length
  | 0, i, K => ⟨[], by simp [lvRun], by simp⟩
  | c + 1, i, K => by
    obtain ⟨R, h1, h2⟩ := lvTries_app (K.getD i []) (gatesM n) K
    obtain ⟨S, h3, h4⟩ := lvRun_app n c (i + 1) (lvTries (K.getD i []) (gatesM n) K)
    refine ⟨R ++ S, by rw [lvRun, h3, h1, List.append_assoc], by rw [List.length_append, Nat.succ_mul]; omega⟩
theorem lvRun_step (n : Nat) : ∀ (c i : Nat) (K : List (List Nat)), lvRun n (c + 1) i K = lvTries ((lvRun n c i K).getD (i + c) []) (gatesM n) (lvRun n c i K)
  | 0, i, K => rfl
  | c + 1, i, K => by
    have := lvRun_step n c (i + 1) (lvTries (K.getD i []) (gatesM n) K)
    rw [lvRun, this, show i + 1 + c = i + (c + 1) by omega]; rfl
theorem lvS_len {n : Nat} (hn : n ≤ 3) : ∀ d, (lvS n d).1 ≤ (lvS n d).2.length ∧ (lvS n d).2.length - (lvS n d).1 ≤ 12 ^ d ∧ (lvS n d).1 * 11 + 1 ≤ 12 ^ d
  | 0 => by simp [lvS]
  | d + 1 => by
    obtain ⟨h1, h2, h3⟩ := lvS_len hn d
    obtain ⟨R, e1, e2⟩ := lvRun_app n ((lvS n d).2.length - (lvS n d).1) (lvS n d).1 (lvS n d).2
    have hg := gatesM_len hn
    have e3 : ((lvS n d).2.length - (lvS n d).1) * (gatesM n).length ≤ 12 ^ d * 12 := Nat.mul_le_mul h2 hg
    simp only [lvS, e1, List.length_append, Nat.pow_succ]
    omega
theorem lvS_30000 {n d : Nat} (hn : n ≤ 3) (hd : d ≤ 4) : (lvS n d).2.length ≤ 22621 := by
  obtain ⟨h1, h2, h3⟩ := lvS_len hn d
  have h4 : 12 ^ d ≤ 12 ^ 4 := Nat.pow_le_pow_right (by decide) hd
  omega
theorem lvTries_perm {n : Nat} {p : List Nat} (hp : PermT n p) : ∀ (gs : List (Nat × List Nat)) (K : List (List Nat)), (∀ g ∈ gs, g ∈ gatesM n) → (∀ q ∈ K, PermT n q) → ∀ q ∈ lvTries p gs K, PermT n q
  | [], K, _, h => h
  | g :: gs, K, hg, h => by
    refine lvTries_perm hp gs (lvTry p K g) (fun x hx => hg x (by simp [hx])) fun q hq => ?_
    unfold lvTry at hq
    split at hq
    · exact h q hq
    · rw [List.mem_append] at hq
      rcases hq with hq | hq
      · exact h q hq
      · rw [List.mem_singleton] at hq; subst hq; exact hp.next (hg g (by simp))
theorem lvRun_perm {n : Nat} : ∀ (c i : Nat) (K : List (List Nat)), i + c ≤ K.length → (∀ q ∈ K, PermT n q) → ∀ q ∈ lvRun n c i K, PermT n q
  | 0, i, K, _, h => h
  | c + 1, i, K, hi, h => by
    have hil : i < K.length := by omega
    have hp : PermT n (K.getD i []) := by
      rw [List.getD_eq_getElem?_getD, List.getElem?_eq_getElem hil]; exact h _ (List.getElem_mem _)
    obtain ⟨R, h1, _⟩ := lvTries_app (K.getD i []) (gatesM n) K
    exact lvRun_perm c (i + 1) _ (by rw [h1, List.length_append]; omega) (lvTries_perm hp _ _ (fun g hg => hg) h)
theorem lvS_perm {n : Nat} (hn : n ≤ 3) : ∀ d, ∀ q ∈ (lvS n d).2, PermT n q
  | 0 => fun q hq => by simp only [lvS, List.mem_singleton] at hq; subst hq; exact PermT.range n
  | d + 1 => by
    have := (lvS_len hn d).1
    exact lvRun_perm _ _ _ (by omega) (lvS_perm hn d)
theorem lvl_perm {n d : Nat} (hn : n ≤ 3) : ∀ q ∈ lvl n d, PermT n q := fun q hq => lvS_perm hn d q (List.mem_of_mem_drop hq)
/-! ### The same as by breadth -/
theorem tab8_inj {p q : List Nat} (h : p.length = q.length) (e : tab8 p = tab8 q) : p = q := by
  unfold tab8 at e
  exact (List.append_inj e h).1
theorem tab8_get {p : List Nat} {x : Nat} (hp : p.length ≤ 8) : (tab8 p).getD x 0 = p.getD x 0 := by
  unfold tab8
  rw [List.getD_eq_getElem?_getD, List.getD_eq_getElem?_getD]
  by_cases h : x < p.length
  · rw [List.getElem?_append_left h]
  · rw [List.getElem?_append_right (by omega), List.getElem?_eq_none (l := p) (by omega), List.getElem?_replicate]
    split <;> rfl
theorem tab8_len8 {p : List Nat} (hp : p.length ≤ 8) : (tab8 p).length = 8 := by simp [tab8]; omega
theorem next_tab8 {n : Nat} {p : List Nat} {g : Nat × List Nat} (hn : n ≤ 3) (hp : PermT n p) : nextT n g (tab8 p) = tab8 (doL g.2 p) := by
  have h8 := two_pow3 hn
  have hl := hp.1
  apply List.ext_getElem?
  intro x
  unfold nextT nextUp
  by_cases hx : x < 8
  · rw [List.getElem?_map, List.getElem?_range hx]
    have e : (tab8 (doL g.2 p))[x]? = some ((tab8 (doL g.2 p)).getD x 0) := by
      rw [List.getD_eq_getElem?_getD, List.getElem?_eq_getElem (by rw [tab8_len8 (by simp [doL]; omega)]; exact hx)]; rfl
    rw [e, tab8_get (p := doL g.2 p) (by simp [doL]; omega)]
    simp only [Option.map_some]
    rw [tab8_get (p := p) (by omega)]
    congr 1
    by_cases h : x < 2 ^ n
    · rw [if_pos h, doL_getD (x := p.getD x 0)]
      rw [List.getD_eq_getElem?_getD, List.getElem?_eq_getElem (by omega)]; rfl
    · rw [if_neg h, List.getD_eq_getElem?_getD, List.getD_eq_getElem?_getD, List.getElem?_eq_none (by omega), List.getElem?_eq_none (by simp [doL]; omega)]
  · rw [List.getElem?_eq_none (by simp; omega), List.getElem?_eq_none (by rw [tab8_len8 (by simp [doL]; omega)]; omega)]
theorem id_tab8 {n : Nat} (hn : n ≤ 3) : idM n = tab8 (List.range (2 ^ n)) := by
  have : n = 0 ∨ n = 1 ∨ n = 2 ∨ n = 3 := by omega
  rcases this with rfl | rfl | rfl | rfl <;> decide
theorem find_mem {n : Nat} {L : List Met} {K : List (List Nat)} {q : List Nat} (ht : L.map (·.tab) = K.map tab8) (hK : ∀ p ∈ K, PermT n p) (hq : PermT n q) : (metFind (tab8 q) L).isSome = true ↔ q ∈ K := by
  unfold metFind
  rw [List.find?_isSome]
  constructor
  · rintro ⟨e, he, h⟩
    have h1 : e.tab ∈ L.map (·.tab) := List.mem_map.2 ⟨e, he, rfl⟩
    rw [ht] at h1
    obtain ⟨p, hp, e1⟩ := List.mem_map.1 h1
    have h2 : tab8 q = e.tab := by simpa using h
    have := tab8_inj ((hK p hp).1.trans hq.1.symm) (e1.trans h2.symm)
    rwa [← this]
  · intro h
    have h1 : tab8 q ∈ L.map (·.tab) := by rw [ht]; exact List.mem_map.2 ⟨q, h, rfl⟩
    obtain ⟨e, he, e1⟩ := List.mem_map.1 h1
    exact ⟨e, he, by simpa using e1.symm⟩
theorem tries_cor {n : Nat} (hn : n ≤ 3) {e : Met} {p : List Nat} (he : e.tab = tab8 p) (hp : PermT n p) : ∀ (gs : List (Nat × List Nat)) (k : Nat) (L : List Met) (K : List (List Nat)), (∀ g ∈ gs, g ∈ gatesM n) → L.map (·.tab) = K.map tab8 → (∀ q ∈ K, PermT n q) →
    (triesR n e gs k L).map (·.tab) = (lvTries p gs K).map tab8 ∧ ∃ R, triesR n e gs k L = L ++ R ∧ ∀ x ∈ R, x.many = e.many + 1
  | [], k, L, K, _, h, _ => ⟨h, [], by simp [triesR], by simp⟩
  | g :: gs, k, L, K, hg, h, hK => by
    have hgm := hg g (by simp)
    have hq := hp.next hgm
    have hf := find_mem h hK hq
    have hnx := next_tab8 (g := g) hn hp
    have e1 : nextT n g e.tab = tab8 (doL g.2 p) := by rw [he, hnx]
    have key : (tryR n e g k L).map (·.tab) = (lvTry p K g).map tab8 ∧ ∃ R, tryR n e g k L = L ++ R ∧ ∀ x ∈ R, x.many = e.many + 1 := by
      unfold tryR lvTry
      rw [e1]
      by_cases hc : doL g.2 p ∈ K
      · rw [if_pos (hf.2 hc), if_pos hc]
        exact ⟨h, [], by simp, by simp⟩
      · rw [if_neg (fun hh => hc (hf.1 hh)), if_neg hc]
        refine ⟨by rw [List.map_append, List.map_append, h]; rfl, _, rfl, fun x hx => ?_⟩
        rw [List.mem_singleton] at hx; subst hx; rfl
    obtain ⟨k1, R, k2, k3⟩ := key
    have hK2 : ∀ q ∈ lvTry p K g, PermT n q := lvTries_perm hp [g] K (fun x hx => by rw [List.mem_singleton] at hx; subst hx; exact hgm) hK
    obtain ⟨j1, S, j2, j3⟩ := tries_cor hn he hp gs (k + 1) (tryR n e g k L) (lvTry p K g) (fun x hx => hg x (by simp [hx])) k1 hK2
    refine ⟨j1, R ++ S, ?_, fun x hx => ?_⟩
    · show triesR n e gs (k + 1) (tryR n e g k L) = _
      rw [j2, k2, List.append_assoc]
    · rw [List.mem_append] at hx
      rcases hx with hx | hx
      · exact k3 x hx
      · exact j3 x hx
/-- The list of what was met, and the levels. -/
structure Cor (n d a b : Nat) (L : List Met) (K : List (List Nat)) : Prop where
  tab : L.map (·.tab) = K.map tab8
  per : ∀ p ∈ K, PermT n p
  lo : ∀ (j : Nat) e, L[j]? = some e → j < a → e.many < d
  mid : ∀ (j : Nat) e, L[j]? = some e → a ≤ j → j < b → e.many = d
  hi : ∀ (j : Nat) e, L[j]? = some e → b ≤ j → e.many = d + 1
  le : a ≤ b ∧ b ≤ L.length
theorem Cor.len {n d a b : Nat} {L : List Met} {K : List (List Nat)} (h : Cor n d a b L K) : L.length = K.length := by
  have := congrArg List.length h.tab
  simpa using this
theorem Cor.at {n d a b : Nat} {L : List Met} {K : List (List Nat)} (h : Cor n d a b L K) {i : Nat} (hi : i < L.length) : ∃ e, L[i]? = some e ∧ e.tab = tab8 (K.getD i []) ∧ PermT n (K.getD i []) := by
  have hk : i < K.length := by rw [← h.len]; exact hi
  refine ⟨L[i], List.getElem?_eq_getElem hi, ?_, ?_⟩
  · have := congrArg (·[i]?) h.tab
    simp only [List.getElem?_map, List.getElem?_eq_getElem hi, List.getElem?_eq_getElem hk, Option.map_some, Option.some.injEq] at this
    rw [this, List.getD_eq_getElem?_getD, List.getElem?_eq_getElem hk]; rfl
  · rw [List.getD_eq_getElem?_getD, List.getElem?_eq_getElem hk]; exact h.per _ (List.getElem_mem _)
theorem Cor.round {n d a b most i : Nat} {L : List Met} {K : List (List Nat)} (hn : n ≤ 3) (h : Cor n d a b L K) (hd : d < most) (h1 : a ≤ i) (h2 : i < b) : ∃ e, L[i]? = some e ∧ Cor n d a b (roundR n most e L) (lvTries (K.getD i []) (gatesM n) K) := by
  have hbl := h.le.2
  obtain ⟨e, he, ht, hp⟩ := h.at (i := i) (by omega)
  have hm := h.mid i e he h1 h2
  refine ⟨e, he, ?_⟩
  unfold roundR
  rw [if_neg (by omega)]
  obtain ⟨j1, R, j2, j3⟩ := tries_cor hn ht hp (gatesM n) 0 L K (fun g hg => hg) h.tab h.per
  refine ⟨j1, lvTries_perm hp _ _ (fun g hg => hg) h.per, ?_, ?_, ?_, ⟨h.le.1, by rw [j2, List.length_append]; omega⟩⟩
  · intro j x hx hj
    rw [j2, List.getElem?_append_left (by have := h.le; omega)] at hx
    exact h.lo j x hx hj
  · intro j x hx hj hj'
    rw [j2, List.getElem?_append_left (by omega)] at hx
    exact h.mid j x hx hj hj'
  · intro j x hx hj
    rw [j2] at hx
    by_cases hl : j < L.length
    · rw [List.getElem?_append_left hl] at hx
      exact h.hi j x hx hj
    · rw [List.getElem?_append_right (by omega)] at hx
      rw [j3 x (List.mem_of_getElem? hx), hm]
theorem Cor.run {n d a b most : Nat} (hn : n ≤ 3) (hd : d < most) : ∀ (c i : Nat) (L : List Met) (K : List (List Nat)), Cor n d a b L K → a ≤ i → i + c ≤ b → ∃ L', Cor n d a b L' (lvRun n c i K) ∧ ∀ f, runR n most (c + f) i L = runR n most f (i + c) L'
  | 0, i, L, K, h, _, _ => ⟨L, h, fun f => by rw [Nat.zero_add, Nat.add_zero]⟩
  | c + 1, i, L, K, h, h1, h2 => by
    obtain ⟨e, he, h3⟩ := h.round hn hd h1 (show i < b by omega)
    obtain ⟨L', k1, k2⟩ := Cor.run hn hd c (i + 1) _ _ h3 (by omega) (by omega)
    refine ⟨L', k1, fun f => ?_⟩
    rw [show c + 1 + f = c + f + 1 by omega, runR, he]
    show runR n most (c + f) (i + 1) (roundR n most e L) = _
    rw [k2, show i + 1 + c = i + (c + 1) by omega]
theorem Cor.next {n d a b : Nat} {L : List Met} {K : List (List Nat)} (h : Cor n d a b L K) : Cor n (d + 1) b L.length L K := by
  refine ⟨h.tab, h.per, fun j e he hj => ?_, fun j e he h1 h2 => h.hi j e he h1, fun j e he h1 => ?_, h.le.2, Nat.le_refl _⟩
  · by_cases hj' : j < a
    · have := h.lo j e he hj'; omega
    · have := h.mid j e he (by omega) hj; omega
  · have := (List.getElem?_eq_some_iff.1 he).1; omega
theorem level_cor {n most : Nat} (hn : n ≤ 3) (hm : most ≤ 4) : ∀ d, d ≤ most → ∃ L, Cor n d (lvS n d).1 (lvS n d).2.length L (lvS n d).2 ∧ L.length = (lvS n d).2.length ∧ reachM n most = runR n most (30000 - (lvS n d).1) (lvS n d).1 L
  | 0, _ => by
    refine ⟨[met0 n], ⟨by simp [lvS, met0, id_tab8 hn], lvS_perm hn 0, fun j e _ hj => by simp [lvS] at hj, fun j e he _ hj => ?_, fun j e he hj => ?_, by simp [lvS]⟩, rfl, rfl⟩
    · have : j = 0 := by simp [lvS] at hj; omega
      subst this
      obtain rfl : met0 n = e := by simpa using he
      rfl
    · have := (List.getElem?_eq_some_iff.1 he).1
      simp [lvS] at hj this; omega
  | d + 1, hd => by
    obtain ⟨L, h1, h2, h3⟩ := level_cor hn hm d (by omega)
    have hl := lvS_len hn d
    have hb := lvS_30000 hn (show d ≤ 4 by omega)
    obtain ⟨L', k1, k2⟩ := Cor.run hn (show d < most by omega) ((lvS n d).2.length - (lvS n d).1) (lvS n d).1 L _ h1 (Nat.le_refl _) (by omega)
    have k3 := k2 (30000 - (lvS n d).2.length)
    rw [show (lvS n d).2.length - (lvS n d).1 + (30000 - (lvS n d).2.length) = 30000 - (lvS n d).1 by omega, show (lvS n d).1 + ((lvS n d).2.length - (lvS n d).1) = (lvS n d).2.length by omega] at k3
    refine ⟨L', ?_, k1.len, by rw [h3, k3]; rfl⟩
    have := k1.next
    rw [k1.len] at this
    exact this
theorem run_skip {n most : Nat} {L : List Met} : ∀ (f i : Nat), (∀ (j : Nat) e, i ≤ j → L[j]? = some e → e.many = most) → runR n most f i L = L
  | 0, i, _ => rfl
  | f + 1, i, h => by
    rw [runR]
    split
    · rename_i e he
      rw [roundR, if_pos (h i e (Nat.le_refl _) he)]
      exact run_skip f (i + 1) fun j x hj hx => h j x (by omega) hx
    · rfl
/-- What is met, level by level. -/
theorem reach_cor {n most : Nat} (hn : n ≤ 3) (hm : most ≤ 4) : Cor n most (lvS n most).1 (lvS n most).2.length (reachM n most) (lvS n most).2 := by
  obtain ⟨L, h1, h2, h3⟩ := level_cor hn hm most (Nat.le_refl _)
  rw [h3, run_skip _ _ fun j e hj he => h1.mid j e he hj (by rw [← h2]; exact (List.getElem?_eq_some_iff.1 he).1)]
  exact h1
theorem countN_lvl {n most : Nat} (hn : n ≤ 3) (hm : most ≤ 4) : countN n most = (lvl n most).length := by
  have h := reach_cor hn hm
  have hl := h.len
  unfold countN lvl
  rw [List.length_drop]
  conv => lhs; rw [← List.take_append_drop (lvS n most).1 (reachM n most)]
  rw [List.countP_append]
  have h1 : ((reachM n most).take (lvS n most).1).countP (fun e => decide (e.many = most)) = 0 := by
    rw [List.countP_eq_zero]
    intro e he
    obtain ⟨j, hj, e1⟩ := List.getElem_of_mem he
    rw [List.length_take] at hj
    rw [List.getElem_take] at e1
    have := h.lo j e (by rw [← e1]; exact List.getElem?_eq_getElem _) (by omega)
    simp; omega
  have h2 : ((reachM n most).drop (lvS n most).1).countP (fun e => decide (e.many = most)) = ((reachM n most).drop (lvS n most).1).length := by
    rw [List.countP_eq_length]
    intro e he
    obtain ⟨j, hj, e1⟩ := List.getElem_of_mem he
    rw [List.length_drop] at hj
    rw [List.getElem_drop] at e1
    have := h.mid _ e (by rw [← e1]; exact List.getElem?_eq_getElem _) (by omega) (by omega)
    simp [this]
  rw [h1, h2, List.length_drop]; omega
end Go.AM

/-! ### R39 -/
namespace Go.AM
open Go.Proofs
set_option maxRecDepth 100000
set_option linter.unusedVariables false
set_option linter.unusedSimpArgs false
theorem bytes34 : bytesOf' Tryd.prog 34 = some 24 := by kernel_rfl
theorem El119 : ElemT Tryd.prog 119 119 1 := ⟨_, _, _, 24, T119, T119, rfl, S34, Z34, rfl, bytes34, by decide, by decide⟩
/-- Rows that may be read, and stay so while a map's place and a list's place are written. -/
def SupR (mb : Nat) (v : Value) (m : Mem) (s : Value) (G : List (List Int)) : Prop := ∃ S : Nat → Prop, (∀ b, S b → b < m.size ∧ b ≠ mb ∧ blkOf v ≠ some b) ∧ (∀ m', (∀ b, S b → Mem.get m' b = Mem.get m b) → RowsAt m' s G) ∧
  ∀ (i : Nat) g, G[i]? = some g → ∃ b cap r c t, s = .slice (some ⟨b, 0, some 1⟩) G.length cap ∧ S b ∧ Mem.get m b = .cells r c ∧ c[i]? = some t ∧ ∀ m', (∀ b, S b → Mem.get m' b = Mem.get m b) → IntsAt m' t g
theorem SupR.rows {mb : Nat} {v s : Value} {m : Mem} {G : List (List Int)} (h : SupR mb v m s G) : RowsAt m s G := by
  obtain ⟨S, _, h2, _⟩ := h; exact h2 m fun _ _ => rfl
theorem SupR.row {mb i : Nat} {v s : Value} {m : Mem} {G : List (List Int)} {g : List Int} (h : SupR mb v m s G) (hi : G[i]? = some g) : ∃ b cap r c t, s = .slice (some ⟨b, 0, some 1⟩) G.length cap ∧ (b < m.size ∧ b ≠ mb) ∧ Mem.get m b = .cells r c ∧ c[i]? = some t ∧ ∀ m', (∀ b, b < m.size → b ≠ mb → Mem.get m' b = Mem.get m b) → IntsAt m' t g := by
  obtain ⟨S, h1, _, h3⟩ := h
  obtain ⟨b, cap, r, c, t, e, hb, hg, ht, hI⟩ := h3 i g hi
  exact ⟨b, cap, r, c, t, e, ⟨(h1 b hb).1, (h1 b hb).2.1⟩, hg, ht, fun m' hm => hI m' fun b hb => hm b (h1 b hb).1 (h1 b hb).2.1⟩
theorem SupR.keep {mb : Nat} {v s : Value} {m m' : Mem} {G : List (List Int)} (h : SupR mb v m s G) (hz : m.size ≤ m'.size) (hk : ∀ b, b < m.size → b ≠ mb → Mem.get m' b = Mem.get m b) : SupR mb v m' s G := by
  obtain ⟨S, h1, h2, h3⟩ := h
  have hS : ∀ b, S b → Mem.get m' b = Mem.get m b := fun b hb => hk b (h1 b hb).1 (h1 b hb).2.1
  exact ⟨S, fun b hb => ⟨by have := (h1 b hb).1; omega, (h1 b hb).2⟩, fun m2 hm => h2 m2 fun b hb => (hm b hb).trans (hS b hb), fun i g hi => by
    obtain ⟨b, cap, r, c, t, e, hb, hg, ht, hI⟩ := h3 i g hi
    exact ⟨b, cap, r, c, t, e, hb, (hS b hb).trans hg, ht, fun m2 hm => hI m2 fun b hb => (hm b hb).trans (hS b hb)⟩⟩
theorem SupR.grew {mb : Nat} {v v' s : Value} {m m' : Mem} {G : List (List Int)} (h : SupR mb v m s G) (hg : Grew m v m' v') : SupR mb v' m' s G := by
  obtain ⟨S, h1, h2, h3⟩ := h
  have hS : ∀ b, S b → Mem.get m' b = Mem.get m b := fun b hb => hg.2.1 b (h1 b hb).1 (h1 b hb).2.2
  exact ⟨S, fun b hb => ⟨by have := (h1 b hb).1; have := hg.1; omega, (h1 b hb).2.1, hg.off (h1 b hb).2.2 (h1 b hb).1⟩, fun m2 hm => h2 m2 fun b hb => (hm b hb).trans (hS b hb), fun i g hi => by
    obtain ⟨b, cap, r, c, t, e, hb, hgt, ht, hI⟩ := h3 i g hi
    exact ⟨b, cap, r, c, t, e, hb, (hS b hb).trans hgt, ht, fun m2 hm => hI m2 fun b hb => (hm b hb).trans (hS b hb)⟩⟩
theorem OwnR.sup {N mb : Nat} {v w : Value} {m : Mem} {cs : Array Value} {G : List (List Int)} (h : OwnR N m w cs G) (hN : mb < N) (hv : ∀ b, blkOf v = some b → b < N) : SupR mb v m w G :=
  ⟨fun b => N ≤ b ∧ b < m.size, fun b hb => ⟨hb.2, by omega, fun e => by have := hv b e; omega⟩, fun m' hm => (h.up fun b h1 h2 => hm b ⟨h1, h2⟩).rows, fun i g hi => by
    have hl := (List.getElem?_eq_some_iff.1 hi).1
    obtain ⟨b, cap, c, e, hb, hg, _, hx⟩ := h.1.at (by omega)
    obtain ⟨t, ht, ho, _⟩ := h.2 i g hi
    exact ⟨b, cap, true, c, t, e, ⟨hb, live hg⟩, hg, by rw [hx i (by omega)]; exact ht, fun m' hm => (ho.up fun b h1 h2 => hm b ⟨h1, h2⟩).ints⟩⟩
/-- Lists of rows. -/
def Lv3 (N mb : Nat) (m : Mem) (v : Value) (cs : Array Value) (D : List (List (List Nat))) : Prop := OwnC N m v 1 D.length cs ∧ ∀ (d : Nat) l, D[d]? = some l → ∃ s, cs[d]? = some s ∧ SupR mb v m s (ofs2 l)
theorem Lv3.keep {N mb : Nat} {m m' : Mem} {v : Value} {cs : Array Value} {D : List (List (List Nat))} (h : Lv3 N mb m v cs D) (hN : mb < N) (hz : m.size ≤ m'.size) (hk : ∀ b, b < m.size → b ≠ mb → Mem.get m' b = Mem.get m b) : Lv3 N mb m' v cs D :=
  ⟨h.1.up fun b h1 h2 => hk b h2 (by omega), fun d l hd => by obtain ⟨s, a1, a2⟩ := h.2 d l hd; exact ⟨s, a1, a2.keep hz hk⟩⟩
theorem Lv3.grew {N mb : Nat} {m m' : Mem} {v v' s : Value} {cs : Array Value} {D : List (List (List Nat))} {l : List (List Nat)} (h : Lv3 N mb m v cs D) (hs : SupR mb v m s (ofs2 l)) (hg : Grew m v m' v') (hc : OwnC N m' v' 1 (D.length + 1) (cs ++ #[s])) : Lv3 N mb m' v' (cs ++ #[s]) (D ++ [l]) := by
  have hsz := h.1.size
  refine ⟨by rw [List.length_append]; exact hc, fun d x hd => ?_⟩
  by_cases hl : d < D.length
  · rw [List.getElem?_append_left hl] at hd
    obtain ⟨u, a1, a2⟩ := h.2 d x hd
    exact ⟨u, by rw [Array.getElem?_append_left (by omega), a1], a2.grew hg⟩
  · rw [List.getElem?_append_right (by omega)] at hd
    have h1 := (List.getElem?_eq_some_iff.1 hd).1
    have h0 : d - D.length = 0 := by simp at h1; omega
    rw [h0] at hd
    obtain rfl : l = x := by simpa using hd
    exact ⟨s, by rw [Array.getElem?_append_right (by omega), show d - cs.size = 0 by omega]; rfl, hs.grew hg⟩
/-- Lists of rows that may be read. -/
def OutAt (m : Mem) (v : Value) (D : List (List (List Nat))) : Prop := ∃ b cap c, v = .slice (some ⟨b, 0, some 1⟩) D.length cap ∧ Mem.get m b = .cells true c ∧ ∀ (d : Nat) l, D[d]? = some l → ∃ s, c[d]? = some s ∧ RowsAt m s (ofs2 l)
theorem Lv3.out {N mb : Nat} {m : Mem} {v : Value} {cs : Array Value} {D : List (List (List Nat))} (h : Lv3 N mb m v cs D) (h0 : 0 < D.length) : OutAt m v D := by
  obtain ⟨b, cap, c, e, hb, g, hc, hx⟩ := h.1.at h0
  refine ⟨b, cap, c, e, g, fun d l hd => ?_⟩
  obtain ⟨s, a1, a2⟩ := h.2 d l hd
  have hl := (List.getElem?_eq_some_iff.1 hd).1
  exact ⟨s, by rw [hx d (by omega)]; exact a1, a2.rows⟩
theorem OutAt.ext {m m' : Mem} {v : Value} {D : List (List (List Nat))} (h : OutAt m v D) (he : Ext m m') : OutAt m' v D := by
  obtain ⟨b, cap, c, e, g, hx⟩ := h
  exact ⟨b, cap, c, e, he.cells g, fun d l hd => by obtain ⟨s, a1, a2⟩ := hx d l hd; exact ⟨s, a1, a2.ext he⟩⟩
theorem lvls_len (n d : Nat) : ((List.range (d + 1)).map (lvl n)).length = d + 1 := by simp
theorem code_mem {n : Nat} {q : List Nat} {K : List (List Nat)} (hn : n ≤ 3) (hq : PermT n q) (hK : ∀ p ∈ K, PermT n p) : codeM q ∈ K.map codeM ↔ q ∈ K := by
  have h8 := two_pow3 hn
  constructor
  · intro h
    obtain ⟨p, hp, e⟩ := List.mem_map.1 h
    have hP := hK p hp
    rw [← code_inj (hP.1.trans hq.1.symm) (fun x hx => by have := hP.2 x hx; omega) (fun x hx => by have := hq.2 x hx; omega) e]
    exact hp
  · exact fun h => List.mem_map.2 ⟨q, h, rfl⟩
theorem lvTries_step {p : List Nat} {gs : List (Nat × List Nat)} {K : List (List Nat)} {j : Nat} {g : Nat × List Nat} (h : gs[j]? = some g) : lvTries p (gs.take (j + 1)) K = lvTry p (lvTries p (gs.take j) K) g := by
  unfold lvTries; rw [List.take_add_one, h, List.foldl_append]; rfl
theorem lvRun_get {n c i a : Nat} {K : List (List Nat)} (h : i < K.length) : (lvRun n c a K).getD i [] = K.getD i [] := by
  obtain ⟨R, e, _⟩ := lvRun_app n c a K
  rw [e, List.getD_eq_getElem?_getD, List.getD_eq_getElem?_getD, List.getElem?_append_left h]
theorem keysV_snoc (L : List (List Nat)) (q : List Nat) (h : ¬ codeM q ∈ L.map codeM) : (if codeM q ∈ L.map codeM then L.map codeM else L.map codeM ++ [codeM q]) = (L ++ [q]).map codeM := by
  rw [if_neg h]; simp
theorem okf90 : okF Tryd.prog H0 90 92 = true := by kernel_rfl
theorem spec_Levels {m : Mem} {n most : Nat} (hn : n ≤ 3) (hm : most ≤ 4) : ∃ v m', ACalls Tryd.prog 90 #[nv n, nv most] m v m' ∧ (OutAt m' v ((List.range (most + 1)).map (lvl n)) ∧ Ext m m') := by
  have h8 := two_pow3 hn
  have hp0 : 0 < 2 ^ n := Nat.pow_pos (by decide)
  refine wpF (args := [_, _]) mixed okf90 (fn := Tryd.f90) rfl rfl rfl (by simp) ?_
  refine cSeq ?_
  refine cRegion ?_
  refine sAs (v := .slice _ _ _) rfl ?_
  refine sNil (kSeqN ?_)
  refine cSeq ?_
  refine cRegion ?_
  refine sAs (v := .slice _ _ _) rfl ?_
  refine sNil (kSeqN ?_)
  refine cSeq ?_
  refine cSeq ?_
  refine cRegion ?_
  refine sAs (v := nv 0) rfl ?_
  refine sNil (kSeqN ?_)
  refine cBlock ?_
  refine wpC_loop (fun k ρ m' => ∃ i v, k = 2 ^ n - i ∧ i ≤ 2 ^ n ∧ Ext m m' ∧ OwnF m.size m' v (ofs (List.range i)) ∧ Has ρ [(0, nv n), (1, nv most), (5, v), (6, nv i)]) ⟨0, _, rfl, Nat.zero_le _, .refl _, .nil _ _, rfl, rfl, rfl, rfl, trivial⟩ ?_
  rintro k ρ m' ⟨i, v, rfl, hi, hE, hO, hh⟩
  obtain ⟨qv, cv, rfl⟩ := hO.ints.lenN
  rw [List.length_range] at *
  rw [hh.env]; clear hh
  have hz0 := hE.1
  refine cSeq ?_   -- seq 4
  refine cSeq ?_
  refine cRegion ?_
  refine sMv (v := nv _) rfl ?_
  refine sMv (v := nv _) rfl ?_
  refine sBin rfl rfl (aInt_shl (a := 1) (by omega)) ?_
  rw [Nat.shiftLeft_eq, Nat.one_mul]
  refine sBin (a := i) (b := 2 ^ n) rfl rfl aInt_lss ?_
  refine sNil (kSeqN ?_)
  refine cCond rfl (fun c0 => ?_) (fun c0 => ?_)
  ·
    refine cSkip (kSeqN ?_)
    refine cSeq ?_
    refine cBlock ?_
    refine cRegion ?_
    refine sMv (v := .slice _ _ _) rfl ?_
    refine sMv (v := nv _) rfl ?_
    refine sBuildS T22 S3 Z3 (by decide) (by decide) (by decide) (by kernel_rfl) fill1 rfl ?_
    refine sApp App22 rfl rfl (N := m.size) (hO.ext (.push _ _)) one_ints (by simp; omega) (by simp; omega) fun v3 m3 hO3 hL3 => ?_
    rw [show ofs (List.range i) ++ [Int.ofNat i] = ofs (List.range (i + 1)) by rw [List.range_succ, ofs_append]; rfl] at hO3
    obtain ⟨q3, cp3, rfl⟩ := hO3.ints.lenN
    refine sAs (v := .slice _ _ _) rfl ?_
    refine sNil (kBlkN (kSeqN ?_))
    refine cRegion ?_
    refine sMv (v := nv _) rfl ?_
    refine sBin rfl rfl (aInt_add (b := 1) (by omega)) ?_
    refine sAs (v := nv _) rfl ?_
    refine sNil (kSeqN ?_)
    refine ⟨_, ?_, i + 1, _, rfl, by omega, Low.to_ext (hE.trans (.push _ _)) hL3 (Nat.le_refl _), hO3, rfl, rfl, rfl, rfl, trivial⟩
    omega
  ·
    obtain rfl : i = 2 ^ n := by omega
    have hP0 := PermT.range n
    have hmb : m.size ≤ m'.size := hE.1
    have eM : Ext m' (m'.push (.map true [])) := .push _ _
    have gM : Mem.get (m'.push (.map true [])) m'.size = .map true (keysV []) := gP rfl
    have zM : (m'.push (.map true [])).size = m'.size + 1 := by simp
    refine cExit (kSeqE (kSeqE (kBlkS (kSeqN ?_))))
    refine cSeq ?_
    refine cRegion ?_
    refine sMkMap ?_
    generalize m'.push (.map true []) = M1 at *
    refine sMv (v := .slice _ _ _) rfl ?_
    obtain ⟨v28, m28, h28, rfl, rfl⟩ := spec_code (hO.ext eM).ints (by rw [List.length_range]; omega) (fun x hx => by have := hP0.2 x hx; omega)
    refine sCall1 rfl call131 rfl h28 ?_
    have hup := upd_keys (k := codeM (List.range (2 ^ n))) gM
    refine sO (v := Go.undef) (m' := M1.setIfInBounds m'.size (.map true (keysV (if codeM (List.range (2 ^ n)) ∈ ([] : List Nat) then [] else [] ++ [codeM (List.range (2 ^ n))])))) (opF_eff rfl rfl (congrArg (Option.map fun m' => (Go.undef, m')) hup)) ?_
    rw [if_neg (by simp), List.nil_append]
    have g2 : Mem.get (M1.setIfInBounds m'.size (.map true (keysV [codeM (List.range (2 ^ n))]))) m'.size = .map true (keysV ((lvS n 0).2.map codeM)) := gS rfl (by omega)
    have e2 : Ext m' (M1.setIfInBounds m'.size (.map true (keysV [codeM (List.range (2 ^ n))]))) := eM.set (Nat.le_refl _) _
    have z2 : (M1.setIfInBounds m'.size (.map true (keysV [codeM (List.range (2 ^ n))]))).size = m'.size + 1 := by simp [zM]
    generalize M1.setIfInBounds m'.size (.map true (keysV [codeM (List.range (2 ^ n))])) = M2 at *
    refine sMv (v := .map _) rfl ?_
    refine sAs (v := .map _) rfl ?_
    refine sNil (kSeqN ?_)
    refine cSeq ?_
    refine cRegion ?_
    refine sMv (v := .slice _ _ _) rfl ?_
    refine sBuildS T34 S22 Z22 (by decide) (by decide) (by decide) (by kernel_rfl) fillV rfl ?_
    have e3 : Ext M2 (M2.push (.cells true #[.slice qv (2 ^ n) cv])) := .push _ _
    have g3 : Mem.get (M2.push (.cells true #[.slice qv (2 ^ n) cv])) M2.size = .cells true #[.slice qv (2 ^ n) cv] := gP rfl
    have z3 : (M2.push (.cells true #[.slice qv (2 ^ n) cv])).size = M2.size + 1 := by simp
    generalize M2.push (.cells true #[.slice qv (2 ^ n) cv]) = M3 at *
    refine sBuildS T119 S34 Z34 (by decide) (by decide) (by decide) (by kernel_rfl) fillV rfl ?_
    have e4 : Ext M3 (M3.push (.cells true #[.slice (some ⟨M2.size, 0, some 1⟩) 1 1])) := .push _ _
    have g4 : Mem.get (M3.push (.cells true #[.slice (some ⟨M2.size, 0, some 1⟩) 1 1])) M3.size = .cells true #[.slice (some ⟨M2.size, 0, some 1⟩) 1 1] := gP rfl
    have z4 : (M3.push (.cells true #[.slice (some ⟨M2.size, 0, some 1⟩) 1 1])).size = M3.size + 1 := by simp
    have gmb : Mem.get (M3.push (.cells true #[.slice (some ⟨M2.size, 0, some 1⟩) 1 1])) m'.size = .map true (keysV ((lvS n 0).2.map codeM)) := (e4.2 _ (by omega)).trans ((e3.2 _ (by omega)).trans g2)
    have E4 : Ext m (M3.push (.cells true #[.slice (some ⟨M2.size, 0, some 1⟩) 1 1])) := ((hE.trans e2).trans e3).trans e4
    have hL3 : Lv3 (m'.size + 1) m'.size (M3.push (.cells true #[.slice (some ⟨M2.size, 0, some 1⟩) 1 1])) (.slice (some ⟨M3.size, 0, some 1⟩) 1 1) #[.slice (some ⟨M2.size, 0, some 1⟩) 1 1] ((List.range 1).map (lvl n)) := by
      refine ⟨.inr ⟨M3.size, 1, _, rfl, by omega, g4, Nat.le_refl _, rfl, rfl, fun i _ => rfl⟩, fun d l hd => ?_⟩
      have h1 := (List.getElem?_eq_some_iff.1 hd).1
      obtain rfl : d = 0 := by simp at h1; exact h1
      obtain rfl : lvl n 0 = l := by simpa using hd
      have hone : ∀ (i : Nat) (g : List Int), (ofs2 (lvl n 0))[i]? = some g → i = 0 ∧ ofs (List.range (2 ^ n)) = g := fun i g hi => by
        have h2 := (List.getElem?_eq_some_iff.1 hi).1
        obtain rfl : i = 0 := by simp [ofs2, lvl, lvS] at h2; exact h2
        exact ⟨rfl, by simpa [ofs2, lvl, lvS] using hi⟩
      have hrow : ∀ m2 : Mem, (∀ b, b < m'.size ∨ b = M2.size → Mem.get m2 b = Mem.get (M3.push (.cells true #[.slice (some ⟨M2.size, 0, some 1⟩) 1 1])) b) → IntsAt m2 (.slice qv (2 ^ n) cv) (ofs (List.range (2 ^ n))) := fun m2 hm2 =>
        (hO.up (m' := m2) fun b h1 h2 => (hm2 b (.inl h2)).trans (((e2.trans e3).trans e4).2 b h2)).ints
      refine ⟨_, rfl, fun b => b < m'.size ∨ b = M2.size, fun b hb => ⟨by omega, by omega, fun e => by have : M3.size = b := Option.some.inj e; omega⟩, fun m2 hm2 => ?_, fun i g hi => ?_⟩
      refine .inr ⟨M2.size, 0, 1, true, #[.slice qv (2 ^ n) cv], rfl, (hm2 _ (.inr rfl)).trans ((e4.2 _ (by omega)).trans g3), fun i g hi => ?_⟩
      obtain ⟨rfl, rfl⟩ := hone i g hi
      exact ⟨_, rfl, hrow m2 hm2⟩
      obtain ⟨rfl, rfl⟩ := hone i g hi
      exact ⟨M2.size, 1, true, _, _, rfl, .inr rfl, (e4.2 _ (by omega)).trans g3, rfl, hrow⟩
    generalize M3.push (.cells true #[.slice (some ⟨M2.size, 0, some 1⟩) 1 1]) = M4 at *
    generalize hmbe : m'.size = mb at *
    refine sAs (v := .slice _ _ _) rfl ?_
    refine sNil (kSeqN ?_)
    refine cSeq ?_
    refine cBlock ?_
    refine wpC_loop (fun k ρ m' => ∃ d v cs, k = most - d ∧ d ≤ most ∧ Ext m m' ∧ mb < m'.size ∧ Mem.get m' mb = .map true (keysV ((lvS n d).2.map codeM)) ∧ Lv3 (mb + 1) mb m' v cs ((List.range (d + 1)).map (lvl n)) ∧ Has ρ [(0, nv n), (1, nv most), (7, .map (some mb)), (8, v)]) ⟨0, _, _, rfl, Nat.zero_le _, E4, by omega, gmb, hL3, rfl, rfl, rfl, rfl, trivial⟩ ?_
    clear hL3 gmb E4 g4 g3 g2 e2 e3 e4 hO hE
    rintro k ρ m' ⟨d, v, cs, rfl, hd, hE, hzb, gmb, hL3, hh⟩
    obtain ⟨qo, co, rfl⟩ := hL3.1.len
    have hDl := lvls_len n d
    rw [hDl] at hh
    rw [hh.env]; clear hh
    refine cSeq ?_   -- seq 10
    refine cSeq ?_
    refine cRegion ?_
    refine sMv (v := .slice _ _ _) rfl ?_
    refine sLen T119 rfl ?_
    refine sMv (v := nv _) rfl ?_
    refine sBin (a := d + 1) (b := most) rfl rfl aInt_leq ?_
    refine sNil (kSeqN ?_)
    refine cCond rfl (fun c1 => ?_) (fun c1 => ?_)
    ·
      obtain ⟨hK1, hK2, hK3⟩ := lvS_len hn d
      have hKb := lvS_30000 (d := d) hn (by omega)
      have hKb1 := lvS_30000 (d := d + 1) hn (by omega)
      have hll : (lvl n d).length = (lvS n d).2.length - (lvS n d).1 := by unfold lvl; rw [List.length_drop]
      obtain ⟨bo, capo, cO, eo, hbo, gO, hcO, xO⟩ := hL3.1.at (by rw [hDl]; omega)
      rw [hDl] at eo hcO xO
      cases eo
      obtain ⟨sd, hsd, hsup⟩ := hL3.2 d (lvl n d) (by rw [List.getElem?_map, List.getElem?_range (by omega)]; rfl)
      obtain ⟨q42, c42, rfl⟩ := hsup.rows.len
      rw [ofs2_length] at *
      refine cSkip (kSeqN ?_)
      refine cBlock ?_
      refine cSeq ?_
      refine cRegion ?_
      refine sAs (v := .slice _ _ _) rfl ?_
      refine sNil (kSeqN ?_)
      refine cSeq ?_
      refine cSeq ?_
      refine cRegion ?_
      refine sMv (v := .slice _ _ _) rfl ?_
      refine sMv (v := .slice _ _ _) rfl ?_
      refine sLen T119 rfl ?_
      refine sBin (v := nv d) rfl rfl (aInt_sub (a := d + 1) (b := 1) (by omega)) ?_
      refine sIx T119 S34 rfl rfl (by omega) ?_
      refine sLd (v := .slice q42 (lvl n d).length c42) A34 rfl gO (by rw [Nat.zero_add, Nat.mul_one, xO d (by omega)]; exact hsd) ?_
      refine sLen T34 rfl ?_
      refine sMv (v := nv 0) rfl ?_
      refine sNil (kSeqN ?_)
      refine cBlock ?_
      refine wpC_loop (fun k ρ m2 => ∃ i w cs9, k = (lvl n d).length - i ∧ i ≤ (lvl n d).length ∧ m'.size ≤ m2.size ∧ (∀ b, b < m'.size → b ≠ mb → Mem.get m2 b = Mem.get m' b) ∧ Mem.get m2 mb = .map true (keysV ((lvRun n i (lvS n d).1 (lvS n d).2).map codeM)) ∧ OwnR m'.size m2 w cs9 (ofs2 ((lvRun n i (lvS n d).1 (lvS n d).2).drop (lvS n d).2.length)) ∧ Has ρ [(0, nv n), (1, nv most), (7, .map (some mb)), (8, .slice (some ⟨bo, 0, some 1⟩) (d + 1) co), (9, w), (42, .slice q42 (lvl n d).length c42), (43, nv (lvl n d).length), (44, nv i)]) ⟨0, _, #[], rfl, Nat.zero_le _, Nat.le_refl _, fun _ _ _ => rfl, gmb, by rw [lvRun, List.drop_length]; exact .nil _ _, rfl, rfl, rfl, rfl, rfl, rfl, rfl, rfl, trivial⟩ ?_
      rintro k ρ m2 ⟨i, w, cs9, rfl, hi, hz2, hk2, gm2, hO9, hh⟩
      obtain ⟨q9, c9, rfl⟩ := hO9.1.len
      rw [hh.env]; clear hh
      rw [ofs2_length] at *
      refine cSeq ?_
      refine cRegion ?_
      refine sBin rfl rfl (aInt_lss) ?_
      refine sNil (kSeqN ?_)
      refine cSeq ?_   -- seq 16
      refine cCond rfl (fun c2 => ?_) (fun c2 => ?_)
      ·
        obtain ⟨R, hRe, hRl⟩ := lvRun_app n i (lvS n d).1 (lvS n d).2
        have hgl := gatesM_len hn
        have hRl2 : i * (gatesM n).length ≤ i * 12 := Nat.mul_le_mul_left i hgl
        have hKp : ∀ q ∈ lvRun n i (lvS n d).1 (lvS n d).2, PermT n q := lvRun_perm i _ _ (by omega) (lvS_perm hn d)
        obtain ⟨p, hp⟩ : ∃ p, (lvl n d)[i]? = some p := ⟨_, List.getElem?_eq_getElem c2⟩
        have hpK : (lvS n d).2.getD ((lvS n d).1 + i) [] = p := by
          unfold lvl at hp
          rw [List.getElem?_drop] at hp
          rw [List.getD_eq_getElem?_getD, hp]; rfl
        have hpP : PermT n p := lvl_perm hn p (List.mem_of_getElem? hp)
        obtain ⟨b1, cap1, r1, cd, s1, e1, ⟨hb1, hbm1⟩, g1, hs1, ha1⟩ := hsup.row (ofs2_get hp)
        rw [ofs2_length] at e1
        cases e1
        obtain ⟨qs, csz, rfl⟩ := (ha1 m2 hk2).lenN
        have g1' := (hk2 b1 hb1 hbm1).trans g1
        have hpl : p.length = 2 ^ n := hpP.1
        rw [hpl] at hs1 ha1
        have hst := lvRun_step n i (lvS n d).1 (lvS n d).2
        rw [lvRun_get (by omega), hpK] at hst
        generalize lvRun n i (lvS n d).1 (lvS n d).2 = Ki at *
        refine cSkip (kSeqN ?_)
        refine cSeq ?_
        refine cBlock ?_
        refine cSeq ?_
        refine cRegion ?_
        refine sIx T34 S22 rfl rfl (by omega) ?_
        refine sLd (v := .slice qs (2 ^ n) csz) A22 rfl g1' (by rw [Nat.zero_add, Nat.mul_one]; exact hs1) ?_
        refine sAs (v := .slice _ _ _) rfl ?_
        refine sNil (kSeqN ?_)
        refine cSeq ?_
        refine cRegion ?_
        refine sMv (v := nv _) rfl ?_
        obtain ⟨v49, m49, h49, cs49, o49, e49⟩ := spec_rGates (m := m2) hn
        obtain ⟨q49, c49, rfl⟩ := o49.1.len
        refine sCall1 rfl call132 rfl h49 ?_
        have z49 := e49.1
        refine sLen T28 rfl ?_
        refine sMv (v := nv 0) rfl ?_
        refine sNil (kSeqN ?_)
        refine cBlock ?_
        refine wpC_loop (fun k ρ m3 => ∃ j w cs9, k = (gatesM n).length - j ∧ j ≤ (gatesM n).length ∧ m49.size ≤ m3.size ∧ (∀ b, b < m'.size → b ≠ mb → Mem.get m3 b = Mem.get m' b) ∧ (∀ b, m2.size ≤ b → b < m49.size → Mem.get m3 b = Mem.get m49 b) ∧ Mem.get m3 mb = .map true (keysV ((lvTries p ((gatesM n).take j) Ki).map codeM)) ∧ OwnR m'.size m3 w cs9 (ofs2 ((lvTries p ((gatesM n).take j) Ki).drop (lvS n d).2.length)) ∧ (∀ b, blkOf w = some b → b < m2.size ∨ m49.size ≤ b) ∧ Has ρ [(0, nv n), (1, nv most), (7, .map (some mb)), (8, .slice (some ⟨bo, 0, some 1⟩) (d + 1) co), (9, w), (11, .slice qs (2 ^ n) csz), (42, .slice (some ⟨b1, 0, some 1⟩) (lvl n d).length c42), (43, nv (lvl n d).length), (44, nv i), (49, .slice q49 (gatesM n).length c49), (50, nv (gatesM n).length), (51, nv j)]) ⟨0, _, cs9, rfl, Nat.zero_le _, Nat.le_refl _, fun b h1 h2 => (e49.2 b (by omega)).trans (hk2 b h1 h2), fun _ _ _ => rfl, (e49.2 _ (by omega)).trans gm2, hO9.ext e49, fun b hb => .inl (hO9.1.lt hb).2, rfl, rfl, rfl, rfl, rfl, rfl, rfl, rfl, rfl, rfl, rfl, rfl, trivial⟩ ?_
        rintro k ρ m3 ⟨j, w, cs9', rfl, hj, hz3, hk3, hg3, gm3, hO3, hw3, hh⟩
        obtain ⟨q9', c9', rfl⟩ := hO3.1.len
        rw [hh.env]; clear hh
        rw [ofs2_length] at *
        refine cSeq ?_
        refine cRegion ?_
        refine sBin rfl rfl (aInt_lss) ?_
        refine sNil (kSeqN ?_)
        refine cSeq ?_   -- seq 21
        refine cCond rfl (fun c3 => ?_) (fun c3 => ?_)
        ·
          obtain ⟨g, hg⟩ : ∃ g, (gatesM n)[j]? = some g := ⟨_, List.getElem?_eq_getElem c3⟩
          have hgm := List.mem_of_getElem? hg
          obtain ⟨gw1, gw2, gw3⟩ := gatesM_lt hgm
          have hgk : g.1 = kindM (g.2.length - 1) := by
            obtain ⟨kk, cc, _, _, _, rfl⟩ := gatesM_ok hgm
            simp [gateOfM]
          obtain ⟨R2, hR2, hRl3⟩ := lvTries_app p ((gatesM n).take j) Ki
          have hKlen : (lvTries p ((gatesM n).take j) Ki).length ≤ 22621 + 20736 * 12 + 12 := by
            rw [hR2, List.length_append, hRe, List.length_append]
            rw [List.length_take] at hRl3
            have : 12 ^ d ≤ 12 ^ 4 := Nat.pow_le_pow_right (by decide) (by omega)
            omega
          have hKjp := lvTries_perm hpP ((gatesM n).take j) Ki (fun g hg => List.mem_of_mem_take hg) hKp
          have hq := hpP.next hgm
          have hcode := code_mem hn hq hKjp
          have hstep := lvTries_step (p := p) (K := Ki) hg
          have hKge : (lvS n d).2.length ≤ (lvTries p ((gatesM n).take j) Ki).length := by rw [hR2, List.length_append, hRe, List.length_append]; omega
          generalize lvTries p ((gatesM n).take j) Ki = Kj at *
          have oG : OwnG m2.size m3 (.slice q49 (gatesM n).length c49) cs49 (gatesM n) := o49.up fun b h1 h2 => hg3 b h1 h2
          obtain ⟨b5, p5, cc, e5, hb5, g5, hc5, x5⟩ := oG.1.at (by omega)
          cases e5
          obtain ⟨s5, hs50, hs51, hs52, hs53, hso, hsb⟩ := oG.2 j g hg
          obtain ⟨qg, cg, rfl⟩ := hso.ints.lenN
          have hex : cc.extract (0 + j * 4) (0 + j * 4 + 4) = #[nv g.1, .slice qg g.2.length cg, nv 0, nv 0] := quad_at (by rw [x5 _ (by omega)]; exact hs50) (by rw [x5 _ (by omega)]; exact hs51) (by rw [x5 _ (by omega)]; exact hs52) (by rw [x5 _ (by omega)]; exact hs53)
          refine cSkip (kSeqN ?_)
          refine cSeq ?_
          refine cBlock ?_
          refine cSeq ?_
          refine cRegion ?_
          refine sIx T28 S49 rfl rfl (by omega) ?_
          refine sLdA A49 S49 rfl g5 (by omega) ?_
          rw [hex]
          have e6 : Ext m3 (m3.push (.cells true #[nv g.1, .slice qg g.2.length cg, nv 0, nv 0])) := .push _ _
          have g6 : Mem.get (m3.push (.cells true #[nv g.1, .slice qg g.2.length cg, nv 0, nv 0])) m3.size = .cells true #[nv g.1, .slice qg g.2.length cg, nv 0, nv 0] := gP rfl
          have z6 : (m3.push (.cells true #[nv g.1, .slice qg g.2.length cg, nv 0, nv 0])).size = m3.size + 1 := by simp
          refine sAllocB (bl := m3.size) rfl Z49 (by kernel_rfl) ?_
          refine sStNAB rfl S49 rfl rfl rfl rfl (by kernel_rfl) ?_
          generalize m3.push (.cells true #[nv g.1, .slice qg g.2.length cg, nv 0, nv 0]) = M6 at *
          refine sNil (kSeqN ?_)
          refine cSeq ?_
          refine cRegion ?_
          refine sBuildS (c := #[]) T22 S3 Z3 (by decide) (by decide) (by decide) (by kernel_rfl) rfl rfl ?_
          refine sMv (v := .slice _ _ _) rfl ?_
          have ha3 := ha1 m3 hk3
          refine sApp App22 rfl rfl (N := M6.size) (p := []) (.inr ⟨M6.size, 0, #[], rfl, Nat.le_refl _, gP rfl, by simp, by simp, by simp⟩) ((ha3.ext e6).ext (.push _ _)) (by simp) (by simp; omega) fun v7 m7 hO7 hL7 => ?_
          rw [List.nil_append] at hO7
          have e7 : Ext M6 m7 := hL7.to_ext (.push _ _) (Nat.le_refl _)
          obtain ⟨rb, cap7, cF, rfl, hrb, gr, hcs0, hcF⟩ : ∃ rb cap cF, v7 = .slice (some ⟨rb, 0, some 1⟩) (2 ^ n) cap ∧ M6.size ≤ rb ∧ Mem.get m7 rb = .cells true cF ∧ (2 ^ n ≤ cap ∧ cF.size = cap) ∧ ∀ (i x : Nat), p[i]? = some x → cF[i]? = some (nv x) := by
            rcases hO7 with ⟨h, _⟩ | ⟨b, cap, c, h1, h2, h3, h4, h5, h6⟩
            · exfalso; have := congrArg List.length h; rw [ofs_length, hpP.1] at this; simp at this
            · rw [ofs_length, hpP.1] at h1 h4
              refine ⟨b, cap, c, h1, h2, h3, ⟨by omega, by omega⟩, fun i x hx => h6 i x ?_⟩
              simp only [ofs, List.getElem?_map, hx]; rfl
          have z7 := e7.1
          have g7 := e7.cells g6
          refine sAs (v := .slice _ _ _) rfl ?_
          refine sNil (kSeqN ?_)
          refine cSeq ?_
          refine cSeq ?_
          refine cRegion ?_
          refine sMv (v := .slice _ _ _) rfl ?_
          refine sLen T22 rfl ?_
          refine sMv (v := nv 0) rfl ?_
          refine sNil (kSeqN ?_)
          refine cBlock ?_
          refine wpC_loop (fun k3 ρ M => ∃ x c', k3 = 2 ^ n - x ∧ x ≤ 2 ^ n ∧ m7.size ≤ M.size ∧ Mem.get M rb = .cells true c' ∧ c'.size = cF.size ∧ (∀ (q y : Nat), p[q]? = some y → c'[q]? = some (nv (if q < x then turnM y g.2 else y))) ∧ (∀ b, b < m7.size → b ≠ rb → Mem.get M b = Mem.get m7 b) ∧ Has ρ [(0, nv n), (1, nv most), (7, .map (some mb)), (8, .slice (some ⟨bo, 0, some 1⟩) (d + 1) co), (9, .slice q9' (Kj.drop (lvS n d).2.length).length c9'), (11, .slice qs (2 ^ n) csz), (13, .pointer (some ⟨m3.size, 0, none⟩)), (14, .slice (some ⟨rb, 0, some 1⟩) (2 ^ n) cap7), (42, .slice (some ⟨b1, 0, some 1⟩) (lvl n d).length c42), (43, nv (lvl n d).length), (44, nv i), (49, .slice (some ⟨b5, 0, some 4⟩) (gatesM n).length c49), (50, nv (gatesM n).length), (51, nv j), (58, .slice (some ⟨rb, 0, some 1⟩) (2 ^ n) cap7), (59, nv (2 ^ n)), (60, nv x)]) ⟨0, cF, rfl, Nat.zero_le _, Nat.le_refl _, gr, rfl, fun q y hy => by rw [if_neg (by omega)]; exact hcF q y hy, fun _ _ _ => rfl, rfl, rfl, rfl, rfl, rfl, rfl, rfl, rfl, rfl, rfl, rfl, rfl, rfl, rfl, rfl, rfl, rfl, trivial⟩ ?_
          rintro k3 ρ M ⟨x, c', rfl, hx, hzM, gr', hcs', hcv, hke, hh⟩
          rw [hh.env]; clear hh
          refine cSeq ?_
          refine cRegion ?_
          refine sBin rfl rfl (aInt_lss) ?_
          refine sNil (kSeqN ?_)
          refine cSeq ?_   -- seq 28
          refine cCond rfl (fun c4 => ?_) (fun c4 => ?_)
          ·
            obtain ⟨y, hy⟩ : ∃ y, p[x]? = some y := ⟨_, List.getElem?_eq_getElem (by rw [hpP.1]; exact c4)⟩
            have hyl := hpP.2 y (List.mem_of_getElem? hy)
            have hci := hcv x y hy
            rw [if_neg (by omega)] at hci
            refine cSkip (kSeqN ?_)
            refine cSeq ?_
            refine cBlock ?_
            refine cSeq ?_
            refine cRegion ?_
            refine sMv (v := nv _) rfl ?_
            refine sAs (v := nv _) rfl ?_
            refine sNil (kSeqN ?_)
            refine cDraw rfl ?_
            refine sMv (v := .slice _ _ _) rfl ?_
            refine sMv (v := nv _) rfl ?_
            refine sLdAll A49 S49 rfl ((hke _ (by omega) (by omega)).trans g7) rfl ?_
            refine sMv (v := .slice _ _ _) rfl ?_
            refine sMv (v := nv _) rfl ?_
            refine sIx T22 S3 rfl rfl (by omega) ?_
            refine sLd (v := nv y) A3 rfl gr' (by simpa using hci) ?_
            obtain ⟨v70, m70, h70, rfl, e70⟩ := spec_Done (m := M) (N := m2.size) (kd := g.1) (x := y) (w := g.2) (((hso.ext e6).ext e7).keep fun b hb => hke b (by have := (hso.lt hb).2; omega) (by have := (hso.lt hb).2; omega)) gw2 gw3 hgk (fun z hz => by have := gw1 z hz; omega) (by omega)
            refine sCall2 rfl call82 rfl rfl h70 ?_
            have gr70 := e70.cells gr'
            have z70 := e70.1
            refine sIx T22 S3 rfl rfl (by omega) ?_
            refine sSt (v := nv _) S3 rfl rfl gr70 (by simp; omega) rfl rfl ?_
            refine sNil (kBlkN (kSeqN ?_))
            refine cRegion ?_
            refine sBin rfl rfl (aInt_add (b := 1) (by omega)) ?_
            refine sMv (v := nv _) rfl ?_
            refine sNil (kSeqN ?_)
            refine ⟨_, ?_, x + 1, _, rfl, by omega, by simp; omega, gS rfl (live gr70), by simp [hcs'], fun q z hz => ?_, fun b h1 h2 => ?_, rfl, rfl, rfl, rfl, rfl, rfl, rfl, rfl, rfl, rfl, rfl, rfl, rfl, rfl, rfl, rfl, rfl, trivial⟩
            · omega
            · rw [Array.getElem?_setIfInBounds]
              by_cases hji : q = x
              · subst hji
                rw [hy] at hz
                obtain rfl := Option.some.inj hz
                rw [if_pos (by simp), if_pos (by simp; omega), if_pos (by omega)]
              · rw [if_neg (by simp; omega), hcv q z hz]
                congr 2
                by_cases h : q < x
                · rw [if_pos h, if_pos (by omega)]
                · rw [if_neg h, if_neg (by omega)]
            · rw [gSn (by omega), e70.2 b (by omega)]; exact hke b h1 h2
          ·
            obtain rfl : x = 2 ^ n := by omega
            have oQ : OwnF M6.size M (.slice (some ⟨rb, 0, some 1⟩) (2 ^ n) cap7) (ofs (doL g.2 p)) := by
              refine .inr ⟨rb, cap7, c', by rw [ofs_length, hq.1], hrb, gr', by rw [ofs_length, hq.1]; omega, by omega, fun q z hz => ?_⟩
              simp only [ofs, doL, List.map_map, List.getElem?_map, Option.map_eq_some_iff] at hz
              obtain ⟨y, hy, rfl⟩ := hz
              have := hcv q y hy
              rwa [if_pos (by have := (List.getElem?_eq_some_iff.1 hy).1; rw [hpP.1] at this; exact this)] at this
            have gmM : Mem.get M mb = .map true (keysV (Kj.map codeM)) := (hke mb (by omega) (by omega)).trans ((e7.2 _ (by omega)).trans ((e6.2 _ (by omega)).trans gm3))
            have lowM : ∀ b, b < m3.size → Mem.get M b = Mem.get m3 b := fun b hb => (hke b (by omega) (by omega)).trans ((e7.2 _ (by omega)).trans (e6.2 _ hb))
            have oM : OwnR m'.size M (.slice q9' (Kj.drop (lvS n d).2.length).length c9') cs9' (ofs2 (Kj.drop (lvS n d).2.length)) := hO3.up fun b _ h2 => lowM b h2
            refine cExit (kSeqE (kSeqE (kBlkS (kSeqN ?_))))
            refine cSeq ?_
            refine cRegion ?_
            refine sMv (v := .map _) rfl ?_
            refine sMv (v := .slice _ _ _) rfl ?_
            obtain ⟨v75, m75, h75, rfl, rfl⟩ := spec_code oQ.ints (by rw [hq.1]; omega) (fun z hz => by have := hq.2 z hz; omega)
            refine sCall1 rfl call131 rfl h75 ?_
            refine sO (v := .bool (decide (codeM (doL g.2 p) ∈ Kj.map codeM))) (opF_read rfl (look_keys gmM)) ?_
            refine sP (v := .bool (decide (¬ codeM (doL g.2 p) ∈ Kj.map codeM))) (by
              show some (Value.bool (!decide (codeM (doL g.2 p) ∈ Kj.map codeM))) = _
              rw [decide_not]) ?_
            refine sNil (kSeqN ?_)
            refine cCond (p := ¬ codeM (doL g.2 p) ∈ Kj.map codeM) rfl (fun c5 => ?_) (fun c5 => ?_)
            ·
              have hnm : ¬ doL g.2 p ∈ Kj := fun h => c5 (hcode.2 h)
              have hstep' : lvTries p ((gatesM n).take (j + 1)) Ki = Kj ++ [doL g.2 p] := by rw [hstep, lvTry, if_neg hnm]
              refine cSeq ?_
              refine cRegion ?_
              refine sMv (v := .map _) rfl ?_
              refine sMv (v := .slice _ _ _) rfl ?_
              obtain ⟨v80, m80, h80, rfl, rfl⟩ := spec_code oQ.ints (by rw [hq.1]; omega) (fun z hz => by have := hq.2 z hz; omega)
              refine sCall1 rfl call131 rfl h80 ?_
              have hup := upd_keys (k := codeM (doL g.2 p)) gmM
              rw [keysV_snoc _ _ c5] at hup
              refine sO (v := Go.undef) (m' := M.setIfInBounds mb (.map true (keysV ((Kj ++ [doL g.2 p]).map codeM)))) (opF_eff rfl rfl (congrArg (Option.map fun m' => (Go.undef, m')) hup)) ?_
              have gm8 : Mem.get (M.setIfInBounds mb (.map true (keysV ((Kj ++ [doL g.2 p]).map codeM)))) mb = .map true (keysV ((Kj ++ [doL g.2 p]).map codeM)) := gS rfl (by omega)
              have ne8 : ∀ b, b ≠ mb → Mem.get (M.setIfInBounds mb (.map true (keysV ((Kj ++ [doL g.2 p]).map codeM)))) b = Mem.get M b := fun b hb => gSn (fun e => hb e.symm)
              have z8 : (M.setIfInBounds mb (.map true (keysV ((Kj ++ [doL g.2 p]).map codeM)))).size = M.size := by simp
              generalize M.setIfInBounds mb (.map true (keysV ((Kj ++ [doL g.2 p]).map codeM))) = M8 at *
              have oM8 := oM.up (m' := M8) fun b h1 h2 => ne8 b (by omega)
              have oQ8 := oQ.up (m' := M8) fun b h1 h2 => ne8 b (by omega)
              refine sNil (kSeqN ?_)
              refine cRegion ?_
              refine sMv (v := .slice _ _ _) rfl ?_
              refine sMv (v := .slice _ _ _) rfl ?_
              refine sBuildS T34 S22 Z22 (by decide) (by decide) (by decide) (by kernel_rfl) fillV rfl ?_
              refine sAppC El22 rfl rfl (N := m'.size) (n := (Kj.drop (lvS n d).2.length).length) (cs := cs9') (d := #[.slice (some ⟨rb, 0, some 1⟩) (2 ^ n) cap7]) (by have := (oM8.1).ext (.push M8 (.cells true #[.slice (some ⟨rb, 0, some 1⟩) (2 ^ n) cap7])); rw [ofs2_length] at this; exact this) (gP rfl) rfl (by kernel_rfl) (by simp; omega) (by rw [List.length_drop]; omega) fun v' m9 hO9' hL9 hG9 => ?_
              have hgr := (oM8.ext (.push _ _)).grew ((oQ8.mono (by omega)).ext (.push _ _)) (fun b hb e => by
                have h1 := (oQ8.lt hb).1
                have h2 := (hO3.1.lt e).2
                omega) hG9 (by rw [ofs2_length]; exact hO9')
              rw [← ofs2_append] at hgr
              obtain ⟨q9n, c9n, rfl⟩ := hO9'.len
              have z9 := hL9.1
              simp only [Array.size_push] at z9
              have low9 : ∀ b, b < m3.size → b ≠ mb → blkOf (.slice q9' (Kj.drop (lvS n d).2.length).length c9') ≠ some b → Mem.get m9 b = Mem.get m3 b := fun b h1 h2 h3 => by
                rw [hG9.2.1 b (by simp; omega) h3, gPn (by omega), ne8 b h2]; exact lowM b h1
              refine sAs (v := .slice _ _ _) rfl ?_
              refine sNil (kBlkN (kSeqN ?_))
              refine cRegion ?_
              refine sBin rfl rfl (aInt_add (b := 1) (by omega)) ?_
              refine sMv (v := nv _) rfl ?_
              refine sNil (kSeqN ?_)
              refine ⟨_, ?_, j + 1, _, cs9' ++ #[.slice (some ⟨rb, 0, some 1⟩) (2 ^ n) cap7], rfl, by omega, by omega, fun b h1 h2 => ?_, fun b h1 h2 => ?_, ?_, ?_, ?_, rfl, rfl, rfl, rfl, rfl, rfl, rfl, rfl, rfl, rfl, rfl, rfl, trivial⟩
              · omega
              · rw [low9 b (by omega) h2 (fun e => by have := (hO3.1.lt e).1; omega)]; exact hk3 b h1 h2
              · rw [low9 b (by omega) (by omega) (fun e => by have := hw3 b e; omega)]; exact hg3 b h1 h2
              · rw [hstep', hL9.2 mb (by omega), gPn (by omega)]; exact gm8
              · rw [hstep', List.drop_append_of_le_length hKge]; exact hgr
              · intro b hb
                rcases hG9.2.2 with e | ⟨b', e, hb'⟩
                · exact hw3 b (e.symm.trans hb)
                · have hbb : b' = b := Option.some.inj (e.symm.trans hb)
                  simp at hb'; omega
            ·
              have hnm : doL g.2 p ∈ Kj := hcode.1 (Decidable.not_not.1 c5)
              have hstep' : lvTries p ((gatesM n).take (j + 1)) Ki = Kj := by rw [hstep, lvTry, if_pos hnm]
              refine cSkip (kBlkN (kSeqN ?_))
              refine cRegion ?_
              refine sBin rfl rfl (aInt_add (b := 1) (by omega)) ?_
              refine sMv (v := nv _) rfl ?_
              refine sNil (kSeqN ?_)
              refine ⟨_, ?_, j + 1, _, cs9', rfl, by omega, by omega, fun b h1 h2 => (lowM b (by omega)).trans (hk3 b h1 h2), fun b h1 h2 => (lowM b (by omega)).trans (hg3 b h1 h2), ?_, ?_, hw3, rfl, rfl, rfl, rfl, rfl, rfl, rfl, rfl, rfl, rfl, rfl, rfl, trivial⟩
              · omega
              · rw [hstep']; exact gmM
              · rw [hstep']; exact oM
        ·
          obtain rfl : j = (gatesM n).length := by omega
          rw [List.take_length, ← hst] at *
          refine cExit (kSeqE (kSeqE (kBlkS (kBlkN (kSeqN ?_)))))
          refine cRegion ?_
          refine sBin rfl rfl (aInt_add (b := 1) (by omega)) ?_
          refine sMv (v := nv _) rfl ?_
          refine sNil (kSeqN ?_)
          refine ⟨_, ?_, i + 1, _, cs9', rfl, by omega, by omega, hk3, gm3, hO3, rfl, rfl, rfl, rfl, rfl, rfl, rfl, rfl, trivial⟩
          omega
      ·
        obtain rfl : i = (lvl n d).length := by omega
        have hnext : lvRun n (lvl n d).length (lvS n d).1 (lvS n d).2 = (lvS n (d + 1)).2 := by rw [hll]; rfl
        have hnl : (lvRun n (lvl n d).length (lvS n d).1 (lvS n d).2).drop (lvS n d).2.length = lvl n (d + 1) := by rw [hnext]; rfl
        rw [hnl] at hO9 ⊢
        rw [hnext] at gm2
        have hL2 := hL3.keep (m' := m2) (by omega) hz2 hk2
        have hS2 := hO9.sup (mb := mb) (v := .slice (some ⟨bo, 0, some 1⟩) (d + 1) co) (by omega) (fun b e => by
          have : bo = b := Option.some.inj e
          have := live gO
          omega)
        refine cExit (kSeqE (kSeqE (kBlkS (kSeqN ?_))))
        refine cRegion ?_
        refine sMv (v := .slice _ _ _) rfl ?_
        refine sMv (v := .slice _ _ _) rfl ?_
        refine sBuildS T119 S34 Z34 (by decide) (by decide) (by decide) (by kernel_rfl) fillV rfl ?_
        refine sAppC El119 rfl rfl (N := mb + 1) (n := d + 1) (cs := cs) (d := #[.slice q9 (lvl n (d + 1)).length c9]) (by have := (hL2.1).ext (.push m2 (.cells true #[.slice q9 (lvl n (d + 1)).length c9])); rw [hDl] at this; exact this) (gP rfl) rfl (by kernel_rfl) (by simp; omega) (by omega) fun v' m9 hO9' hL9 hG9 => ?_
        have hgr := (hL2.keep (by omega) (by simp) fun b h1 _ => gPn h1).grew (hS2.keep (by simp) fun b h1 _ => gPn h1) hG9 (by rw [hDl]; exact hO9')
        rw [show (List.range (d + 1)).map (lvl n) ++ [lvl n (d + 1)] = (List.range (d + 1 + 1)).map (lvl n) by rw [List.range_succ (n := d + 1), List.map_append]; rfl] at hgr
        obtain ⟨qn, cn, rfl⟩ := hO9'.len
        have z9 := hL9.1
        simp only [Array.size_push] at z9
        have hlow : ∀ b, b ≤ mb → Mem.get m9 b = Mem.get m2 b := fun b hb => by rw [hL9.2 b (by omega), gPn (by omega)]
        refine sAs (v := .slice _ _ _) rfl ?_
        refine sNil (kBlkN (kSeqN ?_))
        refine ⟨_, ?_, d + 1, _, _, rfl, by omega, ⟨by omega, fun b hb => ?_⟩, by omega, ?_, hgr, rfl, rfl, rfl, rfl, trivial⟩
        · omega
        · rw [hlow b (by omega), hk2 b (by omega) (by omega)]; exact hE.2 b hb
        · rw [hlow mb (Nat.le_refl _)]; exact gm2
    ·
      obtain rfl : d = most := by omega
      refine cExit (kSeqE (kSeqE (kBlkS (kSeqN ?_))))
      refine cSeq ?_
      refine cRegion ?_
      refine sMv (v := .slice _ _ _) rfl ?_
      refine sAs (v := .slice _ _ _) rfl ?_
      refine sNil (kSeqN ?_)
      refine cRet ?_
      have := hL3.out (by rw [hDl]; omega)
      rw [hDl] at this
      exact ⟨.inr rfl, _, rfl, this, hE⟩
end Go.AM

/-! ### R40 -/
namespace Go.AM
open Go.Proofs
set_option maxRecDepth 100000
set_option linter.unusedVariables false
set_option linter.unusedSimpArgs false
theorem okf36 : okF Tryd.prog H0 36 25 = true := by kernel_rfl
theorem spec_rCount {m : Mem} {w g : Int} : ∃ v m', ACalls Tryd.prog 36 #[.int .i64 w, .int .i64 g] m v m' ∧ (v = .tuple #[nv (countV w g), nv (countE w g)] ∧ Ext m m') := by
  refine wpF (args := [_, _]) mixed okf36 (fn := Tryd.f36) rfl rfl rfl (by simp) ?_
  refine cSeq ?_
  refine cRegion ?_
  refine sAs (v := nv 0) rfl ?_
  refine sAs (v := nv 0) rfl ?_
  refine sNil (kSeqN ?_)
  refine cSeq ?_   -- seq 1
  refine cSeq ?_
  refine cRegion ?_
  refine sMv (v := .int _ _) rfl ?_
  refine sBinI (v := .bool (decide (w < 1))) rfl rfl aInt_lssI ?_
  refine sMv (v := .bool _) rfl ?_
  by_cases h1 : w < 1
  ·
    rw [decide_eq_true h1]
    refine sGno (q' := true) rfl rfl (by simp) ?_
    refine sGno (q' := true) rfl rfl (by simp) ?_
    refine sP (v := .bool _) rfl ?_
    refine sNil (kSeqN ?_)
    refine cCondT rfl ?_
    refine cSeq ?_
    refine cRegion ?_
    refine sAs (v := nv 0) rfl ?_
    refine sAs (v := nv 2) rfl ?_
    refine sNil (kSeqN ?_)
    refine cRet (kSeqR ?_)
    exact ⟨.inr rfl, _, rfl, by rw [countV, show countE w g = 2 by rw [countE, if_pos (.inl h1)]]; rfl, .refl _⟩
  ·
    rw [decide_eq_false h1]
    refine sG rfl rfl ?_
    refine sMv (v := .int _ _) rfl ?_
    refine sG rfl rfl ?_
    refine sBinI (v := .bool (decide (3 < w))) rfl rfl aInt_gtrI ?_
    refine sP (v := .bool _) rfl ?_
    refine sNil (kSeqN ?_)
    refine cCond (p := 3 < w) rfl (fun c1 => ?_) (fun c1 => ?_)
    ·
      refine cSeq ?_
      refine cRegion ?_
      refine sAs (v := nv 0) rfl ?_
      refine sAs (v := nv 2) rfl ?_
      refine sNil (kSeqN ?_)
      refine cRet (kSeqR ?_)
      exact ⟨.inr rfl, _, rfl, by rw [countV, show countE w g = 2 by rw [countE, if_pos (.inr c1)]]; rfl, .refl _⟩
    ·
      refine cSkip (kSeqN ?_)
      refine cSeq ?_   -- seq 5
      refine cSeq ?_
      refine cRegion ?_
      refine sMv (v := .int _ _) rfl ?_
      refine sBinI (v := .bool (decide (g < 0))) rfl rfl aInt_lssI ?_
      refine sMv (v := .bool _) rfl ?_
      by_cases h2 : g < 0
      ·
        rw [decide_eq_true h2]
        refine sGno (q' := true) rfl rfl (by simp) ?_
        refine sGno (q' := true) rfl rfl (by simp) ?_
        refine sP (v := .bool _) rfl ?_
        refine sNil (kSeqN ?_)
        refine cCondT rfl ?_
        refine cSeq ?_
        refine cRegion ?_
        refine sAs (v := nv 0) rfl ?_
        refine sAs (v := nv 3) rfl ?_
        refine sNil (kSeqN ?_)
        refine cRet (kSeqR ?_)
        exact ⟨.inr rfl, _, rfl, by rw [countV, show countE w g = 3 by rw [countE, if_neg (by omega), if_pos (.inl h2)]]; rfl, .refl _⟩
      ·
        rw [decide_eq_false h2]
        refine sG rfl rfl ?_
        refine sMv (v := .int _ _) rfl ?_
        refine sG rfl rfl ?_
        refine sBinI (v := .bool (decide (4 < g))) rfl rfl aInt_gtrI ?_
        refine sP (v := .bool _) rfl ?_
        refine sNil (kSeqN ?_)
        refine cCond (p := 4 < g) rfl (fun c3 => ?_) (fun c3 => ?_)
        ·
          refine cSeq ?_
          refine cRegion ?_
          refine sAs (v := nv 0) rfl ?_
          refine sAs (v := nv 3) rfl ?_
          refine sNil (kSeqN ?_)
          refine cRet (kSeqR ?_)
          exact ⟨.inr rfl, _, rfl, by rw [countV, show countE w g = 3 by rw [countE, if_neg (by omega), if_pos (.inr c3)]]; rfl, .refl _⟩
        ·
          have hE : countE w g = 0 := by rw [countE, if_neg (by omega), if_neg (by omega)]
          obtain ⟨W, rfl⟩ : ∃ W : Nat, w = Int.ofNat W := ⟨w.toNat, by simp; omega⟩
          obtain ⟨G, rfl⟩ : ∃ G : Nat, g = Int.ofNat G := ⟨g.toNat, by simp; omega⟩
          have hW : W ≤ 3 := by have : ¬ (3 < (W : Int)) := c1; omega
          have hG : G ≤ 4 := by have : ¬ (4 < (G : Int)) := c3; omega
          have hVV : countV (Int.ofNat W) (Int.ofNat G) = (lvl W G).length := by rw [countV, if_pos hE]; exact countN_lvl hW hG
          rw [hVV, hE]
          refine cSkip (kSeqN ?_)
          refine cSeq ?_
          refine cRegion ?_
          refine sMv (v := nv W) rfl ?_
          refine sMv (v := nv G) rfl ?_
          obtain ⟨v20, m20, h20, ⟨bo, capo, co, rfl, go, xo⟩, e20⟩ := spec_Levels (m := m) hW hG
          obtain ⟨s, hs, hr⟩ := xo G (lvl W G) (by rw [List.getElem?_map, List.getElem?_range (by omega)]; rfl)
          obtain ⟨qs, cs, rfl⟩ := hr.len
          rw [ofs2_length, lvls_len] at *
          refine sCall2 rfl call90 rfl rfl h20 ?_
          refine sMv (v := nv G) rfl ?_
          refine sIx T119 S34 rfl rfl (show G < G + 1 by omega) ?_
          refine sLd (v := .slice qs (lvl W G).length cs) A34 rfl go (by simpa using hs) ?_
          refine sLen T34 rfl ?_
          refine sAs (v := nv _) rfl ?_
          refine sAs (v := nv 0) rfl ?_
          refine sNil (kSeqN ?_)
          refine cRet ?_
          exact ⟨.inr rfl, _, rfl, rfl, e20⟩
theorem okf5 : okF Tryd.prog H0 5 38 = true := by kernel_rfl
theorem spec_CountsLaw {m : Mem} (hC : GlobC m) (hW : GlobW m) : ∃ v m', ACalls Tryd.prog 5 #[] m v m' ∧ (v = .bool true ∧ Ext m m') := by
  refine wpF (args := []) mixed okf5 (fn := Tryd.f5) rfl rfl rfl (by simp) ?_
  refine cSeq ?_
  refine cRegion ?_
  refine sAs (v := .bool _) rfl ?_
  refine sNil (kSeqN ?_)
  refine cSeq ?_
  refine cSeq ?_
  refine cRegion ?_
  refine sMv (v := nv 0) rfl ?_
  refine sNil (kSeqN ?_)
  refine cBlock ?_
  refine wpC_loop (fun k ρ m' => ∃ w, k = 5 - w ∧ w ≤ 5 ∧ Ext m m' ∧ Has ρ [(7, nv w)]) ⟨0, rfl, Nat.zero_le _, .refl _, rfl, trivial⟩ ?_
  rintro k ρ m' ⟨w, rfl, hw, hE, hh⟩
  rw [hh.env]; clear hh
  refine cSeq ?_
  refine cRegion ?_
  refine sBin (a := w) (b := 5) rfl rfl aInt_lss ?_
  refine sNil (kSeqN ?_)
  refine cSeq ?_   -- seq 4
  refine cCond rfl (fun c0 => ?_) (fun c0 => ?_)
  ·
    refine cSkip (kSeqN ?_)
    refine cSeq ?_
    refine cBlock ?_
    refine cSeq ?_
    refine cRegion ?_
    refine sMv (v := nv _) rfl ?_
    refine sAs (v := nv _) rfl ?_
    refine sNil (kSeqN ?_)
    refine cSeq ?_
    refine cRegion ?_
    refine sAs (v := .int .i64 (-1)) rfl ?_
    refine sNil (kSeqN ?_)
    refine cBlock ?_
    refine wpC_loop (fun k ρ m2 => ∃ j : Nat, k = 7 - j ∧ j ≤ 7 ∧ Ext m m2 ∧ Has ρ [(1, nv w), (2, .int .i64 (Int.ofNat j - 1)), (7, nv w)]) ⟨0, rfl, Nat.zero_le _, hE, rfl, rfl, rfl, trivial⟩ ?_
    rintro k ρ m2 ⟨j, rfl, hj, hE2, hh⟩
    rw [hh.env]; clear hh
    refine cSeq ?_   -- seq 8
    refine cSeq ?_
    refine cRegion ?_
    refine sMv (v := .int .i64 (Int.ofNat j - 1)) rfl ?_
    refine sBinI (b := 6) (v := .bool (decide (Int.ofNat j - 1 < 6))) rfl rfl aInt_lssI ?_
    refine sNil (kSeqN ?_)
    refine cCond (p := Int.ofNat j - 1 < 6) rfl (fun c1 => ?_) (fun c1 => ?_)
    ·
      have hj7 : j < 7 := by have : (j : Int) - 1 < 6 := c1; omega
      refine cSkip (kSeqN ?_)
      refine cSeq ?_
      refine cBlock ?_
      refine cSeq ?_
      refine cRegion ?_
      refine sMv (v := nv _) rfl ?_
      refine sMv (v := .int .i64 (Int.ofNat j - 1)) rfl ?_
      obtain ⟨v17, m17, h17, rfl, e17⟩ := spec_Count (m := m2) (w := Int.ofNat w) (g := Int.ofNat j - 1)
      refine sCall2 rfl call35 rfl rfl h17 ?_
      refine sMv (v := .tuple _) rfl ?_
      refine sP (v := nv _) rfl ?_   -- extract ['t14', '0']
      refine sP (v := nv _) rfl ?_   -- extract ['t14', '1']
      refine sAs (v := nv _) rfl ?_
      refine sAs (v := nv _) rfl ?_
      refine sNil (kSeqN ?_)
      refine cSeq ?_
      refine cRegion ?_
      refine sMv (v := nv _) rfl ?_
      refine sMv (v := .int .i64 (Int.ofNat j - 1)) rfl ?_
      obtain ⟨v23, m23, h23, rfl, e23⟩ := spec_rCount (m := m17) (w := Int.ofNat w) (g := Int.ofNat j - 1)
      refine sCall2 rfl call36 rfl rfl h23 ?_
      refine sMv (v := .tuple _) rfl ?_
      refine sP (v := nv _) rfl ?_   -- extract ['t20', '0']
      refine sP (v := nv _) rfl ?_   -- extract ['t20', '1']
      refine sAs (v := nv _) rfl ?_
      refine sAs (v := nv _) rfl ?_
      refine sNil (kSeqN ?_)
      refine cSeq ?_
      refine cRegion ?_
      refine sMv (v := nv _) rfl ?_
      refine sMv (v := nv _) rfl ?_
      refine sBin (v := .bool false) (a := countV (Int.ofNat w) (Int.ofNat j - 1)) (b := countV (Int.ofNat w) (Int.ofNat j - 1)) rfl rfl (neqF rfl) ?_
      refine sMv (v := .bool false) rfl ?_
      refine sG rfl rfl ?_
      refine sMv (v := nv _) rfl ?_
      refine sG rfl rfl ?_
      refine sMv (v := nv _) rfl ?_
      refine sG rfl rfl ?_
      refine sBin (v := .bool false) (a := countE (Int.ofNat w) (Int.ofNat j - 1)) (b := countE (Int.ofNat w) (Int.ofNat j - 1)) rfl rfl (neqF rfl) ?_
      refine sP (v := .bool false) rfl ?_
      refine sNil (kSeqN ?_)
      refine cCondF rfl ?_
      refine cSkip (kBlkN (kSeqN ?_))
      refine cRegion ?_
      refine sMv (v := .int .i64 (Int.ofNat j - 1)) rfl ?_
      refine sBinI (b := 1) (v := .int .i64 (Int.ofNat (j + 1) - 1)) rfl rfl (by
        rw [aInt_addI (b := 1) (by simp; omega)]
        congr 2
        simp only [Int.ofNat_eq_natCast, Int.natCast_add, Int.natCast_one]; omega) ?_
      refine sAs (v := .int .i64 (Int.ofNat (j + 1) - 1)) rfl ?_
      refine sNil (kSeqN ?_)
      refine ⟨_, ?_, j + 1, rfl, by omega, (hE2.trans e17).trans e23, rfl, rfl, rfl, trivial⟩
      omega
    ·
      skip
      refine cExit (kSeqE (kSeqE (kBlkS (kBlkN (kSeqN ?_)))))
      refine cRegion ?_
      refine sBin rfl rfl (aInt_add (b := 1) (by omega)) ?_
      refine sMv (v := nv _) rfl ?_
      refine sNil (kSeqN ?_)
      refine ⟨_, ?_, w + 1, rfl, by omega, hE2, rfl, trivial⟩
      omega
  ·
    refine cExit (kSeqE (kSeqE (kBlkS (kSeqN ?_))))
    refine cSeq ?_
    refine cRegion ?_
    refine sMv (v := .bool true) rfl ?_
    refine sG rfl rfl ?_
    obtain ⟨v36, m36, h36, rfl, e36⟩ := spec_awake (hC.ext hE) (hW.ext hE)
    refine sCall0 rfl call14 h36 ?_
    refine sP (v := .bool true) rfl ?_
    refine sAs (v := .bool _) rfl ?_
    refine sNil (kSeqN ?_)
    refine cRet ?_
    exact ⟨.inr rfl, _, rfl, rfl, hE.trans e36⟩
end Go.AM

/-! ### F50 -/
namespace Go.AM
open Go.Proofs Go.Proofs.YtdokoekgdeebpaaDoor Go.ChangeShapes
set_option maxRecDepth 100000
set_option linter.unusedVariables false
set_option linter.unusedSimpArgs false
theorem gSize : Tryd.prog.globals.size = 3 := by kernel_rfl
theorem u4 : Tryd.prog.underlying 4 = some .bool := by kernel_rfl
theorem var_block {P : Program} {w : World} {n : String} {g : Nat} {cs : Array Value} (hg : P.globalNamed n = some g) (h : w.var? P n = some cs) : ∃ t fz, w.heap[g]? = some (.cells cs t fz) := by
  simp only [World.var?, hg, Option.bind_some] at h
  split at h
  · rename_i c t fz e
    injection h with h; subst h
    exact ⟨t, fz, e⟩
  · cases h
theorem gCla : Tryd.prog.globalNamed "spoondrift/rev.classical" = some 1 := by kernel_rfl
theorem tCla : (Tryd.prog.globals[1]?).map (·.type) = some 129 := by kernel_rfl
theorem u3 : Tryd.prog.underlying 3 = some (.int .i64) := by kernel_rfl
theorem u98 : Tryd.prog.underlying 98 = some (.func #[3, 22] #[3] false) := by kernel_rfl
theorem u127 : Tryd.prog.underlying 127 = some (.struct #[{ name := "controls", type := 3, offset := 0, embedded := false, tag := "", pkgPath := "spoondrift/rev", byteOffset := 0 }, { name := "does", type := 98, offset := 1, embedded := false, tag := "", pkgPath := "spoondrift/rev", byteOffset := 8 }]) := by kernel_rfl
theorem u129 : Tryd.prog.underlying 129 = some (.map 3 127) := by kernel_rfl
theorem hc3 : Tryd.prog.cellsOf 3 = 1 := by kernel_rfl
theorem hc98 : Tryd.prog.cellsOf 98 = 1 := by kernel_rfl
theorem hc127 : Tryd.prog.cellsOf 127 = 2 := by kernel_rfl
def tokT : List UInt8 := [115, 112, 111, 111, 110, 100, 114, 105, 102, 116, 47, 114, 101, 118, 46, 116, 117, 114, 110, 101, 100]
def tokS : List UInt8 := [115, 112, 111, 111, 110, 100, 114, 105, 102, 116, 47, 114, 101, 118, 46, 115, 119, 97, 112, 112, 101, 100]
theorem oneT : ((List.range Tryd.prog.funcs.size).filter fun f => (Tryd.prog.funcs[f]?).any (·.name.toUTF8.data.toList == tokT)) = [76] := by kernel_rfl
theorem oneS : ((List.range Tryd.prog.funcs.size).filter fun f => (Tryd.prog.funcs[f]?).any (·.name.toUTF8.data.toList == tokS)) = [181] := by kernel_rfl
/-- A kind's entry: how many controls, what it does. -/
theorem entry_kind {w : World} {n : Nat} {c : Int} {q : FuncId} {tk : List UInt8} (ht : (tk = tokT ∧ q = 76) ∨ (tk = tokS ∧ q = 181)) {cs : List Value} {y : DataW (List UInt8) × List MemPlace}
    (h : DataW.trod (funcToken Tryd.prog) Tryd.prog w 0 (fun _ => true) true n 127 cs = some y) (hy : y.1 = .agg [.lit (.int .i64 c), .held tk]) : cs = [.int .i64 c, .func (.func q) #[] #[]] := by
  obtain ⟨xs, m, rfl, hx, hl, hn, hel⟩ := DataW.trod_struct u127 h
  have h0 := hel 0 _ rfl
  have h1 := hel 1 _ rfl
  rw [hx] at hy
  simp only [DataW.agg.injEq] at hy
  rw [hc127] at hl
  match cs, hl with
  | [a, b], _ =>
    match xs, hn, hy, h0, h1 with
    | [e0, e1], _, hy, h0, h1 =>
      simp only [List.map_cons, List.map_nil, List.cons.injEq, and_true] at hy
      have h2 : DataW.trod (funcToken Tryd.prog) Tryd.prog w 0 (fun _ => true) true m 3 [a] = some (.lit (.int .i64 c), e0.2) := by
        rw [← hy.1]; simpa [hc3] using h0
      have h3 : DataW.trod (funcToken Tryd.prog) Tryd.prog w 0 (fun _ => true) true m 98 [b] = some (.held tk, e1.2) := by
        rw [← hy.2]; simpa [hc98] using h1
      have hb : b = .func (.func q) #[] #[] := by
        rcases ht with ⟨rfl, rfl⟩ | ⟨rfl, rfl⟩
        · exact func_of_trod u98 oneT h3
        · exact func_of_trod u98 oneS h3
      subst hb
      cases m with
      | zero => simp [DataW.trod] at h2
      | succ m =>
        rw [DataW.trod_step] at h2
        unfold DataW.trodStep at h2
        rw [u3] at h2
        cases a <;> simp at h2
        simp_all
def claD : DataW Unit := .map [(.int .i64 1, .agg [.lit (.int .i64 0), .iface "func" (.lit (.string tokT))]), (.int .i64 9, .agg [.lit (.int .i64 1), .iface "func" (.lit (.string tokT))]), (.int .i64 11, .agg [.lit (.int .i64 0), .iface "func" (.lit (.string tokS))]), (.int .i64 12, .agg [.lit (.int .i64 2), .iface "func" (.lit (.string tokT))])]
/-- One of the table's entries. -/
def IsKind (k v : Value) : Prop := (k = .int .i64 1 ∧ v = .agg #[.int .i64 0, .func (.func 76) #[] #[]]) ∨ (k = .int .i64 9 ∧ v = .agg #[.int .i64 1, .func (.func 76) #[] #[]]) ∨ (k = .int .i64 11 ∧ v = .agg #[.int .i64 0, .func (.func 181) #[] #[]]) ∨ (k = .int .i64 12 ∧ v = .agg #[.int .i64 2, .func (.func 76) #[] #[]])
theorem mem_fold {x : Lit × DataW (List UInt8)} : ∀ {l : List (Lit × DataW (List UInt8))}, x ∈ l.foldr DataW.insert [] ↔ x ∈ l
  | [] => by simp
  | y :: l => by
    rw [List.foldr_cons, Go.ChangeMaps.mem_insert_iff, mem_fold, List.mem_cons]
theorem open_kinds {w : World} (h : funcsAt Tryd.prog w "spoondrift/rev.classical" claD) :
    ∃ c t fz b es clk, w.heap[1]? = some (.cells c t fz) ∧ c[0]? = some (.map (some b)) ∧ w.heap[b]? = some (.map es clk) ∧ (∀ x ∈ es.toList, IsKind x.key x.val) ∧ ∀ k, (k = 1 ∨ k = 9 ∨ k = 12) → ∃ x ∈ es.toList, x.key = .int .i64 k := by
  obtain ⟨g, t, cs, fuel, p, hg, ht, hc, hd⟩ := h
  obtain rfl := Option.some.inj (gCla.symm.trans hg)
  obtain rfl := Option.some.inj (tCla.symm.trans ht)
  obtain ⟨ty, fz, hb0⟩ := var_block hg hc
  have hout : claD.funcsOut = .map [(.int .i64 1, .agg [.lit (.int .i64 0), .held tokT]), (.int .i64 9, .agg [.lit (.int .i64 1), .held tokT]), (.int .i64 11, .agg [.lit (.int .i64 0), .held tokS]), (.int .i64 12, .agg [.lit (.int .i64 2), .held tokT])] := by rfl
  rw [hout] at hd
  rcases Go.WideElems.open_map u129 hd with ⟨_, h2⟩ | ⟨b, es, clk, n, _, hcs, hb, _, F, hx⟩
  · simp at h2
  simp only [Prod.mk.injEq, DataW.map.injEq] at hx
  have hx1 := hx.1
  have hmem : ∀ z, z ∈ es.toList.map (Go.WideElems.rg Tryd.prog 3 (Go.WideElems.elemAt (funcToken Tryd.prog) Tryd.prog w 0 (fun _ => true) true n 127)) ↔ z ∈ [((.int .i64 1 : Lit), (.agg [.lit (.int .i64 0), .held tokT] : DataW (List UInt8))), (.int .i64 9, .agg [.lit (.int .i64 1), .held tokT]), (.int .i64 11, .agg [.lit (.int .i64 0), .held tokS]), (.int .i64 12, .agg [.lit (.int .i64 2), .held tokT])] := fun z => by
    rw [hx1, mem_fold]
  have key : ∀ x ∈ es.toList, ∀ (k c : Int) (tk : List UInt8) (q : FuncId), ((tk = tokT ∧ q = 76) ∨ (tk = tokS ∧ q = 181)) → Go.WideElems.rg Tryd.prog 3 (Go.WideElems.elemAt (funcToken Tryd.prog) Tryd.prog w 0 (fun _ => true) true n 127) x = (.int .i64 k, .agg [.lit (.int .i64 c), .held tk]) → x.key = .int .i64 k ∧ x.val = .agg #[.int .i64 c, .func (.func q) #[] #[]] := by
    intro x hx k c tk q htk hr
    obtain ⟨y, hy⟩ := F.reads x hx
    rw [Go.WideElems.rg_of hy] at hr
    subst hr
    have h1 := Go.WideElems.rd_key hy
    obtain ⟨z, hz, h2⟩ := Go.WideElems.rd_val hy
    refine ⟨?_, ?_⟩
    · simp only [keyOf, u3, mapKey] at h1
      split at h1 <;> simp_all
    · simp only [Go.WideElems.elemAt] at hz
      split at hz
      · rename_i hf
        have := entry_kind htk hz h2.symm
        cases hv : x.val with
        | agg cs2 =>
          rw [hv] at this
          have e : cs2.toList = [.int .i64 c, .func (.func q) #[] #[]] := this
          obtain ⟨l⟩ := cs2
          simp only at e
          subst e; rfl
        | _ => rw [hv] at hf; simp [Value.formed, u127] at hf
      · cases hz
  have hcs0 : cs[0]? = some (.map (some b)) := by
    have := congrArg (·[0]?) hcs
    simpa using this
  refine ⟨cs, ty, fz, b, es, clk, hb0, hcs0, hb, fun x hx => ?_, fun k hk => ?_⟩
  · have h1 := (hmem _).1 (List.mem_map.2 ⟨x, hx, rfl⟩)
    simp only [List.mem_cons, List.not_mem_nil, or_false] at h1
    rcases h1 with h1 | h1 | h1 | h1
    · exact .inl (key x hx _ _ _ 76 (.inl ⟨rfl, rfl⟩) h1)
    · exact .inr (.inl (key x hx _ _ _ 76 (.inl ⟨rfl, rfl⟩) h1))
    · exact .inr (.inr (.inl (key x hx _ _ _ 181 (.inr ⟨rfl, rfl⟩) h1)))
    · exact .inr (.inr (.inr (key x hx _ _ _ 76 (.inl ⟨rfl, rfl⟩) h1)))
  · have : ∃ c : Int, ((.int .i64 k : Lit), (.agg [.lit (.int .i64 c), .held tokT] : DataW (List UInt8))) ∈ [((.int .i64 1 : Lit), (.agg [.lit (.int .i64 0), .held tokT] : DataW (List UInt8))), (.int .i64 9, .agg [.lit (.int .i64 1), .held tokT]), (.int .i64 11, .agg [.lit (.int .i64 0), .held tokS]), (.int .i64 12, .agg [.lit (.int .i64 2), .held tokT])] := by
      rcases hk with rfl | rfl | rfl
      · exact ⟨0, by simp⟩
      · exact ⟨1, by simp⟩
      · exact ⟨2, by simp⟩
    obtain ⟨c, hm⟩ := this
    obtain ⟨x, hx, hr⟩ := List.mem_map.1 ((hmem _).2 hm)
    exact ⟨x, hx, (key x hx _ _ _ 76 (.inl ⟨rfl, rfl⟩) hr).1⟩
theorem cla_data : (Rows.laid_spoondrift_rev_classical : DataW Unit) = .iface "func table" claD := by rfl
/-- An array of numbers that is read. -/
theorem open_nums {H : Type} {enc : TypeId × Value → H} {P : Program} {w : World} {sp : Nat → Bool} {held : Bool} {t e n fuel : Nat} {k : IntKind} {cs : List Value} {ds : List (DataW H)} {p : List MemPlace}
    (ht : P.underlying t = some (.array n e)) (he : P.underlying e = some (.int k)) (hc : P.cellsOf e = 1) (h : DataW.trod enc P w 0 sp held fuel t cs = some (.agg ds, p)) {i : Nat} {v : Int} (hi : ds[i]? = some (.lit (.int k v))) :
    cs[i]? = some (.int k v) := by
  obtain ⟨xs, m, rfl, hx, hl, hn, hel⟩ := DataW.trod_array ht h
  simp only [Prod.mk.injEq, DataW.agg.injEq] at hx
  obtain ⟨rfl, _⟩ := hx
  rw [List.getElem?_map, Option.map_eq_some_iff] at hi
  obtain ⟨y, hy, hy1⟩ := hi
  have hin : i < n := by rw [← hn]; exact (List.getElem?_eq_some_iff.1 hy).1
  have h0 := hel i hin
  rw [hy, hc, Nat.mul_one] at h0
  obtain ⟨q, e1, e2, _⟩ := DataW.trod_int he h0
  have e3 : q = v := by
    rw [e2] at hy1
    simpa using hy1
  subst e3
  have := congrArg (·[0]?) e1
  simpa [List.getElem?_take, List.getElem?_drop] using this
theorem gWan : Tryd.prog.globalNamed "spoondrift/rev.wants" = some 2 := by kernel_rfl
theorem tWan : (Tryd.prog.globals[2]?).map (·.type) = some 108 := by kernel_rfl
theorem u108 : Tryd.prog.underlying 108 = some (.array 8 3) := by kernel_rfl
def wanL : List Nat := [0, 0, 1, 2, 2, 2, 0, 0]
def laid1 : List (String × DataW Unit) := [("spoondrift/rev.classical", Rows.laid_spoondrift_rev_classical), ("spoondrift/rev.wants", Rows.laid_spoondrift_rev_wants)]
theorem wan_data : (Rows.laid_spoondrift_rev_wants : DataW Unit) = .agg (wanL.map fun x => .lit (.int .i64 (Int.ofNat x))) := by rfl
theorem of_laid0 {w : World} (h : laidMetH Tryd.prog laid1 w) : ∃ c t fz b es clk, w.heap[1]? = some (.cells c t fz) ∧ c[0]? = some (.map (some b)) ∧ w.heap[b]? = some (.map es clk) ∧ (∀ x ∈ es.toList, IsKind x.key x.val) ∧ ∀ k, (k = 1 ∨ k = 9 ∨ k = 12) → ∃ x ∈ es.toList, x.key = .int .i64 k :=
  open_kinds (h.funcs (n := "spoondrift/rev.classical") (by rw [← cla_data]; simp [laid1]))
theorem of_laid {w : World} (h : laidMetH Tryd.prog laid1 w) : ∃ c t fz, w.heap[2]? = some (.cells c t fz) ∧ ∀ (i x : Nat), wanL[i]? = some x → c[i]? = some (Value.int .i64 (Int.ofNat x)) := by
  have h1 : laidMet Tryd.prog [("spoondrift/rev.wants", Rows.laid_spoondrift_rev_wants)] w := by
    have e1 : laid1.filter (fun x => x.2.handleName?.isSome) = [("spoondrift/rev.classical", Rows.laid_spoondrift_rev_classical)] := by rfl
    have e2 : laid1.filter (fun x => x.2.handleName?.isNone) = [("spoondrift/rev.wants", Rows.laid_spoondrift_rev_wants)] := by rfl
    unfold laidMetH at h
    rw [e1, e2] at h
    exact h.1
  obtain ⟨ps, ⟨g1, t1, cs1, f1, p1, q1, hg1, ht1, hv1, hd1, _, _⟩, _, _⟩ := h1
  obtain rfl := Option.some.inj (gWan.symm.trans hg1)
  obtain rfl := Option.some.inj (tWan.symm.trans ht1)
  obtain ⟨ty, fz, hb⟩ := var_block hg1 hv1
  refine ⟨cs1, ty, fz, hb, fun i x hx => ?_⟩
  rw [wan_data] at hd1
  have := open_nums (i := i) (v := Int.ofNat x) u108 u3 hc3 hd1 (by rw [List.getElem?_map, hx]; rfl)
  simpa using this
end Go.AM

/-! ### F51 -/
namespace Go.AM
open Go.Proofs Go.Proofs.YtdokoekgdeebpaaDoor Go.RowKit
set_option maxRecDepth 100000
set_option linter.unusedVariables false
/-- An argument's block: where it lies, and its abstract cells (each stands for the machine's cell at the same place), or the entries of a map. -/
structure Arg0 where
  blk : Nat
  off : Nat
  cap : Nat
  cs : Array Value
  es : Option (List (Value × Value))
def arg0 : Arg0 := ⟨0, 0, 0, #[], none⟩
def Arg0.obj (a : Arg0) : AObj := match a.es with
  | none => .cells false a.cs
  | some es => .map false es
theorem Arg0.obj_rw (a : Arg0) : a.obj.rw = false := by
  unfold Arg0.obj; split <;> rfl
def wanCs : Array Value := #[nv 0, nv 0, nv 1, nv 2, nv 2, nv 2, nv 0, nv 0]
def mem0 (A : List Arg0) : Mem := (AObj.dead :: AObj.cells false #[.map (some 3)] :: AObj.cells false wanCs :: A.map Arg0.obj).toArray
def beta0 (A : List Arg0) : Beta where
  blk i := if i < 3 then i else (A.getD (i - 3) arg0).blk
  sh i := if i < 3 then 0 else (A.getD (i - 3) arg0).off
  cap i := if i < 3 then 1000000 else (A.getD (i - 3) arg0).off + max (A.getD (i - 3) arg0).cs.size (A.getD (i - 3) arg0).cap
/-- What is known of an argument's cells, all arguments' places being known. -/
def Arg0.ok (W : World) (A : List Arg0) (a : Arg0) : Prop :=
  (a.es = none → ∃ c t fz, W.heap[a.blk]? = some (.cells c t fz) ∧ ∀ (i : Nat) v, a.cs[i]? = some v → ∃ v', c[a.off + i]? = some v' ∧ VRel (beta0 A) (3 + A.length) v v') ∧
  ∀ es, a.es = some es → ∃ es' clk, W.heap[a.blk]? = some (.map es' clk) ∧ es'.size = es.length ∧ ∀ (i : Nat) x e', es[i]? = some x → es'[i]? = some e' → VRel (beta0 A) (3 + A.length) x.1 e'.key ∧ VRel (beta0 A) (3 + A.length) x.2 e'.val
theorem mem0_size (A : List Arg0) : (mem0 A).size = 3 + A.length := by simp [mem0]; omega
theorem mem0_get (A : List Arg0) (i : Nat) : Mem.get (mem0 A) i = if i = 0 then .dead else if i = 1 then .cells false #[.map (some 3)] else if i = 2 then .cells false wanCs else if h : i - 3 < A.length then (A[i - 3]).obj else .dead := by
  unfold Mem.get mem0
  rw [Array.getD_eq_getD_getElem?, List.getElem?_toArray]
  match i with
  | 0 => rfl
  | 1 => rfl
  | 2 => rfl
  | i + 3 =>
    rw [if_neg (by omega), if_neg (by omega), if_neg (by omega)]
    simp only [List.getElem?_cons_succ, Nat.add_sub_cancel, List.getElem?_map]
    by_cases h : i < A.length
    · rw [dif_pos h, List.getElem?_eq_getElem h]; rfl
    · rw [dif_neg h, List.getElem?_eq_none (by omega)]; rfl
theorem globW0 (A : List Arg0) : GlobW (mem0 A) := ⟨false, by rw [mem0_get]; rfl⟩
/-- The table of kinds: its block, its entries. -/
structure Kinds (W : World) (a : Arg0) : Prop where
  glob : ∃ c t fz, W.heap[1]? = some (.cells c t fz) ∧ c[0]? = some (.map (some a.blk))
  es : ∃ es, a.es = some es ∧ (∀ x ∈ es, IsKind x.1 x.2) ∧ ∀ k, (k = 1 ∨ k = 9 ∨ k = 12) → ∃ x ∈ es, x.1 = .int .i64 k
  ok : ∀ A, a.ok W A
theorem flat_kind {β : Beta} {N : Nat} {c : Int} {q : FuncId} : VRel β N (.agg #[.int .i64 c, .func (.func q) #[] #[]]) (.agg #[.int .i64 c, .func (.func q) #[] #[]]) := by
  refine .agg _ _ rfl fun i v v' h h' => ?_
  match i with
  | 0 => simp at h h'; subst h h'; exact .int _ _
  | 1 => simp at h h'; subst h h'; exact .func _ _ _ _ _ rfl (fun i v v' h => by simp at h) rfl (fun i v v' h => by simp at h)
  | i + 2 => simp at h
theorem kinds_ex {W : World} (hL : laidMetH Tryd.prog laid1 W) : ∃ a, Kinds W a := by
  obtain ⟨c, t, fz, b, es, clk, h0, h1, h2, h3, h4⟩ := of_laid0 hL
  refine ⟨⟨b, 0, 0, #[], some (es.toList.map fun x => (x.key, x.val))⟩, ⟨c, t, fz, h0, h1⟩, ⟨_, rfl, fun x hx => ?_, fun k hk => ?_⟩, fun A => ⟨fun h => (by cases h), fun es2 he => ?_⟩⟩
  · obtain ⟨y, hy, rfl⟩ := List.mem_map.1 hx
    exact h3 y hy
  · obtain ⟨y, hy, e⟩ := h4 k hk
    exact ⟨_, List.mem_map.2 ⟨y, hy, rfl⟩, e⟩
  · cases he
    refine ⟨es, clk, h2, by simp, fun i x e' hx he' => ?_⟩
    rw [List.getElem?_map, Array.getElem?_toList, he'] at hx
    cases hx
    have := h3 e' (by rw [← Array.mem_def]; exact Array.mem_of_getElem? he')
    rcases this with ⟨e1, e2⟩ | ⟨e1, e2⟩ | ⟨e1, e2⟩ | ⟨e1, e2⟩ <;> (simp only [e1, e2]; exact ⟨.int _ _, flat_kind⟩)
theorem sameI (a b : Int) : Instr.sameNow (.int .i64) (.int .i64 a) (.int .i64 b) = some (decide (a = b)) := by
  by_cases h : a = b
  · subst h; simp [Instr.sameNow]
  · simp [Instr.sameNow, h]
theorem find_kind {k : Nat} (hk : k = 1 ∨ k = 9 ∨ k = 12) : ∀ {es : List (Value × Value)} (i : Nat), (∀ x ∈ es, IsKind x.1 x.2) → (∃ x ∈ es, x.1 = .int .i64 (Int.ofNat k)) → ∃ j c, aFindNow (.int .i64) (nv k) es i = some (some (j, .agg #[nv c, .func (.func 76) #[] #[]]))
  | [], i, _, ⟨x, hx, _⟩ => by cases hx
  | e :: es, i, h1, h2 => by
    have hk1 := h1 e (by simp)
    obtain ⟨z, hz⟩ : ∃ z, e.1 = .int .i64 z := by rcases hk1 with h | h | h | h <;> exact ⟨_, h.1⟩
    rw [aFindNow, hz, nv, sameI]
    by_cases e1 : Int.ofNat k = z
    · subst e1
      rw [decide_eq_true rfl]
      rcases hk1 with ⟨a, b⟩ | ⟨a, b⟩ | ⟨a, b⟩ | ⟨a, b⟩
      · exact ⟨i, 0, by rw [b]; rfl⟩
      · exact ⟨i, 1, by rw [b]; rfl⟩
      · rw [hz] at a
        have := (Value.int.inj a).2
        simp at this; omega
      · exact ⟨i, 2, by rw [b]; rfl⟩
    · rw [decide_eq_false e1]
      refine find_kind hk (i + 1) (fun x hx => h1 x (by simp [hx])) ?_
      obtain ⟨x, hx, e2⟩ := h2
      rcases List.mem_cons.1 hx with rfl | hx
      · rw [hz] at e2; exact absurd (Value.int.inj e2).2.symm e1
      · exact ⟨x, hx, e2⟩
theorem globC0 {W : World} {a : Arg0} (h : Kinds W a) {A : List Arg0} (hA : A[0]? = some a) : GlobC (mem0 A) := by
  obtain ⟨es, he, h1, h2⟩ := h.es
  obtain ⟨hl, e0⟩ := List.getElem?_eq_some_iff.1 hA
  refine ⟨false, 3, false, es, by rw [mem0_get]; rfl, ?_, fun k hk => find_kind hk 0 h1 ?_⟩
  · rw [mem0_get, if_neg (by omega), if_neg (by omega), if_neg (by omega), dif_pos (by omega)]
    rw [show A[3 - 3] = a from e0, Arg0.obj, he]
  · exact h2 (Int.ofNat k) (by rcases hk with rfl | rfl | rfl <;> simp)
theorem rel0 {W : World} (hL : laidMetH Tryd.prog laid1 W) {A : List Arg0} {a0 : Arg0} (hK : Kinds W a0) (hA0 : A[0]? = some a0) (hA : ∀ a ∈ A, a.ok W A) : Rel Tryd.prog (beta0 A) (mem0 A) W := by
  obtain ⟨c, t, fz, h0, hc0⟩ := of_laid hL
  obtain ⟨ck, tk, fk, k0, k1⟩ := hK.glob
  obtain ⟨hl0, e0⟩ := List.getElem?_eq_some_iff.1 hA0
  refine ⟨by rw [mem0_size, gSize]; omega, fun g hg => ?_, fun i hi => ?_, fun i j _ hr _ => ?_⟩
  · rw [gSize] at hg
    exact ⟨if_pos hg, if_pos hg⟩
  · rw [mem0_get] at hi ⊢
    by_cases ez : i = 0
    · rw [if_pos ez] at hi; cases hi
    rw [if_neg ez] at hi ⊢
    by_cases ei : i = 1
    · subst ei
      rw [if_pos rfl] at hi ⊢
      refine ⟨_, k0, ck, tk, fk, rfl, by simp [beta0], fun j v hj => ?_, fun h => by cases h⟩
      match j with
      | 0 =>
        simp at hj; subst hj
        refine ⟨_, by simpa [beta0] using k1, ?_⟩
        have hb : (beta0 A).blk 3 = a0.blk := by
          simp only [beta0]; rw [if_neg (by omega), List.getD_eq_getElem?_getD, hA0]; rfl
        rw [← hb]
        exact .map _ (by rw [mem0_size]; omega)
      | j + 1 => simp at hj
    rw [if_neg ei] at hi ⊢
    by_cases e1 : i = 2
    · subst e1
      rw [if_pos rfl] at hi ⊢
      refine ⟨_, h0, c, t, fz, rfl, by simp [beta0, wanCs], fun j v hj => ?_, fun h => by cases h⟩
      have hj8 := (Array.getElem?_eq_some_iff.1 hj).1
      have hj8' : j < 8 := hj8
      obtain ⟨x, hx⟩ : ∃ x, wanL[j]? = some x := ⟨_, List.getElem?_eq_getElem hj8'⟩
      have hv : v = nv x := by
        have hall : ∀ j < 8, wanCs[j]? = (wanL[j]?).map fun x => nv x := by
          intro j hj
          match j, hj with
          | 0, _ => rfl
          | 1, _ => rfl
          | 2, _ => rfl
          | 3, _ => rfl
          | 4, _ => rfl
          | 5, _ => rfl
          | 6, _ => rfl
          | 7, _ => rfl
        rw [hall j hj8', hx] at hj
        exact (Option.some.inj hj).symm
      subst hv
      exact ⟨_, by simpa [beta0] using hc0 j x hx, .int _ _⟩
    rw [if_neg e1] at hi ⊢
    by_cases e4 : i - 3 < A.length
    · rw [dif_pos e4] at hi ⊢
      obtain ⟨o1, o2⟩ := hA _ (List.getElem_mem e4)
      have hb : (beta0 A).blk i = (A[i - 3]).blk := by
        simp only [beta0]; rw [if_neg (by omega), List.getD_eq_getElem?_getD, List.getElem?_eq_getElem e4]; rfl
      have hsh : (beta0 A).sh i = (A[i - 3]).off := by
        simp only [beta0]; rw [if_neg (by omega), List.getD_eq_getElem?_getD, List.getElem?_eq_getElem e4]; rfl
      have hcp : (beta0 A).cap i = (A[i - 3]).off + max (A[i - 3]).cs.size (A[i - 3]).cap := by
        simp only [beta0]; rw [if_neg (by omega), List.getD_eq_getElem?_getD, List.getElem?_eq_getElem e4]; rfl
      cases hes : (A[i - 3]).es with
      | none =>
        obtain ⟨c, t, fz, g1, g2⟩ := o1 hes
        rw [Arg0.obj, hes]
        refine ⟨_, by rw [hb]; exact g1, c, t, fz, rfl, by rw [hsh, hcp]; omega, fun j v hj => ?_, fun h => by cases h⟩
        obtain ⟨v', q1, q2⟩ := g2 j v hj
        exact ⟨v', by rw [hsh]; exact q1, by rw [mem0_size]; exact q2⟩
      | some es =>
        obtain ⟨es', clk, g1, g2, g3⟩ := o2 es hes
        rw [Arg0.obj, hes]
        exact ⟨_, by rw [hb]; exact g1, es', clk, rfl, g2, fun i x e' hx he => by rw [mem0_size]; exact g3 i x e' hx he, fun h => by cases h⟩
    · rw [dif_neg e4] at hi; cases hi
  · rw [mem0_get] at hr
    split at hr
    · cases hr
    split at hr
    · cases hr
    split at hr
    · cases hr
    split at hr
    · rw [Arg0.obj_rw] at hr; cases hr
    · cases hr
theorem arel_nil {β : Beta} {N : Nat} : ARel β N #[] #[] := ⟨rfl, fun i v v' h => by simp at h⟩
/-- From the abstract call to the machine's. -/
theorem entry {f : FuncId} {args args' : Array Value} {W : World} {A : List Arg0} (hL : laidMetH Tryd.prog laid1 W) {a0 : Arg0} (hK : Kinds W a0) (hA0 : A[0]? = some a0) (hA : ∀ a ∈ A, a.ok W A)
    (hargs : ARel (beta0 A) (3 + A.length) args args') (hc : ∃ v m', ACalls Tryd.prog f args (mem0 A) v m' ∧ v = .bool true) :
    Calls Tryd.prog f args' W fun e W' => e = .returned (.bool true) ∧ Below W.heap.size W W' := by
  have hR := rel0 hL hK hA0 hA
  obtain ⟨v, m', hcall, rfl⟩ := hc
  refine (hcall.2 _ W args' hR (by rw [mem0_size]; exact hargs)).mono ?_
  rintro e W' ⟨v', rfl, β', hv, _, hS⟩
  cases hv
  refine ⟨rfl, hS.os, hS.tape, hS.output, hS.wsz, fun k hk => hS.keep k hk fun i hi => ?_⟩
  rw [mem0_get] at hi
  split at hi
  · cases hi
  split at hi
  · cases hi
  split at hi
  · cases hi
  split at hi
  · rw [Arg0.obj_rw] at hi; cases hi
  · cases hi
end Go.AM

/-! ### F52 -/
namespace Go.AM
open Go Go.Proofs Go.Proofs.YtdokoekgdeebpaaDoor Go.RowKit Go.ChangeShapes Go.WideShapes
set_option maxRecDepth 100000
set_option linter.unusedVariables false
/-- A slice of whole numbers of a kind, readable. -/
def KAt (k : IntKind) (m : Mem) (v : Value) (l : List Int) : Prop :=
  (l = [] ∧ (v = .slice none 0 0 ∨ ∃ b o, v = .slice (some ⟨b, o, none⟩) 0 0)) ∨
  ∃ b o cap r c, v = .slice (some ⟨b, o, some 1⟩) l.length cap ∧ l.length ≤ cap ∧ Mem.get m b = .cells r c ∧ ∀ i x, l[i]? = some x → c[o + i]? = some (.int k x)
theorem KAt.ints {m : Mem} {v : Value} {l : List Int} (h : KAt .i64 m v l) : IntsAt m v l := by
  rcases h with h | ⟨b, o, cap, r, c, h1, _, h2, h3⟩
  · exact .inl h
  · exact .inr ⟨b, o, cap, r, c, h1, h2, h3⟩
theorem KAt.bytes {m : Mem} {v : Value} {l : List Int} (h : KAt .u8 m v l) : BytesAt m v l := h
/-- A slice of whole numbers that is read: its block, what it holds, its abstract value by the place of its block. -/
structure RowP (W : World) (k : IntKind) (s : Value) where
  a : Arg0
  l : List Int
  f : Nat → Value
  ok : ∀ A : List Arg0, a.ok W A
  wf : ∀ n ∈ l, (Lit.int k n).wf = true
  rel : ∀ (A : List Arg0) (i : Nat), A[i]? = some a → KAt k (mem0 A) (f i) l ∧ VRel (beta0 A) (3 + A.length) (f i) s
theorem c3 : Tryd.prog.cellsOf 3 = 1 := by kernel_rfl
theorem c5 : Tryd.prog.cellsOf 5 = 1 := by kernel_rfl
end Go.AM
namespace Go.AM
end Go.AM
