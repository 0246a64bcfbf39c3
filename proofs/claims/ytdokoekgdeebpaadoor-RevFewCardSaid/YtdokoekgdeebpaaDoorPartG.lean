/- Part 7 of the proof: Plain laws, and contracts of the program's functions. -/
import Derived.Test.YtdokoekgdeebpaaDoorPartF
import Derived.WideKeyElems2
import Derived.ChangeMaps
import Derived.Test.YtdokoekgdeebpaaDoorRows
import Derived.ProofKit
import Derived.LaidMore
import Derived.LaidHandle
import Derived.OpenShut
import Derived.Stop.Joined
import Derived.Below
import Derived.Carry
import Derived.ChangeSlices
import Derived.WideShapes
set_option linter.unusedVariables false
set_option linter.unusedSimpArgs false
/-! ### R31 -/
namespace Go.AM
open Go.Proofs
set_option maxRecDepth 100000
set_option linter.unusedVariables false
set_option linter.unusedSimpArgs false
theorem awT : rtabM 2 [(9, [0, 1])] = [0, 3, 2, 1] := by decide +kernel
theorem awA : runM [(12, [0, 1, 2])] 3 = 7 := by decide +kernel
theorem awC : circP (ofs [0, 2, 1, 3]) = [(9, [1, 0]), (9, [0, 1]), (9, [1, 0])] := by decide +kernel
theorem awY : cyclesP (ofs [0, 2, 1, 3]) = [[1, 2]] := by decide +kernel
theorem awEv : evenP (ofs [0, 2, 1, 3]) = false := by decide +kernel
theorem awWE : wideE (ofs [0, 2, 1, 3]) = 0 := by decide +kernel
theorem awWN : wideN (ofs [0, 2, 1, 3]) = 2 := by decide +kernel
theorem awCn : countV 3 2 = 102 ∧ countE 3 2 = 0 := by decide +kernel
theorem awS2 : shortE (ofs [0, 2, 1, 3]) 2 = 6 := by decide +kernel
theorem awS2n : shortN (ofs [0, 2, 1, 3]) 2 = 0 := by decide +kernel
theorem awS3 : shortE (ofs [0, 2, 1, 3]) 3 = 0 := by decide +kernel
theorem awS3n : shortN (ofs [0, 2, 1, 3]) 3 = 2 := by decide +kernel
theorem awS3l : (shortP (ofs [0, 2, 1, 3]) 3).length = 3 := by decide +kernel
theorem awF1n : foundN 2 (cleanS [(9, [0, 1])] (posM [1])) = 1 := by decide +kernel
theorem awF1e : foundE 2 (cleanS [(9, [0, 1])] (posM [1])) = 0 := by decide +kernel
theorem awF2n : foundN 2 (borrS [(9, [0, 1])] (posM [0])) = 1 := by decide +kernel
theorem awF2e : foundE 2 (borrS [(9, [0, 1])] (posM [0])) = 0 := by decide +kernel
theorem awF3n : foundN 2 (borrS [(9, [0, 1]), (9, [0, 1])] (posM [0])) = 0 := by decide +kernel
theorem awF3e : foundE 2 (borrS [(9, [0, 1]), (9, [0, 1])] (posM [0])) = 6 := by decide +kernel
def orX : BX := .mk 5 0 [.mk 1 0 [], .mk 1 1 []]
theorem awPE : cpE 2 2 orX = 0 := by decide +kernel
theorem awPN : cpN 2 2 orX = 5 := by decide +kernel
theorem awPG : cpG 2 2 orX = [(9, [0, 3]), (1, [3]), (9, [1, 4]), (1, [4]), (12, [3, 4, 2]), (1, [4]), (9, [1, 4]), (1, [3]), (9, [0, 3]), (1, [2])] := by decide +kernel
theorem c21 : CircOk 2 [(9, [0, 1])] := .of (by decide)
theorem c31 : CircOk 3 [(12, [0, 1, 2])] := .of (by decide)
theorem c174 : CircOk 2 [(9, [0, 1]), (9, [0, 1])] := .of (by decide)
theorem allS {α : Type} {p : α → Prop} {a : α} {l : List α} (hl : ∀ t ∈ l, p t) (h : p a) : ∀ t ∈ l ++ [a], p t := fun t ht => by
  rcases List.mem_append.1 ht with ht | ht
  · exact hl t ht
  · rw [List.mem_singleton.1 ht]; exact h
theorem obl3 {P : Program} {l : List Oper} {log : List Ent} {m' m0 : Mem} {hs : List (Nat × Nat)} {e17 e36 e42 : Ent} {o17 o36 o42 : Oper} (hE : ∀ e ∈ log, Ext m0 e.m) (hE' : Ext m0 m')
    (h17 : log[17]? = some e17) (l17 : l[17]? = some o17) (h36 : log[36]? = some e36) (l36 : l[36]? = some o36) (h42 : log[42]? = some e42) (l42 : l[42]? = some o42)
    (f17 : ∀ M, Ext m0 M → aRead P M (evR e17.ρ) o17.op = some e17.v) (f36 : aPure P (evR e36.ρ) o36.op = some e36.v) (f42 : ∀ M, Ext m0 M → aRead P M (evR e42.ρ) o42.op = some e42.v)
    (hh : ∀ p ∈ hs, p.1 = 17 ∨ p.1 = 36 ∨ p.1 = 42) : obl P ⟨l⟩ log m' hs := by
  refine obl_ext hE hE' fun p hp e o he ho M hM => ?_
  rcases hh p hp with h | h | h <;> rw [h] at he ho
  · rw [h17] at he; rw [l17] at ho; cases he; cases ho; exact .inl (f17 M hM)
  · rw [h36] at he; rw [l36] at ho; cases he; cases ho; exact .inr f36
  · rw [h42] at he; rw [l42] at ho; cases he; cases ho; exact .inl (f42 M hM)
theorem mem_nil {α : Type} {p : α → Prop} : ∀ t ∈ ([] : List α), p t := fun t h => by cases h
theorem mem_cons {α : Type} {p : α → Prop} {a : α} {l : List α} (h : p a) (hl : ∀ t ∈ l, p t) : ∀ t ∈ a :: l, p t := fun t ht => by
  rcases List.mem_cons.1 ht with rfl | ht
  · exact h
  · exact hl t ht
theorem orAt {m : Mem} {b : Nat} (hg : Mem.get m b = .cells true #[nv 1, nv 0, .slice none 0 0, nv 1, nv 1, .slice none 0 0]) : BAt (fun b => b < m.size) m 2 (.agg #[nv 5, nv 0, .slice (some ⟨b, 0, some 3⟩) 2 2]) orX := by
  refine ⟨_, rfl, .inr ⟨b, 0, 2, true, _, rfl, live hg, hg, fun i a hi => ?_⟩⟩
  have h1 := (List.getElem?_eq_some_iff.1 hi).1
  have hi' : i = 0 ∨ i = 1 := by have : orX.args.length = 2 := rfl; omega
  rcases hi' with rfl | rfl
  · obtain rfl : BX.mk 1 0 [] = a := by injection hi
    exact ⟨by simp, _, rfl, .inl ⟨rfl, _, _, rfl⟩⟩
  · obtain rfl : BX.mk 1 1 [] = a := by injection hi
    exact ⟨by simp, _, rfl, .inl ⟨rfl, _, _, rfl⟩⟩
def H14r : Nat → List (Nat × Nat) := fun id => if id = 8 then [(999999, 0), (17, 0), (17, 5), (17, 20), (17, 21), (17, 23), (17, 25), (17, 26), (17, 27), (17, 28), (17, 44), (17, 45), (36, 0), (36, 5), (36, 6), (36, 20), (36, 21), (36, 23), (36, 25), (36, 26), (36, 27), (36, 44), (36, 45), (42, 0), (42, 5), (42, 6), (42, 20), (42, 21), (42, 23), (42, 25), (42, 26), (42, 27), (42, 44), (42, 45)] else []
theorem okf14 : okF Tryd.prog H14r 14 218 = true := by kernel_rfl
set_option maxHeartbeats 8000000 in
theorem spec_awake {m : Mem} (hC : GlobC m) (hW : GlobW m) : ∃ v m', ACalls Tryd.prog 14 #[] m v m' ∧ (v = .bool true ∧ Ext m m') := by
  refine wpF (args := []) mixed okf14 (fn := Tryd.f14) rfl rfl rfl (by simp) ?_
  refine cSeq ?_
  refine cRegion ?_
  refine sAs (v := .bool _) rfl ?_
  refine sNil (kSeqN ?_)
  refine cSeq ?_
  refine cRegion ?_
  refine sRow [0, 1] rfl (by decide) (by kernel_rfl) fun q19 m19 o19 x19 => ?_
  obtain ⟨v20, m20, h20, rfl, x20⟩ := spec_lgate (m := m19) (k := 9) (q := q19) (n := [0, 1].length) (c := [0, 1].length)
  refine sCall2 rfl call69 rfl rfl h20 ?_
  refine sGates [(9, .slice q19 [0, 1].length [0, 1].length, [0, 1])] (mem_cons (o19.ext x20) (mem_nil)) rfl (by decide) (by kernel_rfl) fun q21 m21 cs21 o21 x21 => ?_
  replace o21 : OwnG 0 m21 (.slice q21 1 1) cs21 [(9, [0, 1])] := o21
  obtain ⟨v22, m22, h22, rfl, x22⟩ := spec_lof (m := m21) (k := 2) (q := q21) (n := 1) (c := 1)
  refine sCall2 rfl call68 rfl rfl h22 ?_
  refine sAllocB (bl := m22.size) rfl Z30 (by kernel_rfl) ?_
  refine sStNAB rfl S30 rfl rfl rfl rfl (by kernel_rfl) ?_
  have xs1 : Ext m22 (m22.push (.cells true #[nv 2, nv 0, .slice q21 1 1])) := .push _ _
  have gs1 : Mem.get (m22.push (.cells true #[nv 2, nv 0, .slice q21 1 1])) m22.size = .cells true #[nv 2, nv 0, .slice q21 1 1] := gP rfl
  generalize m22.push (.cells true #[nv 2, nv 0, .slice q21 1 1]) = ms1 at *
  refine sNil (kSeqN ?_)
  refine cSeq ?_
  refine cRegion ?_
  refine sLdAll A30 S30 rfl gs1 rfl ?_
  obtain ⟨v25, m25, h25, w25, rfl, o25, x25⟩ := spec_Table (hC.ext ((((x19.trans x20).trans x21).trans x22).trans xs1)) (o21.ext (x22.trans xs1)) c21
  rw [awT] at o25
  replace o25 := o25.mono (Nat.zero_le _)
  obtain ⟨q25, c25, rfl⟩ := o25.ints.lenN
  refine sCall1 rfl call41 rfl h25 ?_
  refine sMv (v := .tuple _) rfl ?_
  refine sP (v := .slice _ _ _) rfl ?_   -- extract ['t23', '0']
  refine sP (v := nv _) rfl ?_   -- extract ['t23', '1']
  refine sAs (v := .slice _ _ _) rfl ?_
  refine sAs (v := nv _) rfl ?_
  refine sNil (kSeqN ?_)
  refine cSeq ?_
  refine cRegion ?_
  refine sRow [0, 1, 2] rfl (by decide) (by kernel_rfl) fun q29 m29 o29 x29 => ?_
  obtain ⟨v30, m30, h30, rfl, x30⟩ := spec_lgate (m := m29) (k := 12) (q := q29) (n := [0, 1, 2].length) (c := [0, 1, 2].length)
  refine sCall2 rfl call69 rfl rfl h30 ?_
  refine sGates [(12, .slice q29 [0, 1, 2].length [0, 1, 2].length, [0, 1, 2])] (mem_cons (o29.ext x30) (mem_nil)) rfl (by decide) (by kernel_rfl) fun q31 m31 cs31 o31 x31 => ?_
  replace o31 : OwnG 0 m31 (.slice q31 1 1) cs31 [(12, [0, 1, 2])] := o31
  obtain ⟨v32, m32, h32, rfl, x32⟩ := spec_lof (m := m31) (k := 3) (q := q31) (n := 1) (c := 1)
  refine sCall2 rfl call68 rfl rfl h32 ?_
  obtain ⟨v33, m33, h33, rfl, x33⟩ := spec_Apply (hC.ext (((((((((x19.trans x20).trans x21).trans x22).trans xs1).trans x25).trans x29).trans x30).trans x31).trans x32)) (o31.ext x32) c31 (x := 3) (by decide)
  rw [awA] at h33
  refine sCall2 rfl call39 rfl rfl h33 ?_
  refine sMv (v := .tuple _) rfl ?_
  refine sP (v := nv _) rfl ?_   -- extract ['t28', '0']
  refine sP (v := nv _) rfl ?_   -- extract ['t28', '1']
  refine sAs (v := nv _) rfl ?_
  refine sAs (v := nv _) rfl ?_
  refine sNil (kSeqN ?_)
  refine cSeq ?_
  refine cRegion ?_
  refine sRow [0, 2, 1, 3] rfl (by decide) (by kernel_rfl) fun q37 m37 o37 x37 => ?_
  obtain ⟨v38, m38, h38, s38, cs38, rfl, o38, x38⟩ := spec_Circuit (p := (ofs [0, 2, 1, 3])) o37.ints (by decide)
  rw [awWE, awWN] at h38
  rw [awC] at o38
  replace o38 := o38.mono (Nat.zero_le _)
  obtain ⟨q38, c38, rfl⟩ := o38.1.len
  refine sCall1 rfl call18 rfl h38 ?_
  refine sMv (v := .tuple _) rfl ?_
  refine sP (v := .agg _) rfl ?_   -- extract ['t36', '0']
  refine sP (v := nv _) rfl ?_   -- extract ['t36', '1']
  refine sAllocB (bl := m38.size) rfl Z30 (by kernel_rfl) ?_
  refine sStNAB rfl S30 rfl rfl rfl rfl (by kernel_rfl) ?_
  have xs6 : Ext m38 (m38.push (.cells true #[nv 2, nv 0, .slice q38 3 c38])) := .push _ _
  have gs6 : Mem.get (m38.push (.cells true #[nv 2, nv 0, .slice q38 3 c38])) m38.size = .cells true #[nv 2, nv 0, .slice q38 3 c38] := gP rfl
  generalize m38.push (.cells true #[nv 2, nv 0, .slice q38 3 c38]) = ms6 at *
  refine sAs (v := nv _) rfl ?_
  refine sNil (kSeqN ?_)
  refine cSeq ?_
  refine cRegion ?_
  refine sRow [0, 2, 1, 3] rfl (by decide) (by kernel_rfl) fun q42 m42 o42 x42 => ?_
  obtain ⟨v43, m43, h43, w43, cs43, rfl, o43, x43⟩ := spec_Cycles (p := (ofs [0, 2, 1, 3])) o42.ints (by decide)
  rw [awWE] at h43
  rw [awY] at o43
  have r43 := o43.rows
  obtain ⟨b43, oo43, cp43, rr43, cd43, ee43, g43, xx43⟩ := r43.at (by decide)
  obtain ⟨s43, hs43, ha43⟩ := xx43 0 (ofs [1, 2]) rfl
  obtain ⟨q43, c43, rfl⟩ := ha43.lenN
  subst ee43
  refine sCall1 rfl call21 rfl h43 ?_
  refine sMv (v := .tuple _) rfl ?_
  refine sP (v := .slice _ _ _) rfl ?_   -- extract ['t41', '0']
  refine sP (v := nv _) rfl ?_   -- extract ['t41', '1']
  refine sAs (v := .slice _ _ _) rfl ?_
  refine sAs (v := nv _) rfl ?_
  refine sNil (kSeqN ?_)
  refine cSeq ?_
  refine cRegion ?_
  refine sRow [0, 2, 1, 3] rfl (by decide) (by kernel_rfl) fun q47 m47 o47 x47 => ?_
  obtain ⟨v48, m48, h48, rfl, x48⟩ := spec_Even (p := (ofs [0, 2, 1, 3])) o47.ints (by decide)
  rw [awEv, awWE] at h48
  refine sCall1 rfl call23 rfl h48 ?_
  refine sMv (v := .tuple _) rfl ?_
  refine sP (v := .bool _) rfl ?_   -- extract ['t46', '0']
  refine sP (v := nv _) rfl ?_   -- extract ['t46', '1']
  refine sAs (v := .bool _) rfl ?_
  refine sAs (v := nv _) rfl ?_
  refine sNil (kSeqN ?_)
  refine cSeq ?_
  refine cRegion ?_
  obtain ⟨v52, m52, h52, rfl, x52⟩ := spec_Count (m := m48) (w := 3) (g := 2)
  rw [awCn.1, awCn.2] at h52
  refine sCall2 rfl call35 rfl rfl h52 ?_
  refine sMv (v := .tuple _) rfl ?_
  refine sP (v := nv _) rfl ?_   -- extract ['t51', '0']
  refine sP (v := nv _) rfl ?_   -- extract ['t51', '1']
  refine sAs (v := nv _) rfl ?_
  refine sAs (v := nv _) rfl ?_
  refine sNil (kSeqN ?_)
  refine cSeq ?_   -- seq 8
  refine cSeq ?_
  refine cDrawH (hs := [(999999, 0), (17, 0), (17, 5), (17, 20), (17, 21), (17, 23), (17, 25), (17, 26), (17, 27), (17, 28), (17, 44), (17, 45), (36, 0), (36, 5), (36, 6), (36, 20), (36, 21), (36, 23), (36, 25), (36, 26), (36, 27), (36, 44), (36, 45), (42, 0), (42, 5), (42, 6), (42, 20), (42, 21), (42, 23), (42, 25), (42, 26), (42, 27), (42, 44), (42, 45)]) rfl (by decide) ?_
  refine lStepO (sMv (v := nv _) rfl (sNil fun e0 hm0 => ?_))
  refine lStepO (sBin (v := .bool false) (a := 0) (b := 0) rfl rfl (neqF rfl) (sNil fun e1 hm1 => ?_))
  refine lStepO (sMv (v := .bool false) rfl (sNil fun e2 hm2 => ?_))
  refine lG rfl rfl ?_
  refine lStepO (sMv (v := .slice _ _ _) rfl (sNil fun e3 hm3 => ?_))
  refine lG rfl rfl ?_
  refine lStepO (sRow [0, 3, 2, 1] rfl (by decide) (by kernel_rfl) fun q59 m59 o59 x59 => (sNil fun e4 hm4 => ?_))
  refine lG rfl rfl ?_
  have h60 := spec_Equal (o25.ints.ext (((((((((((((x29.trans x30).trans x31).trans x32).trans x33).trans x37).trans x38).trans xs6).trans x42).trans x43).trans x47).trans x48).trans x52).trans x59)) o59.ints (by decide)
  rw [decide_eq_true rfl] at h60
  refine lStepO (sCall2 rfl call28 rfl rfl h60 (sNil fun e5 hm5 => ?_))
  refine lG rfl rfl ?_
  refine lStepO (sP (v := .bool false) rfl (sNil fun e6 hm6 => ?_))
  refine lStepO (sP (v := .bool false) rfl (sNil fun e7 hm7 => ?_))
  refine lStepO (sMv (v := .bool false) rfl (sNil fun e8 hm8 => ?_))
  refine lG rfl rfl ?_
  refine lStepO (sMv (v := nv _) rfl (sNil fun e9 hm9 => ?_))
  refine lG rfl rfl ?_
  refine lStepO (sBin (v := .bool false) (a := 0) (b := 0) rfl rfl (neqF rfl) (sNil fun e10 hm10 => ?_))
  refine lStepO (sP (v := .bool false) rfl (sNil fun e11 hm11 => ?_))
  refine lStepO (sMv (v := .bool false) rfl (sNil fun e12 hm12 => ?_))
  refine lG rfl rfl ?_
  refine lStepO (sMv (v := nv _) rfl (sNil fun e13 hm13 => ?_))
  refine lG rfl rfl ?_
  refine lStepO (sBin (v := .bool false) (a := 7) (b := 7) rfl rfl (neqF rfl) (sNil fun e14 hm14 => ?_))
  refine lStepO (sP (v := .bool false) rfl (sNil fun e15 hm15 => ?_))
  refine lStepO (sMv (v := .bool false) rfl (sNil fun e16 hm16 => ?_))
  refine lG rfl rfl ?_
  refine lStepLdA A30 S30 rfl ((((((x42.trans x43).trans x47).trans x48).trans x52).trans x59).cells gs6) rfl fun e17 hm17 hv17 hr17 => ?_
  refine lG rfl rfl ?_
  refine lStepO (sMv (v := nv _) rfl (sNil fun e18 hm18 => ?_))
  refine lG rfl rfl ?_
  refine lStepO (sRow [1, 0] rfl (by decide) (by kernel_rfl) fun q74 m74 o74 x74 => (sNil fun e19 hm19 => ?_))
  refine lG rfl rfl ?_
  obtain ⟨v75, m75, h75, rfl, x75⟩ := spec_lgate (m := m74) (k := 9) (q := q74) (n := [1, 0].length) (c := [1, 0].length)
  refine lStepO (sCall2 rfl call69 rfl rfl h75 (sNil fun e20 hm20 => ?_))
  refine lG rfl rfl ?_
  refine lStepO (sRow [0, 1] rfl (by decide) (by kernel_rfl) fun q76 m76 o76 x76 => (sNil fun e21 hm21 => ?_))
  refine lG rfl rfl ?_
  obtain ⟨v77, m77, h77, rfl, x77⟩ := spec_lgate (m := m76) (k := 9) (q := q76) (n := [0, 1].length) (c := [0, 1].length)
  refine lStepO (sCall2 rfl call69 rfl rfl h77 (sNil fun e22 hm22 => ?_))
  refine lG rfl rfl ?_
  refine lStepO (sRow [1, 0] rfl (by decide) (by kernel_rfl) fun q78 m78 o78 x78 => (sNil fun e23 hm23 => ?_))
  refine lG rfl rfl ?_
  obtain ⟨v79, m79, h79, rfl, x79⟩ := spec_lgate (m := m78) (k := 9) (q := q78) (n := [1, 0].length) (c := [1, 0].length)
  refine lStepO (sCall2 rfl call69 rfl rfl h79 (sNil fun e24 hm24 => ?_))
  refine lG rfl rfl ?_
  refine lStepO (sGates [(9, .slice q74 [1, 0].length [1, 0].length, [1, 0]), (9, .slice q76 [0, 1].length [0, 1].length, [0, 1]), (9, .slice q78 [1, 0].length [1, 0].length, [1, 0])] (mem_cons (o74.ext ((((x75.trans x76).trans x77).trans x78).trans x79)) (mem_cons (o76.ext ((x77.trans x78).trans x79)) (mem_cons (o78.ext x79) (mem_nil)))) rfl (by decide) (by kernel_rfl) fun q80 m80 cs80 o80 x80 => (sNil fun e25 hm25 => ?_))
  replace o80 : OwnG 0 m80 (.slice q80 3 3) cs80 [(9, [1, 0]), (9, [0, 1]), (9, [1, 0])] := o80
  refine lG rfl rfl ?_
  obtain ⟨v81, m81, h81, rfl, x81⟩ := spec_lof (m := m80) (k := 2) (q := q80) (n := 3) (c := 3)
  refine lStepO (sCall2 rfl call68 rfl rfl h81 (sNil fun e26 hm26 => ?_))
  refine lG rfl rfl ?_
  obtain ⟨v82, m82, h82, rfl, x82⟩ := spec_known (W := 2) (B := 0) (W' := 2) (B' := 0) (er := 0) (o38.gates.ext ((((((((((((((xs6.trans x42).trans x43).trans x47).trans x48).trans x52).trans x59).trans x74).trans x75).trans x76).trans x77).trans x78).trans x79).trans x80).trans x81)) (o80.gates.ext x81) (by decide) (by decide)
  rw [show (decide ((0 : Nat) = 0) && decide (2 = 2 ∧ 0 = 0 ∧ [(9, [1, 0]), (9, [0, 1]), (9, [1, 0])].map gvM = [(9, [1, 0]), (9, [0, 1]), (9, [1, 0])].map gvM)) = true by simp] at h82
  refine lStepO (sCall3 rfl call70 rfl rfl rfl h82 (sNil fun e27 hm27 => ?_))
  refine lG rfl rfl ?_
  refine lStepO (sP (v := .bool false) rfl (sNil fun e28 hm28 => ?_))
  refine lStepO (sP (v := .bool false) rfl (sNil fun e29 hm29 => ?_))
  refine lStepO (sMv (v := .bool false) rfl (sNil fun e30 hm30 => ?_))
  refine lG rfl rfl ?_
  refine lStepO (sMv (v := nv _) rfl (sNil fun e31 hm31 => ?_))
  refine lG rfl rfl ?_
  refine lStepO (sBin (v := .bool false) (a := 0) (b := 0) rfl rfl (neqF rfl) (sNil fun e32 hm32 => ?_))
  refine lStepO (sP (v := .bool false) rfl (sNil fun e33 hm33 => ?_))
  refine lStepO (sMv (v := .bool false) rfl (sNil fun e34 hm34 => ?_))
  refine lG rfl rfl ?_
  refine lStepO (sMv (v := .slice _ _ _) rfl (sNil fun e35 hm35 => ?_))
  refine lG rfl rfl ?_
  refine lStepLen T34 rfl fun e36 hm36 hv36 hr36 => ?_
  refine lG rfl rfl ?_
  refine lStepO (sBin (v := .bool false) (a := 1) (b := 1) rfl rfl (neqF rfl) (sNil fun e37 hm37 => ?_))
  refine lStepO (sP (v := .bool false) rfl (sNil fun e38 hm38 => ?_))
  refine lStepO (sMv (v := .bool false) rfl (sNil fun e39 hm39 => ?_))
  refine lG rfl rfl ?_
  refine lStepO (sMv (v := .slice _ _ _) rfl (sNil fun e40 hm40 => ?_))
  refine lG rfl rfl ?_
  refine lStepO (sIx T34 S22 rfl rfl (show 0 < (ofs2 [[1, 2]]).length by decide) (sNil fun e41 hm41 => ?_))
  refine lG rfl rfl ?_
  refine lStepLd (v := .slice q43 [1, 2].length c43) A22 rfl (((((((((((((x47.trans x48).trans x52).trans x59).trans x74).trans x75).trans x76).trans x77).trans x78).trans x79).trans x80).trans x81).trans x82).cells g43) hs43 fun e42 hm42 hv42 hr42 => ?_
  refine lG rfl rfl ?_
  refine lStepO (sRow [1, 2] rfl (by decide) (by kernel_rfl) fun q98 m98 o98 x98 => (sNil fun e43 hm43 => ?_))
  refine lG rfl rfl ?_
  have h99 := spec_Equal (ha43.ext (((((((((((((x47.trans x48).trans x52).trans x59).trans x74).trans x75).trans x76).trans x77).trans x78).trans x79).trans x80).trans x81).trans x82).trans x98)) o98.ints (by decide)
  rw [decide_eq_true rfl] at h99
  refine lStepO (sCall2 rfl call28 rfl rfl h99 (sNil fun e44 hm44 => ?_))
  refine lG rfl rfl ?_
  refine lStepO (sP (v := .bool false) rfl (sNil fun e45 hm45 => ?_))
  refine lStepO (sP (v := .bool false) rfl (sNil fun e46 hm46 => ?_))
  refine lStepO (sMv (v := .bool false) rfl (sNil fun e47 hm47 => ?_))
  refine lG rfl rfl ?_
  refine lStepO (sMv (v := nv _) rfl (sNil fun e48 hm48 => ?_))
  refine lG rfl rfl ?_
  refine lStepO (sBin (v := .bool false) (a := 0) (b := 0) rfl rfl (neqF rfl) (sNil fun e49 hm49 => ?_))
  refine lStepO (sP (v := .bool false) rfl (sNil fun e50 hm50 => ?_))
  refine lStepO (sMv (v := .bool false) rfl (sNil fun e51 hm51 => ?_))
  refine lG rfl rfl ?_
  refine lStepO (sMv (v := .bool false) rfl (sNil fun e52 hm52 => ?_))
  refine lStepO (sP (v := .bool false) rfl (sNil fun e53 hm53 => ?_))
  refine lStepO (sMv (v := .bool false) rfl (sNil fun e54 hm54 => ?_))
  refine lG rfl rfl ?_
  refine lStepO (sMv (v := nv _) rfl (sNil fun e55 hm55 => ?_))
  refine lG rfl rfl ?_
  refine lStepO (sBin (v := .bool false) (a := 0) (b := 0) rfl rfl (neqF rfl) (sNil fun e56 hm56 => ?_))
  refine lStepO (sP (v := .bool false) rfl (sNil fun e57 hm57 => ?_))
  refine lStepO (sMv (v := .bool false) rfl (sNil fun e58 hm58 => ?_))
  refine lG rfl rfl ?_
  refine lStepO (sMv (v := nv _) rfl (sNil fun e59 hm59 => ?_))
  refine lG rfl rfl ?_
  refine lStepO (sBin (v := .bool false) (a := 102) (b := 102) rfl rfl (neqF rfl) (sNil fun e60 hm60 => ?_))
  refine lStepO (sP (v := .bool false) rfl (sNil fun e61 hm61 => ?_))
  refine ⟨?_, (kSeqN ?_)⟩
  ·
    refine obl_fl (by simp) ?_
    refine obl3 (m0 := m52) (e17 := e17) (e36 := e36) (e42 := e42) ?_ ((((((((((x59.trans x74).trans x75).trans x76).trans x77).trans x78).trans x79).trans x80).trans x81).trans x82).trans x98) (by kernel_rfl) rfl (by kernel_rfl) rfl (by kernel_rfl) rfl (fun M hM => (hr17 M _ (hM.cells (((((x42.trans x43).trans x47).trans x48).trans x52).cells gs6))).trans (congrArg some hv17.symm)) (by rw [hv36]; exact hr36) (fun M hM => (hr42 M _ _ (hM.cells (((x47.trans x48).trans x52).cells g43)) hs43).trans (congrArg some hv42.symm)) (by decide)
    refine allS ?_ (by rw [hm61]; exact ((((((((((x59.trans x74).trans x75).trans x76).trans x77).trans x78).trans x79).trans x80).trans x81).trans x82).trans x98))
    refine allS ?_ (by rw [hm60]; exact ((((((((((x59.trans x74).trans x75).trans x76).trans x77).trans x78).trans x79).trans x80).trans x81).trans x82).trans x98))
    refine allS ?_ (by rw [hm59]; exact ((((((((((x59.trans x74).trans x75).trans x76).trans x77).trans x78).trans x79).trans x80).trans x81).trans x82).trans x98))
    refine allS ?_ (by rw [hm58]; exact ((((((((((x59.trans x74).trans x75).trans x76).trans x77).trans x78).trans x79).trans x80).trans x81).trans x82).trans x98))
    refine allS ?_ (by rw [hm57]; exact ((((((((((x59.trans x74).trans x75).trans x76).trans x77).trans x78).trans x79).trans x80).trans x81).trans x82).trans x98))
    refine allS ?_ (by rw [hm56]; exact ((((((((((x59.trans x74).trans x75).trans x76).trans x77).trans x78).trans x79).trans x80).trans x81).trans x82).trans x98))
    refine allS ?_ (by rw [hm55]; exact ((((((((((x59.trans x74).trans x75).trans x76).trans x77).trans x78).trans x79).trans x80).trans x81).trans x82).trans x98))
    refine allS ?_ (by rw [hm54]; exact ((((((((((x59.trans x74).trans x75).trans x76).trans x77).trans x78).trans x79).trans x80).trans x81).trans x82).trans x98))
    refine allS ?_ (by rw [hm53]; exact ((((((((((x59.trans x74).trans x75).trans x76).trans x77).trans x78).trans x79).trans x80).trans x81).trans x82).trans x98))
    refine allS ?_ (by rw [hm52]; exact ((((((((((x59.trans x74).trans x75).trans x76).trans x77).trans x78).trans x79).trans x80).trans x81).trans x82).trans x98))
    refine allS ?_ (by rw [hm51]; exact ((((((((((x59.trans x74).trans x75).trans x76).trans x77).trans x78).trans x79).trans x80).trans x81).trans x82).trans x98))
    refine allS ?_ (by rw [hm50]; exact ((((((((((x59.trans x74).trans x75).trans x76).trans x77).trans x78).trans x79).trans x80).trans x81).trans x82).trans x98))
    refine allS ?_ (by rw [hm49]; exact ((((((((((x59.trans x74).trans x75).trans x76).trans x77).trans x78).trans x79).trans x80).trans x81).trans x82).trans x98))
    refine allS ?_ (by rw [hm48]; exact ((((((((((x59.trans x74).trans x75).trans x76).trans x77).trans x78).trans x79).trans x80).trans x81).trans x82).trans x98))
    refine allS ?_ (by rw [hm47]; exact ((((((((((x59.trans x74).trans x75).trans x76).trans x77).trans x78).trans x79).trans x80).trans x81).trans x82).trans x98))
    refine allS ?_ (by rw [hm46]; exact ((((((((((x59.trans x74).trans x75).trans x76).trans x77).trans x78).trans x79).trans x80).trans x81).trans x82).trans x98))
    refine allS ?_ (by rw [hm45]; exact ((((((((((x59.trans x74).trans x75).trans x76).trans x77).trans x78).trans x79).trans x80).trans x81).trans x82).trans x98))
    refine allS ?_ (by rw [hm44]; exact ((((((((((x59.trans x74).trans x75).trans x76).trans x77).trans x78).trans x79).trans x80).trans x81).trans x82).trans x98))
    refine allS ?_ (by rw [hm43]; exact (((((((((x59.trans x74).trans x75).trans x76).trans x77).trans x78).trans x79).trans x80).trans x81).trans x82))
    refine allS ?_ (by rw [hm42]; exact (((((((((x59.trans x74).trans x75).trans x76).trans x77).trans x78).trans x79).trans x80).trans x81).trans x82))
    refine allS ?_ (by rw [hm41]; exact (((((((((x59.trans x74).trans x75).trans x76).trans x77).trans x78).trans x79).trans x80).trans x81).trans x82))
    refine allS ?_ (by rw [hm40]; exact (((((((((x59.trans x74).trans x75).trans x76).trans x77).trans x78).trans x79).trans x80).trans x81).trans x82))
    refine allS ?_ (by rw [hm39]; exact (((((((((x59.trans x74).trans x75).trans x76).trans x77).trans x78).trans x79).trans x80).trans x81).trans x82))
    refine allS ?_ (by rw [hm38]; exact (((((((((x59.trans x74).trans x75).trans x76).trans x77).trans x78).trans x79).trans x80).trans x81).trans x82))
    refine allS ?_ (by rw [hm37]; exact (((((((((x59.trans x74).trans x75).trans x76).trans x77).trans x78).trans x79).trans x80).trans x81).trans x82))
    refine allS ?_ (by rw [hm36]; exact (((((((((x59.trans x74).trans x75).trans x76).trans x77).trans x78).trans x79).trans x80).trans x81).trans x82))
    refine allS ?_ (by rw [hm35]; exact (((((((((x59.trans x74).trans x75).trans x76).trans x77).trans x78).trans x79).trans x80).trans x81).trans x82))
    refine allS ?_ (by rw [hm34]; exact (((((((((x59.trans x74).trans x75).trans x76).trans x77).trans x78).trans x79).trans x80).trans x81).trans x82))
    refine allS ?_ (by rw [hm33]; exact (((((((((x59.trans x74).trans x75).trans x76).trans x77).trans x78).trans x79).trans x80).trans x81).trans x82))
    refine allS ?_ (by rw [hm32]; exact (((((((((x59.trans x74).trans x75).trans x76).trans x77).trans x78).trans x79).trans x80).trans x81).trans x82))
    refine allS ?_ (by rw [hm31]; exact (((((((((x59.trans x74).trans x75).trans x76).trans x77).trans x78).trans x79).trans x80).trans x81).trans x82))
    refine allS ?_ (by rw [hm30]; exact (((((((((x59.trans x74).trans x75).trans x76).trans x77).trans x78).trans x79).trans x80).trans x81).trans x82))
    refine allS ?_ (by rw [hm29]; exact (((((((((x59.trans x74).trans x75).trans x76).trans x77).trans x78).trans x79).trans x80).trans x81).trans x82))
    refine allS ?_ (by rw [hm28]; exact (((((((((x59.trans x74).trans x75).trans x76).trans x77).trans x78).trans x79).trans x80).trans x81).trans x82))
    refine allS ?_ (by rw [hm27]; exact ((((((((x59.trans x74).trans x75).trans x76).trans x77).trans x78).trans x79).trans x80).trans x81))
    refine allS ?_ (by rw [hm26]; exact (((((((x59.trans x74).trans x75).trans x76).trans x77).trans x78).trans x79).trans x80))
    refine allS ?_ (by rw [hm25]; exact ((((((x59.trans x74).trans x75).trans x76).trans x77).trans x78).trans x79))
    refine allS ?_ (by rw [hm24]; exact (((((x59.trans x74).trans x75).trans x76).trans x77).trans x78))
    refine allS ?_ (by rw [hm23]; exact ((((x59.trans x74).trans x75).trans x76).trans x77))
    refine allS ?_ (by rw [hm22]; exact (((x59.trans x74).trans x75).trans x76))
    refine allS ?_ (by rw [hm21]; exact ((x59.trans x74).trans x75))
    refine allS ?_ (by rw [hm20]; exact (x59.trans x74))
    refine allS ?_ (by rw [hm19]; exact x59)
    refine allS ?_ (by rw [hm18]; exact x59)
    refine allS ?_ (by rw [hm17]; exact x59)
    refine allS ?_ (by rw [hm16]; exact x59)
    refine allS ?_ (by rw [hm15]; exact x59)
    refine allS ?_ (by rw [hm14]; exact x59)
    refine allS ?_ (by rw [hm13]; exact x59)
    refine allS ?_ (by rw [hm12]; exact x59)
    refine allS ?_ (by rw [hm11]; exact x59)
    refine allS ?_ (by rw [hm10]; exact x59)
    refine allS ?_ (by rw [hm9]; exact x59)
    refine allS ?_ (by rw [hm8]; exact x59)
    refine allS ?_ (by rw [hm7]; exact x59)
    refine allS ?_ (by rw [hm6]; exact x59)
    refine allS ?_ (by rw [hm5]; exact x59)
    refine allS ?_ (by rw [hm4]; exact .refl _)
    refine allS ?_ (by rw [hm3]; exact .refl _)
    refine allS ?_ (by rw [hm2]; exact .refl _)
    refine allS ?_ (by rw [hm1]; exact .refl _)
    refine allS ?_ (by rw [hm0]; exact .refl _)
    exact fun e h => by cases h
  refine cCondF rfl ?_
  refine cSkip (kSeqN ?_)
  refine cSeq ?_
  refine cRegion ?_
  refine sRow [0, 2, 1, 3] rfl (by decide) (by kernel_rfl) fun q118 m118 o118 x118 => ?_
  obtain ⟨v119, m119, h119, s119, cs119, rfl, o119, x119⟩ := spec_Shortest (p := (ofs [0, 2, 1, 3])) (most := 2) o118.ints (by decide)
  rw [awS2, awS2n] at h119
  obtain ⟨q119, c119, rfl⟩ := o119.1.len
  refine sCall2 rfl call29 rfl rfl h119 ?_
  refine sMv (v := .tuple _) rfl ?_
  refine sP (v := .agg _) rfl ?_   -- extract ['t117', '0']
  refine sP (v := nv _) rfl ?_   -- extract ['t117', '1']
  refine sAs (v := nv _) rfl ?_
  refine sNil (kSeqN ?_)
  refine cSeq ?_
  refine cRegion ?_
  refine sRow [0, 2, 1, 3] rfl (by decide) (by kernel_rfl) fun q123 m123 o123 x123 => ?_
  obtain ⟨v124, m124, h124, s124, cs124, rfl, o124, x124⟩ := spec_Shortest (p := (ofs [0, 2, 1, 3])) (most := 3) o123.ints (by decide)
  rw [awS3, awS3n] at h124
  obtain ⟨q124, c124, rfl⟩ := o124.1.len
  rw [awS3l] at h124
  refine sCall2 rfl call29 rfl rfl h124 ?_
  refine sMv (v := .tuple _) rfl ?_
  refine sP (v := .agg _) rfl ?_   -- extract ['t122', '0']
  refine sP (v := nv _) rfl ?_   -- extract ['t122', '1']
  refine sAllocB (bl := m124.size) rfl Z30 (by kernel_rfl) ?_
  refine sStNAB rfl S30 rfl rfl rfl rfl (by kernel_rfl) ?_
  have xs14 : Ext m124 (m124.push (.cells true #[nv 2, nv 0, .slice q124 3 c124])) := .push _ _
  have gs14 : Mem.get (m124.push (.cells true #[nv 2, nv 0, .slice q124 3 c124])) m124.size = .cells true #[nv 2, nv 0, .slice q124 3 c124] := gP rfl
  generalize m124.push (.cells true #[nv 2, nv 0, .slice q124 3 c124]) = ms14 at *
  refine sAs (v := nv _) rfl ?_
  refine sNil (kSeqN ?_)
  refine cSeq ?_
  refine cRegion ?_
  obtain ⟨v128, m128, h128, rfl, x128⟩ := spec_lvar (m := ms14) (k := 0)
  refine sCall1 rfl call72 rfl h128 ?_
  obtain ⟨v129, m129, h129, rfl, x129⟩ := spec_lvar (m := m128) (k := 1)
  refine sCall1 rfl call72 rfl h129 ?_
  refine sBuildS (c := #[nv 1, nv 0, .slice none 0 0, nv 1, nv 1, .slice none 0 0]) T64 S66 Z66 (by decide) (by decide) (by decide) (by kernel_rfl) (by kernel_rfl) rfl ?_
  have x130 : Ext m129 (m129.push (.cells true #[nv 1, nv 0, .slice none 0 0, nv 1, nv 1, .slice none 0 0])) := .push _ _
  have g130 : Mem.get (m129.push (.cells true #[nv 1, nv 0, .slice none 0 0, nv 1, nv 1, .slice none 0 0])) m129.size = .cells true #[nv 1, nv 0, .slice none 0 0, nv 1, nv 1, .slice none 0 0] := gP rfl
  generalize m129.push (.cells true #[nv 1, nv 0, .slice none 0 0, nv 1, nv 1, .slice none 0 0]) = m130 at *
  obtain ⟨v131, m131, h131, rfl, x131⟩ := spec_lmade (m := m130) (k := 5) (q := some ⟨m129.size, 0, some 3⟩) (n := 2) (c := 2)
  refine sCall2 rfl call71 rfl rfl h131 ?_
  obtain ⟨v132, m132, h132, s132, cs132, rfl, o132, x132⟩ := spec_Compile 2 2 (hW.ext ((((((((((((((((((((((((((((((((((((((x19.trans x20).trans x21).trans x22).trans xs1).trans x25).trans x29).trans x30).trans x31).trans x32).trans x33).trans x37).trans x38).trans xs6).trans x42).trans x43).trans x47).trans x48).trans x52).trans x59).trans x74).trans x75).trans x76).trans x77).trans x78).trans x79).trans x80).trans x81).trans x82).trans x98).trans x118).trans x119).trans x123).trans x124).trans xs14).trans x128).trans x129).trans x130).trans x131)) (orAt (x131.cells g130)) (by decide)
  rw [awPE, awPN] at h132
  rw [awPG] at o132
  replace o132 := o132.mono (Nat.zero_le _)
  obtain ⟨q132, c132, rfl⟩ := o132.1.len
  refine sCall2 rfl call55 rfl rfl h132 ?_
  refine sMv (v := .tuple _) rfl ?_
  refine sP (v := .agg _) rfl ?_   -- extract ['t127', '0']
  refine sP (v := nv _) rfl ?_   -- extract ['t127', '1']
  refine sAllocB (bl := m132.size) rfl Z30 (by kernel_rfl) ?_
  refine sStNAB rfl S30 rfl rfl rfl rfl (by kernel_rfl) ?_
  have xs15 : Ext m132 (m132.push (.cells true #[nv 5, nv 0, .slice q132 10 c132])) := .push _ _
  have gs15 : Mem.get (m132.push (.cells true #[nv 5, nv 0, .slice q132 10 c132])) m132.size = .cells true #[nv 5, nv 0, .slice q132 10 c132] := gP rfl
  generalize m132.push (.cells true #[nv 5, nv 0, .slice q132 10 c132]) = ms15 at *
  refine sAs (v := nv _) rfl ?_
  refine sNil (kSeqN ?_)
  refine cSeq ?_
  refine cRegion ?_
  refine sRow [0, 3] rfl (by decide) (by kernel_rfl) fun q135 m135 o135 x135 => ?_
  obtain ⟨v136, m136, h136, rfl, x136⟩ := spec_lgate (m := m135) (k := 9) (q := q135) (n := [0, 3].length) (c := [0, 3].length)
  refine sCall2 rfl call69 rfl rfl h136 ?_
  refine sRow [3] rfl (by decide) (by kernel_rfl) fun q137 m137 o137 x137 => ?_
  obtain ⟨v138, m138, h138, rfl, x138⟩ := spec_lgate (m := m137) (k := 1) (q := q137) (n := [3].length) (c := [3].length)
  refine sCall2 rfl call69 rfl rfl h138 ?_
  refine sRow [1, 4] rfl (by decide) (by kernel_rfl) fun q139 m139 o139 x139 => ?_
  obtain ⟨v140, m140, h140, rfl, x140⟩ := spec_lgate (m := m139) (k := 9) (q := q139) (n := [1, 4].length) (c := [1, 4].length)
  refine sCall2 rfl call69 rfl rfl h140 ?_
  refine sRow [4] rfl (by decide) (by kernel_rfl) fun q141 m141 o141 x141 => ?_
  obtain ⟨v142, m142, h142, rfl, x142⟩ := spec_lgate (m := m141) (k := 1) (q := q141) (n := [4].length) (c := [4].length)
  refine sCall2 rfl call69 rfl rfl h142 ?_
  refine sRow [3, 4, 2] rfl (by decide) (by kernel_rfl) fun q143 m143 o143 x143 => ?_
  obtain ⟨v144, m144, h144, rfl, x144⟩ := spec_lgate (m := m143) (k := 12) (q := q143) (n := [3, 4, 2].length) (c := [3, 4, 2].length)
  refine sCall2 rfl call69 rfl rfl h144 ?_
  refine sRow [4] rfl (by decide) (by kernel_rfl) fun q145 m145 o145 x145 => ?_
  obtain ⟨v146, m146, h146, rfl, x146⟩ := spec_lgate (m := m145) (k := 1) (q := q145) (n := [4].length) (c := [4].length)
  refine sCall2 rfl call69 rfl rfl h146 ?_
  refine sRow [1, 4] rfl (by decide) (by kernel_rfl) fun q147 m147 o147 x147 => ?_
  obtain ⟨v148, m148, h148, rfl, x148⟩ := spec_lgate (m := m147) (k := 9) (q := q147) (n := [1, 4].length) (c := [1, 4].length)
  refine sCall2 rfl call69 rfl rfl h148 ?_
  refine sRow [3] rfl (by decide) (by kernel_rfl) fun q149 m149 o149 x149 => ?_
  obtain ⟨v150, m150, h150, rfl, x150⟩ := spec_lgate (m := m149) (k := 1) (q := q149) (n := [3].length) (c := [3].length)
  refine sCall2 rfl call69 rfl rfl h150 ?_
  refine sRow [0, 3] rfl (by decide) (by kernel_rfl) fun q151 m151 o151 x151 => ?_
  obtain ⟨v152, m152, h152, rfl, x152⟩ := spec_lgate (m := m151) (k := 9) (q := q151) (n := [0, 3].length) (c := [0, 3].length)
  refine sCall2 rfl call69 rfl rfl h152 ?_
  refine sRow [2] rfl (by decide) (by kernel_rfl) fun q153 m153 o153 x153 => ?_
  obtain ⟨v154, m154, h154, rfl, x154⟩ := spec_lgate (m := m153) (k := 1) (q := q153) (n := [2].length) (c := [2].length)
  refine sCall2 rfl call69 rfl rfl h154 ?_
  refine sGates [(9, .slice q135 [0, 3].length [0, 3].length, [0, 3]), (1, .slice q137 [3].length [3].length, [3]), (9, .slice q139 [1, 4].length [1, 4].length, [1, 4]), (1, .slice q141 [4].length [4].length, [4]), (12, .slice q143 [3, 4, 2].length [3, 4, 2].length, [3, 4, 2]), (1, .slice q145 [4].length [4].length, [4]), (9, .slice q147 [1, 4].length [1, 4].length, [1, 4]), (1, .slice q149 [3].length [3].length, [3]), (9, .slice q151 [0, 3].length [0, 3].length, [0, 3]), (1, .slice q153 [2].length [2].length, [2])] (mem_cons (o135.ext ((((((((((((((((((x136.trans x137).trans x138).trans x139).trans x140).trans x141).trans x142).trans x143).trans x144).trans x145).trans x146).trans x147).trans x148).trans x149).trans x150).trans x151).trans x152).trans x153).trans x154)) (mem_cons (o137.ext ((((((((((((((((x138.trans x139).trans x140).trans x141).trans x142).trans x143).trans x144).trans x145).trans x146).trans x147).trans x148).trans x149).trans x150).trans x151).trans x152).trans x153).trans x154)) (mem_cons (o139.ext ((((((((((((((x140.trans x141).trans x142).trans x143).trans x144).trans x145).trans x146).trans x147).trans x148).trans x149).trans x150).trans x151).trans x152).trans x153).trans x154)) (mem_cons (o141.ext ((((((((((((x142.trans x143).trans x144).trans x145).trans x146).trans x147).trans x148).trans x149).trans x150).trans x151).trans x152).trans x153).trans x154)) (mem_cons (o143.ext ((((((((((x144.trans x145).trans x146).trans x147).trans x148).trans x149).trans x150).trans x151).trans x152).trans x153).trans x154)) (mem_cons (o145.ext ((((((((x146.trans x147).trans x148).trans x149).trans x150).trans x151).trans x152).trans x153).trans x154)) (mem_cons (o147.ext ((((((x148.trans x149).trans x150).trans x151).trans x152).trans x153).trans x154)) (mem_cons (o149.ext ((((x150.trans x151).trans x152).trans x153).trans x154)) (mem_cons (o151.ext ((x152.trans x153).trans x154)) (mem_cons (o153.ext x154) (mem_nil))))))))))) rfl (by decide) (by kernel_rfl) fun q155 m155 cs155 o155 x155 => ?_
  replace o155 : OwnG 0 m155 (.slice q155 10 10) cs155 [(9, [0, 3]), (1, [3]), (9, [1, 4]), (1, [4]), (12, [3, 4, 2]), (1, [4]), (9, [1, 4]), (1, [3]), (9, [0, 3]), (1, [2])] := o155
  obtain ⟨v156, m156, h156, rfl, x156⟩ := spec_lof (m := m155) (k := 5) (q := q155) (n := 10) (c := 10)
  refine sCall2 rfl call68 rfl rfl h156 ?_
  refine sAllocB (bl := m156.size) rfl Z30 (by kernel_rfl) ?_
  refine sStNAB rfl S30 rfl rfl rfl rfl (by kernel_rfl) ?_
  have xs16 : Ext m156 (m156.push (.cells true #[nv 5, nv 0, .slice q155 10 10])) := .push _ _
  have gs16 : Mem.get (m156.push (.cells true #[nv 5, nv 0, .slice q155 10 10])) m156.size = .cells true #[nv 5, nv 0, .slice q155 10 10] := gP rfl
  generalize m156.push (.cells true #[nv 5, nv 0, .slice q155 10 10]) = ms16 at *
  refine sNil (kSeqN ?_)
  refine cSeq ?_
  refine cRegion ?_
  refine sLdAll A30 S30 rfl (((((((((((((((((((((((((((((((((((((((((((((((((((((((((((x25.trans x29).trans x30).trans x31).trans x32).trans x33).trans x37).trans x38).trans xs6).trans x42).trans x43).trans x47).trans x48).trans x52).trans x59).trans x74).trans x75).trans x76).trans x77).trans x78).trans x79).trans x80).trans x81).trans x82).trans x98).trans x118).trans x119).trans x123).trans x124).trans xs14).trans x128).trans x129).trans x130).trans x131).trans x132).trans xs15).trans x135).trans x136).trans x137).trans x138).trans x139).trans x140).trans x141).trans x142).trans x143).trans x144).trans x145).trans x146).trans x147).trans x148).trans x149).trans x150).trans x151).trans x152).trans x153).trans x154).trans x155).trans x156).trans xs16).cells gs1) rfl ?_
  refine sRow [1] rfl (by decide) (by kernel_rfl) fun q159 m159 o159 x159 => ?_
  obtain ⟨v160, m160, h160, rfl, x160⟩ := spec_CleanX (hC.ext ((((((((((((((((((((((((((((((((((((((((((((((((((((((((((((((((x19.trans x20).trans x21).trans x22).trans xs1).trans x25).trans x29).trans x30).trans x31).trans x32).trans x33).trans x37).trans x38).trans xs6).trans x42).trans x43).trans x47).trans x48).trans x52).trans x59).trans x74).trans x75).trans x76).trans x77).trans x78).trans x79).trans x80).trans x81).trans x82).trans x98).trans x118).trans x119).trans x123).trans x124).trans xs14).trans x128).trans x129).trans x130).trans x131).trans x132).trans xs15).trans x135).trans x136).trans x137).trans x138).trans x139).trans x140).trans x141).trans x142).trans x143).trans x144).trans x145).trans x146).trans x147).trans x148).trans x149).trans x150).trans x151).trans x152).trans x153).trans x154).trans x155).trans x156).trans xs16).trans x159)) (o21.ext (((((((((((((((((((((((((((((((((((((((((((((((((((((((((((((x22.trans xs1).trans x25).trans x29).trans x30).trans x31).trans x32).trans x33).trans x37).trans x38).trans xs6).trans x42).trans x43).trans x47).trans x48).trans x52).trans x59).trans x74).trans x75).trans x76).trans x77).trans x78).trans x79).trans x80).trans x81).trans x82).trans x98).trans x118).trans x119).trans x123).trans x124).trans xs14).trans x128).trans x129).trans x130).trans x131).trans x132).trans xs15).trans x135).trans x136).trans x137).trans x138).trans x139).trans x140).trans x141).trans x142).trans x143).trans x144).trans x145).trans x146).trans x147).trans x148).trans x149).trans x150).trans x151).trans x152).trans x153).trans x154).trans x155).trans x156).trans xs16).trans x159)) c21 o159.ints (by decide) (by decide)
  rw [awF1n, awF1e] at h160
  refine sCall2 rfl call46 rfl rfl h160 ?_
  refine sMv (v := .tuple _) rfl ?_
  refine sP (v := nv _) rfl ?_   -- extract ['t157', '0']
  refine sP (v := nv _) rfl ?_   -- extract ['t157', '1']
  refine sAs (v := nv _) rfl ?_
  refine sAs (v := nv _) rfl ?_
  refine sNil (kSeqN ?_)
  refine cSeq ?_
  refine cRegion ?_
  refine sLdAll A30 S30 rfl (((((((((((((((((((((((((((((((((((((((((((((((((((((((((((((x25.trans x29).trans x30).trans x31).trans x32).trans x33).trans x37).trans x38).trans xs6).trans x42).trans x43).trans x47).trans x48).trans x52).trans x59).trans x74).trans x75).trans x76).trans x77).trans x78).trans x79).trans x80).trans x81).trans x82).trans x98).trans x118).trans x119).trans x123).trans x124).trans xs14).trans x128).trans x129).trans x130).trans x131).trans x132).trans xs15).trans x135).trans x136).trans x137).trans x138).trans x139).trans x140).trans x141).trans x142).trans x143).trans x144).trans x145).trans x146).trans x147).trans x148).trans x149).trans x150).trans x151).trans x152).trans x153).trans x154).trans x155).trans x156).trans xs16).trans x159).trans x160).cells gs1) rfl ?_
  refine sRow [0] rfl (by decide) (by kernel_rfl) fun q165 m165 o165 x165 => ?_
  obtain ⟨v166, m166, h166, rfl, x166⟩ := spec_BorrX (hC.ext ((((((((((((((((((((((((((((((((((((((((((((((((((((((((((((((((((x19.trans x20).trans x21).trans x22).trans xs1).trans x25).trans x29).trans x30).trans x31).trans x32).trans x33).trans x37).trans x38).trans xs6).trans x42).trans x43).trans x47).trans x48).trans x52).trans x59).trans x74).trans x75).trans x76).trans x77).trans x78).trans x79).trans x80).trans x81).trans x82).trans x98).trans x118).trans x119).trans x123).trans x124).trans xs14).trans x128).trans x129).trans x130).trans x131).trans x132).trans xs15).trans x135).trans x136).trans x137).trans x138).trans x139).trans x140).trans x141).trans x142).trans x143).trans x144).trans x145).trans x146).trans x147).trans x148).trans x149).trans x150).trans x151).trans x152).trans x153).trans x154).trans x155).trans x156).trans xs16).trans x159).trans x160).trans x165)) (o21.ext (((((((((((((((((((((((((((((((((((((((((((((((((((((((((((((((x22.trans xs1).trans x25).trans x29).trans x30).trans x31).trans x32).trans x33).trans x37).trans x38).trans xs6).trans x42).trans x43).trans x47).trans x48).trans x52).trans x59).trans x74).trans x75).trans x76).trans x77).trans x78).trans x79).trans x80).trans x81).trans x82).trans x98).trans x118).trans x119).trans x123).trans x124).trans xs14).trans x128).trans x129).trans x130).trans x131).trans x132).trans xs15).trans x135).trans x136).trans x137).trans x138).trans x139).trans x140).trans x141).trans x142).trans x143).trans x144).trans x145).trans x146).trans x147).trans x148).trans x149).trans x150).trans x151).trans x152).trans x153).trans x154).trans x155).trans x156).trans xs16).trans x159).trans x160).trans x165)) c21 o165.ints (by decide) (by decide)
  rw [awF2n, awF2e] at h166
  refine sCall2 rfl call48 rfl rfl h166 ?_
  refine sMv (v := .tuple _) rfl ?_
  refine sP (v := nv _) rfl ?_   -- extract ['t163', '0']
  refine sP (v := nv _) rfl ?_   -- extract ['t163', '1']
  refine sAs (v := nv _) rfl ?_
  refine sAs (v := nv _) rfl ?_
  refine sNil (kSeqN ?_)
  refine cSeq ?_
  refine cRegion ?_
  refine sRow [0, 1] rfl (by decide) (by kernel_rfl) fun q170 m170 o170 x170 => ?_
  obtain ⟨v171, m171, h171, rfl, x171⟩ := spec_lgate (m := m170) (k := 9) (q := q170) (n := [0, 1].length) (c := [0, 1].length)
  refine sCall2 rfl call69 rfl rfl h171 ?_
  refine sRow [0, 1] rfl (by decide) (by kernel_rfl) fun q172 m172 o172 x172 => ?_
  obtain ⟨v173, m173, h173, rfl, x173⟩ := spec_lgate (m := m172) (k := 9) (q := q172) (n := [0, 1].length) (c := [0, 1].length)
  refine sCall2 rfl call69 rfl rfl h173 ?_
  refine sGates [(9, .slice q170 [0, 1].length [0, 1].length, [0, 1]), (9, .slice q172 [0, 1].length [0, 1].length, [0, 1])] (mem_cons (o170.ext ((x171.trans x172).trans x173)) (mem_cons (o172.ext x173) (mem_nil))) rfl (by decide) (by kernel_rfl) fun q174 m174 cs174 o174 x174 => ?_
  replace o174 : OwnG 0 m174 (.slice q174 2 2) cs174 [(9, [0, 1]), (9, [0, 1])] := o174
  obtain ⟨v175, m175, h175, rfl, x175⟩ := spec_lof (m := m174) (k := 2) (q := q174) (n := 2) (c := 2)
  refine sCall2 rfl call68 rfl rfl h175 ?_
  refine sRow [0] rfl (by decide) (by kernel_rfl) fun q176 m176 o176 x176 => ?_
  obtain ⟨v177, m177, h177, rfl, x177⟩ := spec_BorrX (hC.ext ((((((((((((((((((((((((((((((((((((((((((((((((((((((((((((((((((((((((((x19.trans x20).trans x21).trans x22).trans xs1).trans x25).trans x29).trans x30).trans x31).trans x32).trans x33).trans x37).trans x38).trans xs6).trans x42).trans x43).trans x47).trans x48).trans x52).trans x59).trans x74).trans x75).trans x76).trans x77).trans x78).trans x79).trans x80).trans x81).trans x82).trans x98).trans x118).trans x119).trans x123).trans x124).trans xs14).trans x128).trans x129).trans x130).trans x131).trans x132).trans xs15).trans x135).trans x136).trans x137).trans x138).trans x139).trans x140).trans x141).trans x142).trans x143).trans x144).trans x145).trans x146).trans x147).trans x148).trans x149).trans x150).trans x151).trans x152).trans x153).trans x154).trans x155).trans x156).trans xs16).trans x159).trans x160).trans x165).trans x166).trans x170).trans x171).trans x172).trans x173).trans x174).trans x175).trans x176)) (o174.ext (x175.trans x176)) c174 o176.ints (by decide) (by decide)
  rw [awF3n, awF3e] at h177
  refine sCall2 rfl call48 rfl rfl h177 ?_
  refine sMv (v := .tuple _) rfl ?_
  refine sP (v := nv _) rfl ?_   -- extract ['t169', '0']
  refine sP (v := nv _) rfl ?_   -- extract ['t169', '1']
  refine sAs (v := nv _) rfl ?_
  refine sNil (kSeqN ?_)
  refine cSeq ?_
  refine cRegion ?_
  refine sMv (v := nv _) rfl ?_
  refine sBin (v := .bool true) (a := 6) (b := 6) rfl rfl (eqlT rfl) ?_
  refine sMv (v := .bool true) rfl ?_
  refine sG rfl rfl ?_
  refine sMv (v := nv _) rfl ?_
  refine sG rfl rfl ?_
  refine sBin (v := .bool true) (a := 0) (b := 0) rfl rfl (eqlT rfl) ?_
  refine sP (v := .bool true) rfl ?_
  refine sMv (v := .bool true) rfl ?_
  refine sG rfl rfl ?_
  refine sFA F30_2 rfl ?_
  refine sG rfl rfl ?_
  refine sLd (v := .slice q124 3 c124) A28 rfl (((((((((((((((((((((((((((((((((((((((((x128.trans x129).trans x130).trans x131).trans x132).trans xs15).trans x135).trans x136).trans x137).trans x138).trans x139).trans x140).trans x141).trans x142).trans x143).trans x144).trans x145).trans x146).trans x147).trans x148).trans x149).trans x150).trans x151).trans x152).trans x153).trans x154).trans x155).trans x156).trans xs16).trans x159).trans x160).trans x165).trans x166).trans x170).trans x171).trans x172).trans x173).trans x174).trans x175).trans x176).trans x177).cells gs14) rfl ?_
  refine sG rfl rfl ?_
  refine sLen T28 rfl ?_
  refine sG rfl rfl ?_
  refine sBin (v := .bool true) (a := 3) (b := 3) rfl rfl (eqlT rfl) ?_
  refine sP (v := .bool true) rfl ?_
  refine sMv (v := .bool true) rfl ?_
  refine sG rfl rfl ?_
  refine sLdAll A30 S30 rfl (((((((((((((((((((((((((((((((((((x135.trans x136).trans x137).trans x138).trans x139).trans x140).trans x141).trans x142).trans x143).trans x144).trans x145).trans x146).trans x147).trans x148).trans x149).trans x150).trans x151).trans x152).trans x153).trans x154).trans x155).trans x156).trans xs16).trans x159).trans x160).trans x165).trans x166).trans x170).trans x171).trans x172).trans x173).trans x174).trans x175).trans x176).trans x177).cells gs15) rfl ?_
  refine sG rfl rfl ?_
  refine sMv (v := nv _) rfl ?_
  refine sG rfl rfl ?_
  refine sLdAll A30 S30 rfl ((((((((((((x159.trans x160).trans x165).trans x166).trans x170).trans x171).trans x172).trans x173).trans x174).trans x175).trans x176).trans x177).cells gs16) rfl ?_
  refine sG rfl rfl ?_
  obtain ⟨v196, m196, h196, rfl, x196⟩ := spec_known (W := 5) (B := 0) (W' := 5) (B' := 0) (er := 0) (o132.gates.ext (((((((((((((((((((((((((((((((((((xs15.trans x135).trans x136).trans x137).trans x138).trans x139).trans x140).trans x141).trans x142).trans x143).trans x144).trans x145).trans x146).trans x147).trans x148).trans x149).trans x150).trans x151).trans x152).trans x153).trans x154).trans x155).trans x156).trans xs16).trans x159).trans x160).trans x165).trans x166).trans x170).trans x171).trans x172).trans x173).trans x174).trans x175).trans x176).trans x177)) (o155.gates.ext (((((((((((((x156.trans xs16).trans x159).trans x160).trans x165).trans x166).trans x170).trans x171).trans x172).trans x173).trans x174).trans x175).trans x176).trans x177)) (by decide) (by decide)
  rw [show (decide ((0 : Nat) = 0) && decide (5 = 5 ∧ 0 = 0 ∧ [(9, [0, 3]), (1, [3]), (9, [1, 4]), (1, [4]), (12, [3, 4, 2]), (1, [4]), (9, [1, 4]), (1, [3]), (9, [0, 3]), (1, [2])].map gvM = [(9, [0, 3]), (1, [3]), (9, [1, 4]), (1, [4]), (12, [3, 4, 2]), (1, [4]), (9, [1, 4]), (1, [3]), (9, [0, 3]), (1, [2])].map gvM)) = true by simp] at h196
  refine sCall3 rfl call70 rfl rfl rfl h196 ?_
  refine sP (v := .bool true) rfl ?_
  refine sMv (v := .bool true) rfl ?_
  refine sG rfl rfl ?_
  refine sMv (v := nv _) rfl ?_
  refine sG rfl rfl ?_
  refine sBin (v := .bool true) (a := 0) (b := 0) rfl rfl (eqlT rfl) ?_
  refine sP (v := .bool true) rfl ?_
  refine sMv (v := .bool true) rfl ?_
  refine sG rfl rfl ?_
  refine sMv (v := nv _) rfl ?_
  refine sG rfl rfl ?_
  refine sBin (v := .bool true) (a := 1) (b := 1) rfl rfl (eqlT rfl) ?_
  refine sP (v := .bool true) rfl ?_
  refine sMv (v := .bool true) rfl ?_
  refine sG rfl rfl ?_
  refine sMv (v := nv _) rfl ?_
  refine sG rfl rfl ?_
  refine sBin (v := .bool true) (a := 0) (b := 0) rfl rfl (eqlT rfl) ?_
  refine sP (v := .bool true) rfl ?_
  refine sMv (v := .bool true) rfl ?_
  refine sG rfl rfl ?_
  refine sMv (v := nv _) rfl ?_
  refine sG rfl rfl ?_
  refine sBin (v := .bool true) (a := 1) (b := 1) rfl rfl (eqlT rfl) ?_
  refine sP (v := .bool true) rfl ?_
  refine sMv (v := .bool true) rfl ?_
  refine sG rfl rfl ?_
  refine sMv (v := nv _) rfl ?_
  refine sG rfl rfl ?_
  refine sBin (v := .bool true) (a := 6) (b := 6) rfl rfl (eqlT rfl) ?_
  refine sP (v := .bool true) rfl ?_
  refine sAs (v := .bool _) rfl ?_
  refine sNil (kSeqN ?_)
  refine cRet ?_
  exact ⟨.inr rfl, _, rfl, rfl, ((((((((((((((((((((((((((((((((((((((((((((((((((((((((((((((((((((((((((((x19.trans x20).trans x21).trans x22).trans xs1).trans x25).trans x29).trans x30).trans x31).trans x32).trans x33).trans x37).trans x38).trans xs6).trans x42).trans x43).trans x47).trans x48).trans x52).trans x59).trans x74).trans x75).trans x76).trans x77).trans x78).trans x79).trans x80).trans x81).trans x82).trans x98).trans x118).trans x119).trans x123).trans x124).trans xs14).trans x128).trans x129).trans x130).trans x131).trans x132).trans xs15).trans x135).trans x136).trans x137).trans x138).trans x139).trans x140).trans x141).trans x142).trans x143).trans x144).trans x145).trans x146).trans x147).trans x148).trans x149).trans x150).trans x151).trans x152).trans x153).trans x154).trans x155).trans x156).trans xs16).trans x159).trans x160).trans x165).trans x166).trans x170).trans x171).trans x172).trans x173).trans x174).trans x175).trans x176).trans x177).trans x196)⟩
end Go.AM

/-! ### N11 -/
namespace Go.AM
open Go.Proofs
set_option maxRecDepth 100000
set_option linter.unusedVariables false
set_option linter.unusedSimpArgs false
end Go.AM

/-! ### N12 -/
namespace Go.AM
open Go.Proofs
set_option maxRecDepth 100000
set_option linter.unusedVariables false
set_option linter.unusedSimpArgs false
theorem runM_append (G H : List Gt) (X : Nat) : runM (G ++ H) X = runM H (runM G X) := by unfold runM; rw [List.foldl_append]
theorem turn_eq (X t : Nat) (cs : List Nat) : turnM X (cs ++ [t]) = if cs.all (fun c => X.testBit c) then X ^^^ 2 ^ t else X := by
  unfold turnM
  rw [List.dropLast_concat]
  simp
theorem flip_bit {X t j : Nat} (h : j ≠ t) : (X ^^^ 2 ^ t).testBit j = X.testBit j := by
  rw [Nat.testBit_xor, Nat.testBit_two_pow_of_ne (fun e => h e.symm), Bool.xor_false]
theorem flip_two (X t : Nat) : X ^^^ 2 ^ t ^^^ 2 ^ t = X := by rw [Nat.xor_assoc, Nat.xor_self, Nat.xor_zero]
theorem turn_inv {t : Nat} {cs : List Nat} (h : t ∉ cs) (X : Nat) : turnM (turnM X (cs ++ [t])) (cs ++ [t]) = X := by
  have key : cs.all (fun c => (X ^^^ 2 ^ t).testBit c) = cs.all (fun c => X.testBit c) := by
    rw [Bool.eq_iff_iff, List.all_eq_true, List.all_eq_true]
    exact ⟨fun hh c hc => by rw [← flip_bit (t := t) (fun e => h (by rw [← e]; exact hc))]; exact hh c hc, fun hh c hc => by rw [flip_bit (t := t) (fun e => h (by rw [← e]; exact hc))]; exact hh c hc⟩
  rw [turn_eq X]
  by_cases hh : cs.all (fun c => X.testBit c)
  · rw [if_pos hh, turn_eq, key, if_pos hh, flip_two]
  · rw [if_neg hh, turn_eq, if_neg hh]
/-- A gate with wires of its own. -/
def GW (W : Nat) (g : Gt) : Prop := ((g.1 = 1 ∧ g.2.length = 1) ∨ (g.1 = 9 ∧ g.2.length = 2) ∨ (g.1 = 12 ∧ g.2.length = 3)) ∧ g.2.Nodup ∧ ∀ w ∈ g.2, w < W
theorem GW.inv {W : Nat} {g : Gt} (h : GW W g) (X : Nat) : turnM (turnM X g.2) g.2 = X := by
  have h0 : g.2 ≠ [] := fun e => by have := h.1; rw [e] at this; simp at this
  have e := (List.dropLast_concat_getLast h0).symm
  have hn := h.2.1
  rw [e] at hn ⊢
  refine turn_inv (fun hm => ?_) X
  exact (List.nodup_append.1 hn).2.2 _ hm _ (by simp) rfl
theorem run_rev {W : Nat} : ∀ (G : List Gt), (∀ g ∈ G, GW W g) → ∀ X, runM G.reverse (runM G X) = X
  | [], _, X => rfl
  | g :: G, h, X => by
    rw [List.reverse_cons, runM_append, show runM (g :: G) X = runM G (turnM X g.2) from rfl, run_rev G (fun x hx => h x (by simp [hx]))]
    exact (h g (by simp)).inv X
/-! ### What the gates do -/
def Sem (T : BX → Nat → Nat → List Gt) (V : Nat) (val : Nat → BX → Bool) (a : BX) : Prop := ∀ t X, V ≤ t → (∀ j, t + 1 ≤ j → X.testBit j = false) → runM (T a t (t + 1)) X = if val X a then X ^^^ 2 ^ t else X
end Go.AM

/-! ### R32 -/
namespace Go.AM
open Go.Proofs
set_option maxRecDepth 100000
set_option linter.unusedVariables false
set_option linter.unusedSimpArgs false
end Go.AM

/-! ### R33 -/
namespace Go.AM
open Go.Proofs
set_option maxRecDepth 100000
set_option linter.unusedVariables false
set_option linter.unusedSimpArgs false
end Go.AM

/-! ### N7 -/
namespace Go.AM
open Go.Proofs
set_option maxRecDepth 100000
set_option linter.unusedVariables false
set_option linter.unusedSimpArgs false
section
variable {n i : Nat}
end
end Go.AM

/-! ### R34 -/
namespace Go.AM
open Go.Proofs
set_option maxRecDepth 100000
set_option linter.unusedVariables false
set_option linter.unusedSimpArgs false
/-- A gate ahead of others. -/
theorem OwnG.cons {N : Nat} {m : Mem} {bl kd : Nat} {ws : Value} {w : List Nat} (hg : Mem.get m bl = .cells true #[nv kd, ws, nv 0, nv 0]) (hN : N ≤ bl) (hw : OwnF N m ws (ofs w)) (hb : ∀ b, blkOf ws = some b → b ≠ bl) :
    OwnG N m (.slice (some ⟨bl, 0, some 4⟩) 1 1) #[nv kd, ws, nv 0, nv 0] [(kd, w)] := by
  refine ⟨.inr ⟨bl, 1, _, rfl, hN, hg, Nat.le_refl _, rfl, rfl, fun i _ => rfl⟩, fun i g hi => ?_⟩
  have h1 := (List.getElem?_eq_some_iff.1 hi).1
  obtain rfl : i = 0 := by simp at h1; exact h1
  obtain rfl : (kd, w) = g := by simpa using hi
  exact ⟨ws, rfl, rfl, rfl, rfl, hw, fun b h e => by injection e with e; exact hb b h e.symm⟩
end Go.AM

/-! ### R35 -/
namespace Go.AM
open Go.Proofs
set_option maxRecDepth 100000
set_option linter.unusedVariables false
set_option linter.unusedSimpArgs false
/-- What was met, in a row of truths. -/
def MetB (m : Mem) (b n : Nat) (met : List Nat) : Prop := ∃ B, Mem.get m b = .cells true B ∧ B.size = n ∧ ∀ y, y < n → B[y]? = some (.bool (decide (y ∈ met)))
theorem MetB.keep {m m' : Mem} {b n : Nat} {met : List Nat} (h : MetB m b n met) (he : Mem.get m' b = Mem.get m b) : MetB m' b n met := by
  obtain ⟨B, h1, h2⟩ := h; exact ⟨B, he.trans h1, h2⟩
end Go.AM

/-! ### R36 -/
namespace Go.AM
open Go.Proofs
set_option maxRecDepth 100000
set_option linter.unusedVariables false
set_option linter.unusedSimpArgs false
end Go.AM

/-! ### R38 -/
namespace Go.AM
open Go.Proofs
set_option maxRecDepth 100000
set_option linter.unusedVariables false
set_option linter.unusedSimpArgs false
end Go.AM

/-! ### N8 -/
namespace Go.AM
open Go.Proofs
set_option maxRecDepth 100000
set_option linter.unusedVariables false
set_option linter.unusedSimpArgs false
def lvTry (p : List Nat) (K : List (List Nat)) (g : Nat × List Nat) : List (List Nat) := if doL g.2 p ∈ K then K else K ++ [doL g.2 p]
def lvTries (p : List Nat) (gs : List (Nat × List Nat)) (K : List (List Nat)) : List (List Nat) := gs.foldl (lvTry p) K
def lvRun (n : Nat) : Nat → Nat → List (List Nat) → List (List Nat)
  | 0, _, K => K
  | c + 1, i, K => lvRun n c (i + 1) (lvTries (K.getD i []) (gatesM n) K)
def lvS (n : Nat) : Nat → Nat × List (List Nat)
  | 0 => (0, [List.range (2 ^ n)])
  | d + 1 => ((lvS n d).2.length, lvRun n ((lvS n d).2.length - (lvS n d).1) (lvS n d).1 (lvS n d).2)
def lvl (n d : Nat) : List (List Nat) := (lvS n d).2.drop (lvS n d).1
/-- A table of n wires. -/
def PermT (n : Nat) (p : List Nat) : Prop := p.length = 2 ^ n ∧ ∀ x ∈ p, x < 2 ^ n
theorem PermT.next {n : Nat} {p : List Nat} {g : Nat × List Nat} (h : PermT n p) (hg : g ∈ gatesM n) : PermT n (doL g.2 p) := by
  obtain ⟨h1, h2, _⟩ := gatesM_lt hg
  refine ⟨by simp [doL, h.1], fun x hx => ?_⟩
  unfold doL at hx
  rw [List.mem_map] at hx
  obtain ⟨y, hy, rfl⟩ := hx
  exact turnM_lt (h.2 y hy) h1 h2
theorem PermT.range (n : Nat) : PermT n (List.range (2 ^ n)) := ⟨by simp, fun x hx => by simpa using hx⟩
theorem lvTry_app (p : List Nat) (K : List (List Nat)) (g : Nat × List Nat) : ∃ R, lvTry p K g = K ++ R ∧ R.length ≤ 1 := by
  unfold lvTry
  split
  · exact ⟨[], by simp, by simp⟩
  · exact ⟨_, rfl, by simp⟩
theorem lvTries_app (p : List Nat) : ∀ (gs : List (Nat × List Nat)) (K : List (List Nat)), ∃ R, lvTries p gs K = K ++ R ∧ R.length ≤ gs.length
  | [], K => ⟨[], by simp [lvTries], by simp⟩
  | g :: gs, K => by
    obtain ⟨R, h1, h2⟩ := lvTry_app p K g
    obtain ⟨S, h3, h4⟩ := lvTries_app p gs (lvTry p K g)
    refine ⟨R ++ S, ?_, by simp; omega⟩
    show lvTries p gs (lvTry p K g) = _
    rw [h3, h1, List.append_assoc]
theorem lvRun_app (n : Nat) : ∀ (c i : Nat) (K : List (List Nat)), ∃ R, lvRun n c i K = K ++ R ∧ R.length ≤ c * (gatesM n).length
  | 0, i, K => ⟨[], by simp [lvRun], by simp⟩
  | c + 1, i, K => by
    obtain ⟨R, h1, h2⟩ := lvTries_app (K.getD i []) (gatesM n) K
    obtain ⟨S, h3, h4⟩ := lvRun_app n c (i + 1) (lvTries (K.getD i []) (gatesM n) K)
    refine ⟨R ++ S, by rw [lvRun, h3, h1, List.append_assoc], by rw [List.length_append, Nat.succ_mul]; omega⟩
theorem lvS_len {n : Nat} (hn : n ≤ 3) : ∀ d, (lvS n d).1 ≤ (lvS n d).2.length ∧ (lvS n d).2.length - (lvS n d).1 ≤ 12 ^ d ∧ (lvS n d).1 * 11 + 1 ≤ 12 ^ d
  | 0 => by simp [lvS]
  | d + 1 => by
    obtain ⟨h1, h2, h3⟩ := lvS_len hn d
    obtain ⟨R, e1, e2⟩ := lvRun_app n ((lvS n d).2.length - (lvS n d).1) (lvS n d).1 (lvS n d).2
    have hg := gatesM_len hn
    have e3 : ((lvS n d).2.length - (lvS n d).1) * (gatesM n).length ≤ 12 ^ d * 12 := Nat.mul_le_mul h2 hg
    simp only [lvS, e1, List.length_append, Nat.pow_succ]
    omega
theorem lvS_30000 {n d : Nat} (hn : n ≤ 3) (hd : d ≤ 4) : (lvS n d).2.length ≤ 22621 := by
  obtain ⟨h1, h2, h3⟩ := lvS_len hn d
  have h4 : 12 ^ d ≤ 12 ^ 4 := Nat.pow_le_pow_right (by decide) hd
  omega
theorem lvTries_perm {n : Nat} {p : List Nat} (hp : PermT n p) : ∀ (gs : List (Nat × List Nat)) (K : List (List Nat)), (∀ g ∈ gs, g ∈ gatesM n) → (∀ q ∈ K, PermT n q) → ∀ q ∈ lvTries p gs K, PermT n q
  | [], K, _, h => h
  | g :: gs, K, hg, h => by
    refine lvTries_perm hp gs (lvTry p K g) (fun x hx => hg x (by simp [hx])) fun q hq => ?_
    unfold lvTry at hq
    split at hq
    · exact h q hq
    · rw [List.mem_append] at hq
      rcases hq with hq | hq
      · exact h q hq
      · rw [List.mem_singleton] at hq; subst hq; exact hp.next (hg g (by simp))
theorem lvRun_perm {n : Nat} : ∀ (c i : Nat) (K : List (List Nat)), i + c ≤ K.length → (∀ q ∈ K, PermT n q) → ∀ q ∈ lvRun n c i K, PermT n q
  | 0, i, K, _, h => h
  | c + 1, i, K, hi, h => by
    have hil : i < K.length := by omega
    have hp : PermT n (K.getD i []) := by
      rw [List.getD_eq_getElem?_getD, List.getElem?_eq_getElem hil]; exact h _ (List.getElem_mem _)
    obtain ⟨R, h1, _⟩ := lvTries_app (K.getD i []) (gatesM n) K
    exact lvRun_perm c (i + 1) _ (by rw [h1, List.length_append]; omega) (lvTries_perm hp _ _ (fun g hg => hg) h)
theorem lvS_perm {n : Nat} (hn : n ≤ 3) : ∀ d, ∀ q ∈ (lvS n d).2, PermT n q
  | 0 => fun q hq => by simp only [lvS, List.mem_singleton] at hq; subst hq; exact PermT.range n
  | d + 1 => by
    have := (lvS_len hn d).1
    exact lvRun_perm _ _ _ (by omega) (lvS_perm hn d)
theorem lvl_perm {n d : Nat} (hn : n ≤ 3) : ∀ q ∈ lvl n d, PermT n q := fun q hq => lvS_perm hn d q (List.mem_of_mem_drop hq)
/-! ### The same as by breadth -/
theorem tab8_inj {p q : List Nat} (h : p.length = q.length) (e : tab8 p = tab8 q) : p = q := by
  unfold tab8 at e
  exact (List.append_inj e h).1
theorem tab8_get {p : List Nat} {x : Nat} (hp : p.length ≤ 8) : (tab8 p).getD x 0 = p.getD x 0 := by
  unfold tab8
  rw [List.getD_eq_getElem?_getD, List.getD_eq_getElem?_getD]
  by_cases h : x < p.length
  · rw [List.getElem?_append_left h]
  · rw [List.getElem?_append_right (by omega), List.getElem?_eq_none (l := p) (by omega), List.getElem?_replicate]
    split <;> rfl
theorem tab8_len8 {p : List Nat} (hp : p.length ≤ 8) : (tab8 p).length = 8 := by simp [tab8]; omega
theorem next_tab8 {n : Nat} {p : List Nat} {g : Nat × List Nat} (hn : n ≤ 3) (hp : PermT n p) : nextT n g (tab8 p) = tab8 (doL g.2 p) := by
  have h8 := two_pow3 hn
  have hl := hp.1
  apply List.ext_getElem?
  intro x
  unfold nextT nextUp
  by_cases hx : x < 8
  · rw [List.getElem?_map, List.getElem?_range hx]
    have e : (tab8 (doL g.2 p))[x]? = some ((tab8 (doL g.2 p)).getD x 0) := by
      rw [List.getD_eq_getElem?_getD, List.getElem?_eq_getElem (by rw [tab8_len8 (by simp [doL]; omega)]; exact hx)]; rfl
    rw [e, tab8_get (p := doL g.2 p) (by simp [doL]; omega)]
    simp only [Option.map_some]
    rw [tab8_get (p := p) (by omega)]
    congr 1
    by_cases h : x < 2 ^ n
    · rw [if_pos h, doL_getD (x := p.getD x 0)]
      rw [List.getD_eq_getElem?_getD, List.getElem?_eq_getElem (by omega)]; rfl
    · rw [if_neg h, List.getD_eq_getElem?_getD, List.getD_eq_getElem?_getD, List.getElem?_eq_none (by omega), List.getElem?_eq_none (by simp [doL]; omega)]
  · rw [List.getElem?_eq_none (by simp; omega), List.getElem?_eq_none (by rw [tab8_len8 (by simp [doL]; omega)]; omega)]
theorem id_tab8 {n : Nat} (hn : n ≤ 3) : idM n = tab8 (List.range (2 ^ n)) := by
  have : n = 0 ∨ n = 1 ∨ n = 2 ∨ n = 3 := by omega
  rcases this with rfl | rfl | rfl | rfl <;> decide
theorem find_mem {n : Nat} {L : List Met} {K : List (List Nat)} {q : List Nat} (ht : L.map (·.tab) = K.map tab8) (hK : ∀ p ∈ K, PermT n p) (hq : PermT n q) : (metFind (tab8 q) L).isSome = true ↔ q ∈ K := by
  unfold metFind
  rw [List.find?_isSome]
  constructor
  · rintro ⟨e, he, h⟩
    have h1 : e.tab ∈ L.map (·.tab) := List.mem_map.2 ⟨e, he, rfl⟩
    rw [ht] at h1
    obtain ⟨p, hp, e1⟩ := List.mem_map.1 h1
    have h2 : tab8 q = e.tab := by simpa using h
    have := tab8_inj ((hK p hp).1.trans hq.1.symm) (e1.trans h2.symm)
    rwa [← this]
  · intro h
    have h1 : tab8 q ∈ L.map (·.tab) := by rw [ht]; exact List.mem_map.2 ⟨q, h, rfl⟩
    obtain ⟨e, he, e1⟩ := List.mem_map.1 h1
    exact ⟨e, he, by simpa using e1.symm⟩
theorem tries_cor {n : Nat} (hn : n ≤ 3) {e : Met} {p : List Nat} (he : e.tab = tab8 p) (hp : PermT n p) : ∀ (gs : List (Nat × List Nat)) (k : Nat) (L : List Met) (K : List (List Nat)), (∀ g ∈ gs, g ∈ gatesM n) → L.map (·.tab) = K.map tab8 → (∀ q ∈ K, PermT n q) →
    (triesR n e gs k L).map (·.tab) = (lvTries p gs K).map tab8 ∧ ∃ R, triesR n e gs k L = L ++ R ∧ ∀ x ∈ R, x.many = e.many + 1
  | [], k, L, K, _, h, _ => ⟨h, [], by simp [triesR], by simp⟩
  | g :: gs, k, L, K, hg, h, hK => by
    have hgm := hg g (by simp)
    have hq := hp.next hgm
    have hf := find_mem h hK hq
    have hnx := next_tab8 (g := g) hn hp
    have e1 : nextT n g e.tab = tab8 (doL g.2 p) := by rw [he, hnx]
    have key : (tryR n e g k L).map (·.tab) = (lvTry p K g).map tab8 ∧ ∃ R, tryR n e g k L = L ++ R ∧ ∀ x ∈ R, x.many = e.many + 1 := by
      unfold tryR lvTry
      rw [e1]
      by_cases hc : doL g.2 p ∈ K
      · rw [if_pos (hf.2 hc), if_pos hc]
        exact ⟨h, [], by simp, by simp⟩
      · rw [if_neg (fun hh => hc (hf.1 hh)), if_neg hc]
        refine ⟨by rw [List.map_append, List.map_append, h]; rfl, _, rfl, fun x hx => ?_⟩
        rw [List.mem_singleton] at hx; subst hx; rfl
    obtain ⟨k1, R, k2, k3⟩ := key
    have hK2 : ∀ q ∈ lvTry p K g, PermT n q := lvTries_perm hp [g] K (fun x hx => by rw [List.mem_singleton] at hx; subst hx; exact hgm) hK
    obtain ⟨j1, S, j2, j3⟩ := tries_cor hn he hp gs (k + 1) (tryR n e g k L) (lvTry p K g) (fun x hx => hg x (by simp [hx])) k1 hK2
    refine ⟨j1, R ++ S, ?_, fun x hx => ?_⟩
    · show triesR n e gs (k + 1) (tryR n e g k L) = _
      rw [j2, k2, List.append_assoc]
    · rw [List.mem_append] at hx
      rcases hx with hx | hx
      · exact k3 x hx
      · exact j3 x hx
/-- The list of what was met, and the levels. -/
structure Cor (n d a b : Nat) (L : List Met) (K : List (List Nat)) : Prop where
  tab : L.map (·.tab) = K.map tab8
  per : ∀ p ∈ K, PermT n p
  lo : ∀ (j : Nat) e, L[j]? = some e → j < a → e.many < d
  mid : ∀ (j : Nat) e, L[j]? = some e → a ≤ j → j < b → e.many = d
  hi : ∀ (j : Nat) e, L[j]? = some e → b ≤ j → e.many = d + 1
  le : a ≤ b ∧ b ≤ L.length
theorem Cor.len {n d a b : Nat} {L : List Met} {K : List (List Nat)} (h : Cor n d a b L K) : L.length = K.length := by
  have := congrArg List.length h.tab
  simpa using this
theorem Cor.at {n d a b : Nat} {L : List Met} {K : List (List Nat)} (h : Cor n d a b L K) {i : Nat} (hi : i < L.length) : ∃ e, L[i]? = some e ∧ e.tab = tab8 (K.getD i []) ∧ PermT n (K.getD i []) := by
  have hk : i < K.length := by rw [← h.len]; exact hi
  refine ⟨L[i], List.getElem?_eq_getElem hi, ?_, ?_⟩
  · have := congrArg (·[i]?) h.tab
    simp only [List.getElem?_map, List.getElem?_eq_getElem hi, List.getElem?_eq_getElem hk, Option.map_some, Option.some.injEq] at this
    rw [this, List.getD_eq_getElem?_getD, List.getElem?_eq_getElem hk]; rfl
  · rw [List.getD_eq_getElem?_getD, List.getElem?_eq_getElem hk]; exact h.per _ (List.getElem_mem _)
theorem Cor.round {n d a b most i : Nat} {L : List Met} {K : List (List Nat)} (hn : n ≤ 3) (h : Cor n d a b L K) (hd : d < most) (h1 : a ≤ i) (h2 : i < b) : ∃ e, L[i]? = some e ∧ Cor n d a b (roundR n most e L) (lvTries (K.getD i []) (gatesM n) K) := by
  have hbl := h.le.2
  obtain ⟨e, he, ht, hp⟩ := h.at (i := i) (by omega)
  have hm := h.mid i e he h1 h2
  refine ⟨e, he, ?_⟩
  unfold roundR
  rw [if_neg (by omega)]
  obtain ⟨j1, R, j2, j3⟩ := tries_cor hn ht hp (gatesM n) 0 L K (fun g hg => hg) h.tab h.per
  refine ⟨j1, lvTries_perm hp _ _ (fun g hg => hg) h.per, ?_, ?_, ?_, ⟨h.le.1, by rw [j2, List.length_append]; omega⟩⟩
  · intro j x hx hj
    rw [j2, List.getElem?_append_left (by have := h.le; omega)] at hx
    exact h.lo j x hx hj
  · intro j x hx hj hj'
    rw [j2, List.getElem?_append_left (by omega)] at hx
    exact h.mid j x hx hj hj'
  · intro j x hx hj
    rw [j2] at hx
    by_cases hl : j < L.length
    · rw [List.getElem?_append_left hl] at hx
      exact h.hi j x hx hj
    · rw [List.getElem?_append_right (by omega)] at hx
      rw [j3 x (List.mem_of_getElem? hx), hm]
theorem Cor.run {n d a b most : Nat} (hn : n ≤ 3) (hd : d < most) : ∀ (c i : Nat) (L : List Met) (K : List (List Nat)), Cor n d a b L K → a ≤ i → i + c ≤ b → ∃ L', Cor n d a b L' (lvRun n c i K) ∧ ∀ f, runR n most (c + f) i L = runR n most f (i + c) L'
  | 0, i, L, K, h, _, _ => ⟨L, h, fun f => by rw [Nat.zero_add, Nat.add_zero]⟩
  | c + 1, i, L, K, h, h1, h2 => by
    obtain ⟨e, he, h3⟩ := h.round hn hd h1 (show i < b by omega)
    obtain ⟨L', k1, k2⟩ := Cor.run hn hd c (i + 1) _ _ h3 (by omega) (by omega)
    refine ⟨L', k1, fun f => ?_⟩
    rw [show c + 1 + f = c + f + 1 by omega, runR, he]
    show runR n most (c + f) (i + 1) (roundR n most e L) = _
    rw [k2, show i + 1 + c = i + (c + 1) by omega]
theorem Cor.next {n d a b : Nat} {L : List Met} {K : List (List Nat)} (h : Cor n d a b L K) : Cor n (d + 1) b L.length L K := by
  refine ⟨h.tab, h.per, fun j e he hj => ?_, fun j e he h1 h2 => h.hi j e he h1, fun j e he h1 => ?_, h.le.2, Nat.le_refl _⟩
  · by_cases hj' : j < a
    · have := h.lo j e he hj'; omega
    · have := h.mid j e he (by omega) hj; omega
  · have := (List.getElem?_eq_some_iff.1 he).1; omega
theorem level_cor {n most : Nat} (hn : n ≤ 3) (hm : most ≤ 4) : ∀ d, d ≤ most → ∃ L, Cor n d (lvS n d).1 (lvS n d).2.length L (lvS n d).2 ∧ L.length = (lvS n d).2.length ∧ reachM n most = runR n most (30000 - (lvS n d).1) (lvS n d).1 L
  | 0, _ => by
    refine ⟨[met0 n], ⟨by simp [lvS, met0, id_tab8 hn], lvS_perm hn 0, fun j e _ hj => by simp [lvS] at hj, fun j e he _ hj => ?_, fun j e he hj => ?_, by simp [lvS]⟩, rfl, rfl⟩
    · have : j = 0 := by simp [lvS] at hj; omega
      subst this
      obtain rfl : met0 n = e := by simpa using he
      rfl
    · have := (List.getElem?_eq_some_iff.1 he).1
      simp [lvS] at hj this; omega
  | d + 1, hd => by
    obtain ⟨L, h1, h2, h3⟩ := level_cor hn hm d (by omega)
    have hl := lvS_len hn d
    have hb := lvS_30000 hn (show d ≤ 4 by omega)
    obtain ⟨L', k1, k2⟩ := Cor.run hn (show d < most by omega) ((lvS n d).2.length - (lvS n d).1) (lvS n d).1 L _ h1 (Nat.le_refl _) (by omega)
    have k3 := k2 (30000 - (lvS n d).2.length)
    rw [show (lvS n d).2.length - (lvS n d).1 + (30000 - (lvS n d).2.length) = 30000 - (lvS n d).1 by omega, show (lvS n d).1 + ((lvS n d).2.length - (lvS n d).1) = (lvS n d).2.length by omega] at k3
    refine ⟨L', ?_, k1.len, by rw [h3, k3]; rfl⟩
    have := k1.next
    rw [k1.len] at this
    exact this
theorem run_skip {n most : Nat} {L : List Met} : ∀ (f i : Nat), (∀ (j : Nat) e, i ≤ j → L[j]? = some e → e.many = most) → runR n most f i L = L
  | 0, i, _ => rfl
  | f + 1, i, h => by
    rw [runR]
    split
    · rename_i e he
      rw [roundR, if_pos (h i e (Nat.le_refl _) he)]
      exact run_skip f (i + 1) fun j x hj hx => h j x (by omega) hx
    · rfl
/-- What is met, level by level. -/
theorem reach_cor {n most : Nat} (hn : n ≤ 3) (hm : most ≤ 4) : Cor n most (lvS n most).1 (lvS n most).2.length (reachM n most) (lvS n most).2 := by
  obtain ⟨L, h1, h2, h3⟩ := level_cor hn hm most (Nat.le_refl _)
  rw [h3, run_skip _ _ fun j e hj he => h1.mid j e he hj (by rw [← h2]; exact (List.getElem?_eq_some_iff.1 he).1)]
  exact h1
end Go.AM

/-! ### R39 -/
namespace Go.AM
open Go.Proofs
set_option maxRecDepth 100000
set_option linter.unusedVariables false
set_option linter.unusedSimpArgs false
/-- Rows that may be read, and stay so while a map's place and a list's place are written. -/
def SupR (mb : Nat) (v : Value) (m : Mem) (s : Value) (G : List (List Int)) : Prop := ∃ S : Nat → Prop, (∀ b, S b → b < m.size ∧ b ≠ mb ∧ blkOf v ≠ some b) ∧ (∀ m', (∀ b, S b → Mem.get m' b = Mem.get m b) → RowsAt m' s G) ∧
  ∀ (i : Nat) g, G[i]? = some g → ∃ b cap r c t, s = .slice (some ⟨b, 0, some 1⟩) G.length cap ∧ S b ∧ Mem.get m b = .cells r c ∧ c[i]? = some t ∧ ∀ m', (∀ b, S b → Mem.get m' b = Mem.get m b) → IntsAt m' t g
theorem SupR.keep {mb : Nat} {v s : Value} {m m' : Mem} {G : List (List Int)} (h : SupR mb v m s G) (hz : m.size ≤ m'.size) (hk : ∀ b, b < m.size → b ≠ mb → Mem.get m' b = Mem.get m b) : SupR mb v m' s G := by
  obtain ⟨S, h1, h2, h3⟩ := h
  have hS : ∀ b, S b → Mem.get m' b = Mem.get m b := fun b hb => hk b (h1 b hb).1 (h1 b hb).2.1
  exact ⟨S, fun b hb => ⟨by have := (h1 b hb).1; omega, (h1 b hb).2⟩, fun m2 hm => h2 m2 fun b hb => (hm b hb).trans (hS b hb), fun i g hi => by
    obtain ⟨b, cap, r, c, t, e, hb, hg, ht, hI⟩ := h3 i g hi
    exact ⟨b, cap, r, c, t, e, hb, (hS b hb).trans hg, ht, fun m2 hm => hI m2 fun b hb => (hm b hb).trans (hS b hb)⟩⟩
/-- Lists of rows. -/
def Lv3 (N mb : Nat) (m : Mem) (v : Value) (cs : Array Value) (D : List (List (List Nat))) : Prop := OwnC N m v 1 D.length cs ∧ ∀ (d : Nat) l, D[d]? = some l → ∃ s, cs[d]? = some s ∧ SupR mb v m s (ofs2 l)
theorem Lv3.keep {N mb : Nat} {m m' : Mem} {v : Value} {cs : Array Value} {D : List (List (List Nat))} (h : Lv3 N mb m v cs D) (hN : mb < N) (hz : m.size ≤ m'.size) (hk : ∀ b, b < m.size → b ≠ mb → Mem.get m' b = Mem.get m b) : Lv3 N mb m' v cs D :=
  ⟨h.1.up fun b h1 h2 => hk b h2 (by omega), fun d l hd => by obtain ⟨s, a1, a2⟩ := h.2 d l hd; exact ⟨s, a1, a2.keep hz hk⟩⟩
end Go.AM

/-! ### R41 -/
namespace Go.AM
open Go.Proofs
set_option maxRecDepth 100000
set_option linter.unusedVariables false
set_option linter.unusedSimpArgs false
end Go.AM

/-! ### R42 -/
namespace Go.AM
open Go.Proofs
set_option maxRecDepth 100000
set_option linter.unusedVariables false
set_option linter.unusedSimpArgs false
def needF (n : Nat) (L : List Nat) (most : Nat) : Option Nat := (List.range (most + 1)).find? fun d => decide (L ∈ lvl n d)
def needE (p : List Int) (most : Int) : Nat := if wideE p ≠ 0 then wideE p else if most < 0 ∨ 4 < most then 3 else if (needF (lenN p.length) (nats p) most.toNat).isSome then 0 else 6
def needN (p : List Int) (most : Int) : Nat := if wideE p ≠ 0 then 0 else if most < 0 ∨ 4 < most then 0 else (needF (lenN p.length) (nats p) most.toNat).getD 0
theorem find_range {P : Nat → Bool} {n d : Nat} (hd : d < n) (hp : P d = true) (hm : ∀ j, j < d → P j = false) : (List.range n).find? P = some d := by
  rw [List.find?_eq_some_iff_append]
  refine ⟨hp, List.range d, (List.range' (d + 1) (n - d - 1)), ?_, fun j hj => ?_⟩
  · apply List.ext_getElem?
    intro i
    by_cases hi : i < n
    · rw [List.getElem?_range hi]
      rcases Nat.lt_trichotomy i d with h | h | h
      · rw [List.getElem?_append_left (by simpa using h), List.getElem?_range h]
      · subst h; rw [List.getElem?_append_right (by simp)]; simp
      · rw [List.getElem?_append_right (by simp; omega), List.length_range]
        obtain ⟨k, hk⟩ : ∃ k, i - d = k + 1 := ⟨i - d - 1, by omega⟩
        rw [hk, List.getElem?_cons_succ, List.getElem?_range' (by omega)]
        congr 1; omega
    · rw [List.getElem?_eq_none (by simp; omega), List.getElem?_eq_none (by simp; omega)]
  · rw [List.mem_range] at hj
    simp [hm j hj]
theorem find_none {P : Nat → Bool} {n : Nat} (hm : ∀ j, j < n → P j = false) : (List.range n).find? P = none := by
  rw [List.find?_eq_none]
  intro j hj
  rw [List.mem_range] at hj
  simp [hm j hj]
end Go.AM

/-! ### N9 -/
namespace Go.AM
open Go.Proofs
set_option maxRecDepth 100000
set_option linter.unusedVariables false
set_option linter.unusedSimpArgs false
theorem KeyOk.try {n k : Nat} {L : List Met} {e : Met} {g : Nat × List Nat} (h : KeyOk L) : KeyOk (tryR n e g k L) := by
  unfold tryR
  by_cases hs : (metFind (nextT n g e.tab) L).isSome
  · rw [if_pos hs]; exact h
  · rw [if_neg hs]
    refine h.add ?_
    show metFind (nextT n g e.tab) L = none
    cases hf : metFind (nextT n g e.tab) L with
    | none => rfl
    | some x => rw [hf] at hs; exact absurd rfl hs
theorem KeyOk.tries {n : Nat} {e : Met} : ∀ (gs : List (Nat × List Nat)) (k : Nat) (L : List Met), KeyOk L → KeyOk (triesR n e gs k L)
  | [], k, L, h => h
  | g :: gs, k, L, h => KeyOk.tries gs (k + 1) _ h.try
theorem KeyOk.run {n most : Nat} : ∀ (f i : Nat) (L : List Met), KeyOk L → KeyOk (runR n most f i L)
  | 0, i, L, h => h
  | f + 1, i, L, h => by
    simp only [runR]
    split
    · refine KeyOk.run f (i + 1) _ ?_
      unfold roundR
      split
      · exact h
      · exact KeyOk.tries _ 0 L h
    · exact h
theorem reachM_key (n most : Nat) : KeyOk (reachM n most) := KeyOk.run _ _ _ (.one _)
theorem tryR_app {n k : Nat} {L : List Met} {e : Met} {g : Nat × List Nat} : ∃ S, tryR n e g k L = L ++ S := by
  unfold tryR
  split
  · exact ⟨[], by simp⟩
  · exact ⟨_, rfl⟩
theorem triesR_app {n : Nat} {e : Met} : ∀ (gs : List (Nat × List Nat)) (k : Nat) (L : List Met), ∃ S, triesR n e gs k L = L ++ S
  | [], k, L => ⟨[], by simp [triesR]⟩
  | g :: gs, k, L => by
    obtain ⟨S, h⟩ := tryR_app (n := n) (k := k) (L := L) (e := e) (g := g)
    obtain ⟨T, h'⟩ := triesR_app (n := n) (e := e) gs (k + 1) (tryR n e g k L)
    exact ⟨S ++ T, by rw [triesR, h', h, List.append_assoc]⟩
theorem runR_app {n most : Nat} : ∀ (f i : Nat) (L : List Met), ∃ S, runR n most f i L = L ++ S
  | 0, i, L => ⟨[], by simp [runR]⟩
  | f + 1, i, L => by
    rw [runR]
    split
    · rename_i e he
      obtain ⟨S, h⟩ : ∃ S, roundR n most e L = L ++ S := by
        unfold roundR
        split
        · exact ⟨[], by simp⟩
        · exact triesR_app _ _ _
      obtain ⟨T, h'⟩ := runR_app (n := n) (most := most) f (i + 1) (roundR n most e L)
      exact ⟨S ++ T, by rw [h', h, List.append_assoc]⟩
    · exact ⟨[], by simp⟩
theorem lvl_met {n most d : Nat} {q : List Nat} (hn : n ≤ 3) (hm : most ≤ 4) (hd : d ≤ most) (hq : q ∈ lvl n d) : ∃ e, metFind (tab8 q) (reachM n most) = some e ∧ e.many = d := by
  obtain ⟨L, h1, h2, h3⟩ := level_cor hn hm d hd
  obtain ⟨S, h4⟩ := runR_app (n := n) (most := most) (30000 - (lvS n d).1) (lvS n d).1 L
  rw [← h3] at h4
  obtain ⟨i, hi, e1⟩ := List.getElem_of_mem hq
  unfold lvl at hi e1
  rw [List.length_drop] at hi
  rw [List.getElem_drop] at e1
  have hj : (lvS n d).1 + i < L.length := by omega
  obtain ⟨e, he, ht, _⟩ := h1.at hj
  have hg : (lvS n d).2.getD ((lvS n d).1 + i) [] = q := by
    rw [List.getD_eq_getElem?_getD, List.getElem?_eq_getElem (by omega), e1]; rfl
  rw [hg] at ht
  have hm' := h1.mid _ e he (by omega) (by omega)
  have hmem : e ∈ reachM n most := by rw [h4]; exact List.mem_append_left _ (List.mem_of_getElem? he)
  have := reachM_key n most e hmem
  rw [ht] at this
  exact ⟨e, this, hm'⟩
theorem lvS_lvl {n : Nat} (hn : n ≤ 3) : ∀ d q, q ∈ (lvS n d).2 → ∃ j, j ≤ d ∧ q ∈ lvl n j
  | 0, q, h => ⟨0, Nat.le_refl _, h⟩
  | d + 1, q, h => by
    obtain ⟨R, e, _⟩ := lvRun_app n ((lvS n d).2.length - (lvS n d).1) (lvS n d).1 (lvS n d).2
    have e' : (lvS n (d + 1)).2 = (lvS n d).2 ++ R := e
    rw [e', List.mem_append] at h
    rcases h with h | h
    · obtain ⟨j, hj, hq⟩ := lvS_lvl hn d q h
      exact ⟨j, by omega, hq⟩
    · refine ⟨d + 1, Nat.le_refl _, ?_⟩
      unfold lvl
      rw [e', show (lvS n (d + 1)).1 = (lvS n d).2.length from rfl, List.drop_append_of_le_length (Nat.le_refl _), List.drop_length]
      simpa using h
theorem need_met {n most : Nat} {q : List Nat} (hn : n ≤ 3) (hm : most ≤ 4) (hq : PermT n q) : needF n q most = (metFind (tab8 q) (reachM n most)).map (·.many) := by
  have hc := reach_cor hn hm
  have hf := find_mem hc.tab hc.per hq
  cases hx : metFind (tab8 q) (reachM n most) with
  | none =>
    refine find_none fun j hj => decide_eq_false fun h => ?_
    obtain ⟨e, h1, _⟩ := lvl_met hn hm (show j ≤ most by omega) h
    rw [hx] at h1; cases h1
  | some e =>
    rw [hx] at hf
    obtain ⟨j, hj, hl⟩ := lvS_lvl hn most q (hf.1 rfl)
    have key : ∀ d, d ≤ most → q ∈ lvl n d → e.many = d := fun d hd hl => by
      obtain ⟨e', h1, h2⟩ := lvl_met hn hm hd hl
      rw [hx] at h1
      obtain rfl := Option.some.inj h1
      exact h2
    have hej := key j hj hl
    show needF n q most = some e.many
    rw [hej]
    exact find_range (by omega) (decide_eq_true hl) fun i hi => decide_eq_false fun h => by have := key i (by omega) h; omega
theorem gates_okD : ∀ n < 4, ∀ g ∈ gatesM n, ((g.1 = 1 ∧ g.2.length = 1) ∨ (g.1 = 9 ∧ g.2.length = 2) ∨ (g.1 = 12 ∧ g.2.length = 3)) ∧ (∀ w ∈ g.2, w < n) ∧ g.2.Nodup := by decide +kernel
theorem rtab_snoc {n : Nat} (Gs : List (Nat × List Nat)) (g : Nat × List Nat) : rtabM n (Gs ++ [g]) = doL g.2 (rtabM n Gs) := by
  unfold rtabM doL
  rw [List.map_map]
  apply List.map_congr_left
  intro x _
  unfold runM
  rw [List.foldl_append]; rfl
theorem path_spec {n most : Nat} (hn : n ≤ 3) (hm : most ≤ 4) : ∀ (f : Nat) (e : Met) (q : List Nat), e ∈ reachM n most → e.tab = tab8 q → PermT n q → e.many ≤ f →
    (pathM n (reachM n most) f e.tab).length = e.many ∧ (∀ g ∈ pathM n (reachM n most) f e.tab, g ∈ gatesM n) ∧ rtabM n (pathM n (reachM n most) f e.tab).reverse = q := by
  intro f
  have hbase : ∀ (e : Met) (q : List Nat), e = met0 n → e.tab = tab8 q → PermT n q → rtabM n [] = q := fun e q he ht hq => by
    subst he
    have h1 : idM n = tab8 q := ht
    rw [id_tab8 hn] at h1
    have := tab8_inj (by rw [hq.1]; simp) h1
    rw [← this]
    unfold rtabM runM
    simp
  have hc := reach_cor hn hm
  induction f with
  | zero =>
    intro e q he ht hq hf
    rcases reachM_met n most e he with h | ⟨e', _, k, g, _, h⟩
    · exact ⟨by rw [pathM]; simp; omega, by simp [pathM], by rw [pathM]; exact hbase e q h ht hq⟩
    · rw [h] at hf; simp [stepOf] at hf
  | succ f ih =>
    intro e q he ht hq hf
    have hk := reachM_key n most e he
    rw [pathM, hk]
    simp only []
    rcases reachM_met n most e he with h | ⟨e', he', k, g, hg, h⟩
    · have h0 : e.many = 0 := by rw [h]; rfl
      rw [if_pos h0]
      exact ⟨by simp [h0], by simp, hbase e q h ht hq⟩
    · have h0 : e.many = e'.many + 1 := by rw [h]; rfl
      have hs : e.src = e'.tab := by rw [h]; rfl
      have hgt : (gatesM n).getD e.gate.toNat (0, []) = g := by
        have : e.gate = (k : Int) := by rw [h]; rfl
        rw [this, List.getD_eq_getElem?_getD]
        simp [hg]
      rw [if_neg (by omega), hs, hgt]
      obtain ⟨i, hi, e1⟩ := List.getElem_of_mem he'
      obtain ⟨e2, he2, ht2, hp2⟩ := hc.at hi
      rw [List.getElem?_eq_getElem hi, e1] at he2
      obtain rfl := Option.some.inj he2
      obtain ⟨a1, a2, a3⟩ := ih e' _ he' ht2 hp2 (by omega)
      have hgm := List.mem_of_getElem? hg
      refine ⟨by rw [List.length_cons, a1, h0], fun x hx => ?_, ?_⟩
      · rcases List.mem_cons.1 hx with rfl | hx
        · exact hgm
        · exact a2 x hx
      · rw [List.reverse_cons, rtab_snoc, a3]
        have h5 : e.tab = nextT n g e'.tab := by rw [h]; rfl
        rw [ht, ht2, next_tab8 hn hp2] at h5
        exact (tab8_inj (hq.1.trans (hp2.next hgm).1.symm) h5).symm
/-- A shortest circuit is right, is as long as it must be, and makes the permutation. -/
theorem short_spec {p : List Int} {most : Int} : needE p most = shortE p most ∧ (shortP p most).length = needN p most ∧ (shortP p most).length ≤ 4 ∧ (shortE p most = 0 → ∃ L, p = ofs L ∧ wideE p = 0 ∧ CircOk (lenN p.length) (shortP p most) ∧ rtabM (lenN p.length) (shortP p most) = L) ∧ ∀ g ∈ shortP p most, g.2.length ≤ 3 := by
  by_cases h0 : wideE p = 0
  · by_cases hm : most < 0 ∨ 4 < most
    · have e1 : shortE p most = 3 := by rw [shortE, if_neg (fun h => h h0), if_pos hm]
      have e2 : shortP p most = [] := by rw [shortP, e1]; rfl
      have n1 : needE p most = 3 := by rw [needE, if_neg (fun h => h h0), if_pos hm]
      have n2 : needN p most = 0 := by rw [needN, if_neg (fun h => h h0), if_pos hm]
      rw [n1, n2, e1, e2]
      exact ⟨rfl, rfl, by simp, fun h => by omega, by simp⟩
    · obtain ⟨L, rfl, hLl, hnd, hL8⟩ := wide_nat h0
      obtain ⟨hn1, hn3, hn0⟩ := wide_len hL8
      obtain ⟨G, rfl⟩ : ∃ G : Nat, most = Int.ofNat G := ⟨most.toNat, by simp; omega⟩
      have hG : G ≤ 4 := by have : ¬ (4 < (G : Int)) := fun h => hm (.inr h); omega
      have hq : PermT (lenN L.length) L := ⟨hn1, fun x hx => by rw [← hn1]; exact hLl x hx⟩
      have hnm := need_met hn3 hG hq
      have eE : shortE (ofs L) (Int.ofNat G) = if tab8 L = idM (lenN L.length) then 0 else if (metFind (tab8 L) (reachM (lenN L.length) G)).isSome then 0 else 6 := by
        rw [shortE, if_neg (fun h => h h0), if_neg hm, nats_ofs, ofs_length]; rfl
      have eP : shortP (ofs L) (Int.ofNat G) = if shortE (ofs L) (Int.ofNat G) = 0 then (if tab8 L = idM (lenN L.length) then [] else (pathM (lenN L.length) (reachM (lenN L.length) G) 6 (tab8 L)).reverse) else [] := by
        rw [shortP, nats_ofs, ofs_length]; rfl
      have nE : needE (ofs L) (Int.ofNat G) = if (needF (lenN L.length) L G).isSome then 0 else 6 := by
        rw [needE, if_neg (fun h => h h0), if_neg hm, nats_ofs, ofs_length]; rfl
      have nN : needN (ofs L) (Int.ofNat G) = (needF (lenN L.length) L G).getD 0 := by
        rw [needN, if_neg (fun h => h h0), if_neg hm, nats_ofs, ofs_length]; rfl
      have e0 : (ofs L).length = L.length := ofs_length L
      rw [nE, nN, eP, eE, e0]
      clear eE eP nE nN
      generalize lenN L.length = n at *
      have hid : tab8 L = idM n → (needF n L G = some 0) ∧ rtabM n [] = L := fun h => by
        have : L = List.range (2 ^ n) := tab8_inj (by rw [hn1]; simp) (by rw [h, id_tab8 hn3])
        refine ⟨find_range (by omega) (decide_eq_true ?_) (fun j hj => by omega), ?_⟩
        · rw [this]; simp [lvl, lvS]
        · rw [this]; unfold rtabM runM; simp
      by_cases ht : tab8 L = idM n
      · obtain ⟨a1, a2⟩ := hid ht
        rw [if_pos ht, a1]
        simp only [if_true]
        exact ⟨rfl, by rw [if_pos ht]; rfl, by rw [if_pos ht]; simp, fun _ => ⟨L, rfl, h0, by rw [if_pos ht]; exact ⟨by omega, by omega, by simp, by simp⟩, by rw [if_pos ht]; exact a2⟩, by rw [if_pos ht]; simp⟩
      · rw [if_neg ht]
        cases hx : metFind (tab8 L) (reachM n G) with
        | none =>
          rw [hx] at hnm
          rw [hnm]
          refine ⟨rfl, rfl, by simp, fun h => ?_, by simp⟩
          simp at h
        | some e =>
          rw [hx] at hnm
          rw [hnm]
          obtain ⟨h1, h2⟩ := metFind_tab hx
          have hc := reach_cor hn3 hG
          have hmany : e.many ≤ 4 := by
            obtain ⟨i, hi, e1⟩ := List.getElem_of_mem h2
            have he := List.getElem?_eq_getElem hi
            rw [e1] at he
            by_cases hia : i < (lvS n G).1
            · have := hc.lo i e he hia; omega
            · have := hc.mid i e he (by omega) (by rw [← hc.len]; exact hi); omega
          obtain ⟨a1, a2, a3⟩ := path_spec hn3 hG 6 e L h2 h1 hq (by omega)
          rw [h1] at a1 a2 a3
          simp only [Option.isSome_some, if_true, if_neg ht, List.length_reverse, a1]
          refine ⟨rfl, rfl, hmany, fun _ => ⟨L, rfl, h0, ⟨by omega, by omega, by rw [List.length_reverse, a1]; omega, fun g hg => ?_⟩, a3⟩, fun g hg => ?_⟩
          · obtain ⟨k1, k2, k3⟩ := gates_okD n (by omega) g (a2 g (List.mem_reverse.1 hg))
            exact ⟨k1, k2, k3⟩
          · obtain ⟨k1, k2, k3⟩ := gates_okD n (by omega) g (a2 g (List.mem_reverse.1 hg))
            omega
  · have e1 : shortE p most = wideE p := by rw [shortE, if_pos h0]
    have e2 : shortP p most = [] := by rw [shortP, e1, if_neg h0]
    have n1 : needE p most = wideE p := by rw [needE, if_pos h0]
    have n2 : needN p most = 0 := by rw [needN, if_pos h0]
    rw [n1, n2, e1, e2]
    exact ⟨rfl, rfl, by simp, fun h => absurd h h0, by simp⟩
end Go.AM

/-! ### R37 -/
namespace Go.AM
open Go.Proofs
set_option maxRecDepth 100000
set_option linter.unusedVariables false
set_option linter.unusedSimpArgs false
end Go.AM

/-! ### N10 -/
namespace Go.AM
open Go.Proofs
set_option maxRecDepth 100000
set_option linter.unusedVariables false
set_option linter.unusedSimpArgs false
/-! ### The cycles of a permutation -/
/-- A list goes along a permutation, and on to x. -/
def Chain (p : List Nat) (l : List Nat) (x : Nat) : Prop := (∀ (k a b : Nat), l[k]? = some a → l[k + 1]? = some b → p.getD a 0 = b) ∧ ∀ a, l[l.length - 1]? = some a → 0 < l.length → p.getD a 0 = x
/-- What was met is closed. -/
structure ClosedM (p met : List Nat) : Prop where
  nd : met.Nodup
  lt : ∀ y ∈ met, y < p.length
  pre : ∀ y, y < p.length → p.getD y 0 ∈ met → y ∈ met
/-- What a list of cycles is like. -/
structure CycOk (p : List Nat) (i : Nat) (met : List Nat) (out : List (List Nat)) : Prop where
  cl : ClosedM p met
  all : ∀ j, j < i → j ∈ met
  sub : ∀ c ∈ out, ∀ y ∈ c, y ∈ met
  fix : ∀ y ∈ met, y ∉ out.flatten → p.getD y 0 = y
  nd : out.flatten.Nodup
  ch : ∀ c ∈ out, ∃ a, c[0]? = some a ∧ Chain p c a ∧ ∀ y ∈ c, a ≤ y
  inc : ∀ (k a b : Nat), (out[k]?.bind (·[0]?)) = some a → (out[k + 1]?.bind (·[0]?)) = some b → a < b
  hd : ∀ (k a : Nat), (out[k]?.bind (·[0]?)) = some a → a < i
end Go.AM

/-! ### N13 -/
namespace Go.AM
open Go.Proofs
set_option maxRecDepth 100000
set_option linter.unusedVariables false
set_option linter.unusedSimpArgs false
def likeG (n : Nat) (w : List Nat) : Bool := (gatesM n).any fun g => (List.range (2 ^ n)).all fun x => turnM x w == turnM x g.2
set_option synthInstance.maxSize 2000 in
set_option synthInstance.maxHeartbeats 400000 in
theorem like1 : ∀ n < 4, ∀ a < n, likeG n [a] = true := by decide +kernel
set_option synthInstance.maxSize 2000 in
set_option synthInstance.maxHeartbeats 400000 in
theorem like2 : ∀ n < 4, ∀ a < n, ∀ b < n, a ≠ b → likeG n [a, b] = true := by decide +kernel
set_option synthInstance.maxSize 2000 in
set_option synthInstance.maxHeartbeats 400000 in
theorem like3 : ∀ n < 4, ∀ a < n, ∀ b < n, ∀ c < n, a ≠ b → a ≠ c → b ≠ c → likeG n [a, b, c] = true := by decide +kernel
theorem like_spec {n : Nat} {w : List Nat} (h : likeG n w = true) : ∃ g ∈ gatesM n, ∀ x, x < 2 ^ n → turnM x w = turnM x g.2 := by
  unfold likeG at h
  rw [List.any_eq_true] at h
  obtain ⟨g, hg, h2⟩ := h
  rw [List.all_eq_true] at h2
  exact ⟨g, hg, fun x hx => by simpa using h2 x (List.mem_range.2 hx)⟩
/-- Each right gate does what one of the gates does that are tried. -/
theorem gate_like {n : Nat} {g : Gt} (hn : n ≤ 3) (h : GateOk n g) : ∃ g' ∈ gatesM n, ∀ x, x < 2 ^ n → turnM x g.2 = turnM x g'.2 := by
  refine like_spec ?_
  obtain ⟨k, w⟩ := g
  obtain ⟨hk, hlt, hnd⟩ := h
  dsimp only at *
  match w, hk, hlt, hnd with
  | [], hk, _, _ => simp at hk
  | [a], _, hlt, _ => exact like1 n (by omega) a (hlt a (by simp))
  | [a, b], _, hlt, hnd => exact like2 n (by omega) a (hlt a (by simp)) b (hlt b (by simp)) (by simpa using hnd)
  | [a, b, c], _, hlt, hnd =>
    simp at hnd
    exact like3 n (by omega) a (hlt a (by simp)) b (hlt b (by simp)) c (hlt c (by simp)) hnd.1.1 hnd.1.2 hnd.2
  | _ :: _ :: _ :: _ :: _, hk, _, _ => simp at hk
theorem doL_like {n : Nat} {g g' : Gt} {p : List Nat} (hp : PermT n p) (h : ∀ x, x < 2 ^ n → turnM x g.2 = turnM x g'.2) : doL g.2 p = doL g'.2 p := by
  unfold doL
  exact List.map_congr_left fun x hx => h x (hp.2 x hx)
theorem tries_all {p : List Nat} : ∀ (gs : List Gt) (K : List (List Nat)), (∀ q ∈ K, q ∈ lvTries p gs K) ∧ ∀ g ∈ gs, doL g.2 p ∈ lvTries p gs K
  | [], K => ⟨fun q hq => hq, fun g hg => by cases hg⟩
  | g :: gs, K => by
    obtain ⟨h1, h2⟩ := tries_all (p := p) gs (lvTry p K g)
    have hk : ∀ q ∈ K, q ∈ lvTry p K g := fun q hq => by
      unfold lvTry; split
      · exact hq
      · exact List.mem_append_left _ hq
    have hg : doL g.2 p ∈ lvTry p K g := by
      unfold lvTry; split
      · assumption
      · simp
    refine ⟨fun q hq => h1 q (hk q hq), fun g' hg' => ?_⟩
    rcases List.mem_cons.1 hg' with rfl | hg'
    · exact h1 _ hg
    · exact h2 g' hg'
theorem run_all {n : Nat} : ∀ (c i : Nat) (K : List (List Nat)), i + c ≤ K.length → (∀ q ∈ K, q ∈ lvRun n c i K) ∧ ∀ j, i ≤ j → j < i + c → ∀ g ∈ gatesM n, doL g.2 (K.getD j []) ∈ lvRun n c i K
  | 0, i, K, _ => ⟨fun q hq => hq, fun j h1 h2 => by omega⟩
  | c + 1, i, K, hi => by
    obtain ⟨R, hR, _⟩ := lvTries_app (K.getD i []) (gatesM n) K
    obtain ⟨h1, h2⟩ := run_all (n := n) c (i + 1) (lvTries (K.getD i []) (gatesM n) K) (by rw [hR, List.length_append]; omega)
    obtain ⟨t1, t2⟩ := tries_all (p := K.getD i []) (gatesM n) K
    refine ⟨fun q hq => h1 q (t1 q hq), fun j hj1 hj2 g hg => ?_⟩
    by_cases e : j = i
    · subst e
      exact h1 _ (t2 g hg)
    · have := h2 j (by omega) (by omega) g hg
      rw [hR, List.getD_eq_getElem?_getD, List.getElem?_append_left (by omega), ← List.getD_eq_getElem?_getD] at this
      rw [lvRun, hR]; exact this
theorem lvl_step {n d : Nat} {p : List Nat} {g : Gt} (hn : n ≤ 3) (hp : p ∈ lvl n d) (hg : g ∈ gatesM n) : ∃ j, j ≤ d + 1 ∧ doL g.2 p ∈ lvl n j := by
  obtain ⟨i, hi, e⟩ := List.getElem_of_mem hp
  unfold lvl at hi e
  rw [List.length_drop] at hi
  rw [List.getElem_drop] at e
  have hl := lvS_len hn d
  obtain ⟨_, h2⟩ := run_all (n := n) ((lvS n d).2.length - (lvS n d).1) (lvS n d).1 (lvS n d).2 (by omega)
  have := h2 ((lvS n d).1 + i) (by omega) (by omega) g hg
  rw [List.getD_eq_getElem?_getD, List.getElem?_eq_getElem (by omega), e] at this
  exact lvS_lvl hn (d + 1) _ this
theorem lvl_step' {n d : Nat} {p : List Nat} {g : Gt} (hn : n ≤ 3) (hp : p ∈ lvl n d) (hg : GateOk n g) : ∃ j, j ≤ d + 1 ∧ doL g.2 p ∈ lvl n j := by
  obtain ⟨g', h1, h2⟩ := gate_like hn hg
  rw [doL_like (lvl_perm hn p hp) h2]
  exact lvl_step hn hp h1
theorem lvl_unique {n i j : Nat} {p : List Nat} (hn : n ≤ 3) (hi : i ≤ 4) (hj : j ≤ 4) (h1 : p ∈ lvl n i) (h2 : p ∈ lvl n j) : i = j := by
  obtain ⟨e, a1, a2⟩ := lvl_met hn (Nat.le_refl 4) hi h1
  obtain ⟨e', b1, b2⟩ := lvl_met hn (Nat.le_refl 4) hj h2
  rw [a1] at b1
  obtain rfl := Option.some.inj b1
  omega
/-- The table of a circuit is met within as many gates. -/
theorem circ_lvl {n : Nat} (hn : n ≤ 3) : ∀ Gs : List Gt, (∀ g ∈ Gs, GateOk n g) → ∃ j, j ≤ Gs.length ∧ rtabM n Gs ∈ lvl n j := by
  refine list_snoc _ (fun _ => ⟨0, Nat.le_refl _, ?_⟩) (fun Gs g ih h => ?_)
  · have : rtabM n [] = List.range (2 ^ n) := by unfold rtabM runM; simp
    rw [this]; simp [lvl, lvS]
  · obtain ⟨j, hj, hm⟩ := ih fun x hx => h x (by simp [hx])
    obtain ⟨j', hj', hm'⟩ := lvl_step' hn hm (h g (by simp))
    exact ⟨j', by simp; omega, by rw [rtab_snoc]; exact hm'⟩
theorem gw_of {n : Nat} {g : Gt} (h : GateOk n g) : GW n g := ⟨h.kind, h.once, h.lt⟩
theorem rtab_perm {n : Nat} {Gs : List Gt} (hn : n ≤ 3) (h0 : 0 < n) (h : ∀ g ∈ Gs, GateOk n g) : wideE (ofs (rtabM n Gs)) = 0 ∧ (rtabM n Gs).length = 2 ^ n ∧ lenN (2 ^ n) = n := by
  have h8 : 2 ^ n = 2 ∨ 2 ^ n = 4 ∨ 2 ^ n = 8 := by
    have : n = 1 ∨ n = 2 ∨ n = 3 := by omega
    rcases this with rfl | rfl | rfl <;> simp
  have hlen : (rtabM n Gs).length = 2 ^ n := by simp [rtabM]
  obtain ⟨j, _, hm⟩ := circ_lvl hn Gs h
  have hp := lvl_perm hn _ hm
  have hnd : (rtabM n Gs).Nodup := by
    unfold rtabM List.Nodup
    rw [List.pairwise_map]
    refine List.Pairwise.imp ?_ List.nodup_range
    intro a b hab e
    apply hab
    have h1 := run_rev Gs (fun g hg => gw_of (h g hg)) a
    have h2 := run_rev Gs (fun g hg => gw_of (h g hg)) b
    rw [← h1, ← h2, e]
  have hL : ∀ x ∈ rtabM n Gs, x < (rtabM n Gs).length := fun x hx => by rw [hlen]; exact hp.2 x hx
  refine ⟨?_, hlen, ?_⟩
  · rw [wideE, if_pos (by rw [ofs_length, hlen]; exact h8), if_neg, if_pos (nodup_ofs.2 hnd)]
    rintro ⟨x, hx, hh⟩
    unfold ofs at hx
    rw [List.mem_map] at hx
    obtain ⟨y, hy, rfl⟩ := hx
    have := hL y hy
    rw [ofs_length] at hh
    rcases hh with hh | hh
    · have h' : (y : Int) < 0 := hh; omega
    · have h' : ((rtabM n Gs).length : Int) ≤ (y : Int) := hh; omega
  · have : n = 1 ∨ n = 2 ∨ n = 3 := by omega
    rcases this with rfl | rfl | rfl <;> decide
/-- The shortest circuit of a circuit's table. -/
theorem short_lvl {n j : Nat} {Gs : List Gt} (hn : n ≤ 3) (h0 : 0 < n) (h : ∀ g ∈ Gs, GateOk n g) (hj : j ≤ 4) (hm : rtabM n Gs ∈ lvl n j) :
    shortE (ofs (rtabM n Gs)) 4 = 0 ∧ (shortP (ofs (rtabM n Gs)) 4).length = j ∧ CircOk n (shortP (ofs (rtabM n Gs)) 4) ∧ rtabM n (shortP (ofs (rtabM n Gs)) 4) = rtabM n Gs ∧ shortN (ofs (rtabM n Gs)) 4 = n ∧ (0 < j → shortE (ofs (rtabM n Gs)) (Int.ofNat (j - 1)) = 6) := by
  obtain ⟨w0, hlen, hln⟩ := rtab_perm hn h0 h
  have hlN : lenN (ofs (rtabM n Gs)).length = n := by rw [ofs_length, hlen, hln]
  have hq : PermT n (rtabM n Gs) := lvl_perm hn _ hm
  have hfind : needF n (rtabM n Gs) 4 = some j := find_range (by omega) (decide_eq_true hm) fun i hi => decide_eq_false fun h' => by have := lvl_unique hn (by omega) hj h' hm; omega
  obtain ⟨s1, s2, s3, s4, s5⟩ := short_spec (p := ofs (rtabM n Gs)) (most := 4)
  have hE : needE (ofs (rtabM n Gs)) 4 = 0 := by
    rw [needE, if_neg (fun h => h w0), if_neg (by omega), hlN, nats_ofs, show (4 : Int).toNat = 4 from rfl, hfind]; rfl
  have hN : needN (ofs (rtabM n Gs)) 4 = j := by
    rw [needN, if_neg (fun h => h w0), if_neg (by omega), hlN, nats_ofs, show (4 : Int).toNat = 4 from rfl, hfind]; rfl
  rw [hE] at s1
  rw [hN] at s2
  obtain ⟨L, hL, _, c1, c2⟩ := s4 s1.symm
  have hLe : L = rtabM n Gs := by have := congrArg nats hL; rw [nats_ofs, nats_ofs] at this; exact this.symm
  rw [hlN] at c1 c2
  refine ⟨s1.symm, s2, c1, by rw [c2, hLe], by rw [shortN, if_pos s1.symm, hlN], fun hj0 => ?_⟩
  obtain ⟨t1, _⟩ := short_spec (p := ofs (rtabM n Gs)) (most := Int.ofNat (j - 1))
  rw [← t1, needE, if_neg (fun h => h w0), if_neg (by
    rintro (h | h)
    · have h' : ((j - 1 : Nat) : Int) < 0 := h; omega
    · have h' : (4 : Int) < ((j - 1 : Nat) : Int) := h; omega), hlN, nats_ofs, show (Int.ofNat (j - 1)).toNat = j - 1 from rfl]
  have : needF n (rtabM n Gs) (j - 1) = none := find_none fun i hi => decide_eq_false fun h' => by have := lvl_unique hn (by omega) hj h' hm; omega
  rw [this]; rfl
/-- What the law asks of a circuit and of a gate more. -/
theorem few_facts {n : Nat} {Gs : List Gt} {g : Gt} (hn : n ≤ 3) (h0 : 0 < n) (h3 : Gs.length ≤ 3) (h : ∀ g ∈ Gs, GateOk n g) (hg : GateOk n g) : ∃ i j, rtabM n Gs ∈ lvl n i ∧ rtabM n (Gs ++ [g]) ∈ lvl n j ∧ i ≤ Gs.length ∧ j ≤ 4 ∧ j ≤ i + 1 ∧ i ≤ j + 1 := by
  obtain ⟨i, hi, hmi⟩ := circ_lvl hn Gs h
  obtain ⟨j, hj, hmj⟩ := lvl_step' hn hmi hg
  rw [← rtab_snoc] at hmj
  refine ⟨i, j, hmi, hmj, hi, by omega, hj, ?_⟩
  by_cases h4 : j = 4
  · omega
  · obtain ⟨i', hi', hmi'⟩ := lvl_step' hn hmj hg
    have hback : doL g.2 (rtabM n (Gs ++ [g])) = rtabM n Gs := by
      rw [rtab_snoc]
      unfold doL
      rw [List.map_map]
      conv => rhs; rw [← List.map_id (rtabM n Gs)]
      exact List.map_congr_left fun x _ => (gw_of hg).inv x
    rw [hback] at hmi'
    have := lvl_unique hn (by omega) (by omega) hmi hmi'
    omega
end Go.AM

/-! ### R49 -/
namespace Go.AM
open Go.Proofs
set_option maxRecDepth 100000
set_option linter.unusedVariables false
set_option linter.unusedSimpArgs false
def kindsL : List Nat := [1, 9, 12]
theorem kinds_at {x : Nat} (h : x < 3) : kindsL[x]? = some (kindM x) := by
  have : x = 0 ∨ x = 1 ∨ x = 2 := by omega
  rcases this with rfl | rfl | rfl <;> rfl
theorem B30w {n : Nat} : aBuild Tryd.prog 30 [(0, nv n)] = some (.agg #[nv n, nv 0, .slice none 0 0]) := by kernel_rfl
theorem B30b {n : Nat} : aBuild Tryd.prog 30 [(0, nv n), (1, nv 0)] = some (.agg #[nv n, nv 0, .slice none 0 0]) := by kernel_rfl
theorem B49f {k : Nat} {q : Option Addr} {n c : Nat} : aBuild Tryd.prog 49 [(0, nv k), (1, .slice q n c), (2, nv 0), (3, nv 0)] = some (.agg #[nv k, .slice q n c, nv 0, nv 0]) := by kernel_rfl
theorem okf122 : okF Tryd.prog H0 122 24 = true := by kernel_rfl
theorem spec_kArity {m : Mem} {k l : Nat} (h : (k = 1 ∧ l = 1) ∨ (k = 9 ∧ l = 2) ∨ (k = 12 ∧ l = 3)) : ∃ v m', ACalls Tryd.prog 122 #[nv k] m v m' ∧ (v = nv l ∧ m = m') := by
  refine wpF (args := [_]) mixed okf122 (fn := Tryd.f122) rfl rfl rfl (by simp) ?_
  refine cSeq ?_
  refine cRegion ?_
  refine sAs (v := nv 0) rfl ?_
  refine sNil (kSeqN ?_)
  refine cSeq ?_
  refine cBlock ?_
  refine cSeq ?_   -- seq 2
  refine cSeq ?_
  refine cRegion ?_
  refine sMv (v := nv _) rfl ?_
  refine sBin (v := .bool true) (a := k) (b := 1) rfl rfl (by rw [aInt_geq, decide_eq_true (by omega)]) ?_
  refine sMv (v := .bool true) rfl ?_
  refine sG rfl rfl ?_
  refine sMv (v := nv _) rfl ?_
  refine sG rfl rfl ?_
  refine sBin (a := k) (b := 8) rfl rfl aInt_leq ?_
  refine sP (v := .bool _) rfl ?_
  refine sAs (v := .bool _) rfl ?_
  refine sNil (kSeqN ?_)
  refine cCond (p := k ≤ 8) rfl (fun c0 => ?_) (fun c0 => ?_)
  ·
    refine cSkip (kSeqN ?_)
    refine cCondT' rfl c0 ?_
    refine cSeq ?_
    refine cRegion ?_
    refine sAs (v := nv 1) rfl ?_
    refine sNil (kSeqN ?_)
    refine cRet (kBlkR (kSeqR ?_))
    exact ⟨.inr rfl, _, rfl, by rw [show l = 1 by omega]; rfl, rfl⟩
  ·
    refine cSeq ?_
    refine cRegion ?_
    refine sMv (v := nv _) rfl ?_
    refine sBin (v := .bool false) (a := k) (b := 13) rfl rfl (by rw [aInt_eql, decide_eq_false (by omega)]) ?_
    refine sAs (v := .bool _) rfl ?_
    refine sNil (kSeqN ?_)
    refine cCondF rfl ?_
    refine cRegion ?_
    refine sMv (v := nv _) rfl ?_
    refine sBin (v := .bool false) (a := k) (b := 14) rfl rfl (by rw [aInt_eql, decide_eq_false (by omega)]) ?_
    refine sAs (v := .bool _) rfl ?_
    refine sNil (kSeqN ?_)
    refine cCondF rfl ?_
    refine cSeq ?_
    refine cRegion ?_
    refine sMv (v := nv _) rfl ?_
    refine sBin (v := .bool true) (a := k) (b := 9) rfl rfl (by rw [aInt_geq, decide_eq_true (by omega)]) ?_
    refine sMv (v := .bool true) rfl ?_
    refine sG rfl rfl ?_
    refine sMv (v := nv _) rfl ?_
    refine sG rfl rfl ?_
    refine sBin (a := k) (b := 11) rfl rfl aInt_leq ?_
    refine sP (v := .bool _) rfl ?_
    refine sAs (v := .bool _) rfl ?_
    refine sNil (kSeqN ?_)
    refine cCond (p := k ≤ 11) rfl (fun c4 => ?_) (fun c4 => ?_)
    ·
      refine cSeq ?_
      refine cRegion ?_
      refine sAs (v := nv 2) rfl ?_
      refine sNil (kSeqN ?_)
      refine cRet (kBlkR (kSeqR ?_))
      exact ⟨.inr rfl, _, rfl, by rw [show l = 2 by omega]; rfl, rfl⟩
    ·
      refine cSeq ?_
      refine cRegion ?_
      refine sMv (v := nv _) rfl ?_
      refine sBin (v := .bool true) (a := k) (b := 12) rfl rfl (by rw [aInt_eql, decide_eq_true (by omega)]) ?_
      refine sAs (v := .bool _) rfl ?_
      refine sNil (kSeqN ?_)
      refine cCondT rfl ?_
      refine cSeq ?_
      refine cRegion ?_
      refine sAs (v := nv 3) rfl ?_
      refine sNil (kSeqN ?_)
      refine cRet (kBlkR (kSeqR ?_))
      exact ⟨.inr rfl, _, rfl, by rw [show l = 3 by omega]; rfl, rfl⟩
theorem okf63 : okF Tryd.prog H0 63 30 = true := by kernel_rfl
theorem spec_SGate {m : Mem} {N0 N b k n : Nat} {ka : Value} (hS : StoreAt N0 N m b k) (hN0 : N0 ≤ b) (hk : k < 1000) (h1 : 1 ≤ n) (h3 : n ≤ 3) (hka : IntsAt m ka (ofs (kindsL.take n))) (hkb : ∀ c, blkOf ka = some c → c ≠ b) : ∃ v m', ACalls Tryd.prog 63 #[.pointer (some ⟨b, 0, none⟩), nv n, ka] m v m' ∧ (∃ g w, v = .agg #[nv g.1, w, nv 0, nv 0] ∧ GateOk n g ∧ OwnF m.size m' w (ofs g.2) ∧ (∃ k', k' ≤ k + 10 ∧ StoreAt N0 N m' b k') ∧ LowX m.size b m m') := by
  have hkl : (kindsL.take n).length = n := by rw [List.length_take]; show min n 3 = n; omega
  obtain ⟨bk, ok, pk, rk, cck, rfl, gk, xk⟩ := hka.atN (by rw [hkl]; omega)
  rw [hkl]
  have hbk := hkb bk rfl
  have hbm : b < m.size := by obtain ⟨h1, h2, h3, _⟩ := hS; omega
  have hNm : N ≤ m.size := hS.2.2.1
  refine wpF (args := [_, _, _]) mixed okf63 (fn := Tryd.f63) rfl rfl rfl (by simp) ?_
  refine cSeq ?_
  refine cRegion ?_
  refine sAlloc Z49 (by kernel_rfl) ?_
  change wpOps _ _ _ _ _ (m.push (.cells true #[nv 0, .slice none 0 0, nv 0, nv 0]))
  have ex1 : Ext m (m.push (.cells true #[nv 0, .slice none 0 0, nv 0, nv 0])) := .push _ _
  have g1 : Mem.get (m.push (.cells true #[nv 0, .slice none 0 0, nv 0, nv 0])) m.size = .cells true #[nv 0, .slice none 0 0, nv 0, nv 0] := gP rfl
  have z1 : (m.push (.cells true #[nv 0, .slice none 0 0, nv 0, nv 0])).size = m.size + 1 := by simp
  have hS1 : StoreAt N0 N (m.push (.cells true #[nv 0, .slice none 0 0, nv 0, nv 0])) b k := hS.keep hN0 (by simp) fun c _ h => ex1.2 c (by omega)
  generalize m.push (.cells true #[nv 0, .slice none 0 0, nv 0, nv 0]) = m1 at *
  refine sNil (kSeqN ?_)
  refine cSeq ?_
  refine cRegion ?_
  refine sMv (v := .slice _ _ _) rfl ?_
  refine sMv (v := .pointer _) rfl ?_
  refine sMv (v := .slice _ _ _) rfl ?_
  refine sLen T22 rfl ?_
  obtain ⟨v12, m12, h12, ⟨x, rfl, hx⟩, hS12, o12⟩ := spec_SLess (n := n) hS1 (by omega) (by omega) (by omega)
  refine sCall2 rfl call119 rfl rfl h12 ?_
  have g12 := (o12.2 m.size (by omega)).trans g1
  have z12 := o12.1
  have hkx := kinds_at (show x < 3 by omega)
  have hkx' : (kindsL.take n)[x]? = some (kindM x) := by rw [List.getElem?_take, if_pos hx]; exact hkx
  have gk12 := (o12.2 bk hbk).trans (ex1.cells gk)
  refine sIx T22 S3 rfl rfl (by omega) ?_
  refine sLd (v := nv (kindM x)) A3 rfl gk12 (xk x _ hkx') ?_
  refine sAs (v := nv _) rfl ?_
  refine sNil (kSeqN ?_)
  refine cSeq ?_   -- seq 2
  refine cSeq ?_
  refine cRegion ?_
  refine sMv (v := nv _) rfl ?_
  obtain ⟨v16, m16, h16, rfl, rfl⟩ := spec_kArity (m := m12) (k := kindM x) (l := x + 1) (by
    have : x = 0 ∨ x = 1 ∨ x = 2 := by omega
    rcases this with rfl | rfl | rfl <;> simp [kindM])
  refine sCall1 rfl call122 rfl h16 ?_
  refine sMv (v := nv _) rfl ?_
  refine sBin (v := .bool false) (a := x + 1) (b := n) rfl rfl (by rw [aInt_gtr, decide_eq_false (by omega)]) ?_
  refine sNil (kSeqN ?_)
  refine cCondF rfl ?_
  refine cSkip (kSeqN ?_)
  refine cSeq ?_
  refine cRegion ?_
  refine sMv (v := nv _) rfl ?_
  refine sMv (v := .pointer _) rfl ?_
  refine sMv (v := nv _) rfl ?_
  obtain ⟨v25, m25, h25, L, oL, hLn, hLl, hLd, hT25, x25⟩ := spec_Order (n := n) hS12 (by omega) hN0 (by omega)
  obtain ⟨q25, c25, rfl⟩ := oL.ints.lenN
  rw [hLn] at oL h25
  refine sCall2 rfl call123 rfl rfl h25 ?_
  have z25 := x25.1
  have g25 := (x25.2 m.size (by omega) (by omega)).trans g12
  refine sMv (v := nv _) rfl ?_
  obtain ⟨v27, m27, h27, rfl, rfl⟩ := spec_kArity (m := m25) (k := kindM x) (l := x + 1) (by
    have : x = 0 ∨ x = 1 ∨ x = 2 := by omega
    rcases this with rfl | rfl | rfl <;> simp [kindM])
  refine sCall1 rfl call122 rfl h27 ?_
  obtain ⟨v28, h28, o28, q28, c28, rfl⟩ := cut_own oL (show x + 1 ≤ L.length by omega)
  refine sO (v := .slice q28 (L.take (x + 1)).length c28) (m' := m25) (opF_read rfl h28) ?_
  refine sBuild B49k ?_
  refine sStAll S49 rfl rfl g25 rfl rfl (by kernel_rfl) ?_
  refine sNil (kSeqN ?_)
  refine cRet ?_
  have hok : GateOk n (kindM x, L.take (x + 1)) := by
    refine ⟨?_, fun y hy => hLl y (List.mem_of_mem_take hy), (List.take_sublist _ _).nodup hLd⟩
    have hl : (L.take (x + 1)).length = x + 1 := by rw [List.length_take]; omega
    have : x = 0 ∨ x = 1 ∨ x = 2 := by omega
    rcases this with rfl | rfl | rfl <;> simp [kindM, hl]
  refine ⟨.inr rfl, _, resRs_agg A49 S49 rfl (gS rfl (live g25)) rfl, (kindM x, L.take (x + 1)), _, rfl, hok, ?_, ⟨k + 1 + n, by omega, hT25.keep hN0 (by simp) fun c _ h => gSn (by omega)⟩, by simp; omega, fun c h1 h2 => ?_⟩
  · exact (o28.mono (by omega)).keep fun c hc => gSn (by have := (o28.lt hc).1; omega)
  · rw [gSn (by omega), x25.2 c (by omega) h2, o12.2 c h2]; exact ex1.2 c h1
def H62 : Nat → List (Nat × Nat) := fun id => if id = 4 then [(1, 6), (1, 7)] else []
theorem okf62 : okF Tryd.prog H62 62 29 = true := by kernel_rfl
theorem spec_SCircuit {m : Mem} {N0 N b k n : Nat} {ka : Value} (hS : StoreAt N0 N m b k) (hN0 : N0 ≤ b) (hk : k < 100) (h1 : 1 ≤ n) (h3 : n ≤ 3) (hka : IntsAt m ka (ofs (kindsL.take n))) (hkb : ∀ c, blkOf ka = some c → c ≠ b) : ∃ v m', ACalls Tryd.prog 62 #[.pointer (some ⟨b, 0, none⟩), nv n, nv 3, ka] m v m' ∧ (∃ Gs s cs, v = .agg #[nv n, nv 0, s] ∧ Gs.length ≤ 3 ∧ (∀ g ∈ Gs, GateOk n g) ∧ OwnG m.size m' s cs Gs ∧ (∃ k', k' ≤ k + 100 ∧ StoreAt N0 N m' b k') ∧ LowX m.size b m m') := by
  have hkl : (kindsL.take n).length = n := by rw [List.length_take]; show min n 3 = n; omega
  obtain ⟨bk, ok, pk, rk, cck, rfl, gk, xk⟩ := hka.atN (by rw [hkl]; omega)
  rw [hkl] at hka hkb ⊢
  have hbk := hkb bk rfl
  have hbm : b < m.size := by obtain ⟨h1, h2, h3, _⟩ := hS; omega
  have hNm : N ≤ m.size := hS.2.2.1
  have hbkm := live gk
  refine wpF (args := [_, _, _, _]) mixed okf62 (fn := Tryd.f62) rfl rfl rfl (by simp) ?_
  refine cSeq ?_
  refine cRegion ?_
  refine sAlloc Z30 (by kernel_rfl) ?_
  change wpOps _ _ _ _ _ (m.push (.cells true #[nv 0, nv 0, .slice none 0 0]))
  have ex1 : Ext m (m.push (.cells true #[nv 0, nv 0, .slice none 0 0])) := .push _ _
  have g1 : Mem.get (m.push (.cells true #[nv 0, nv 0, .slice none 0 0])) m.size = .cells true #[nv 0, nv 0, .slice none 0 0] := gP rfl
  have z1 : (m.push (.cells true #[nv 0, nv 0, .slice none 0 0])).size = m.size + 1 := by simp
  generalize m.push (.cells true #[nv 0, nv 0, .slice none 0 0]) = m1 at *
  refine sNil (kSeqN ?_)
  refine cSeq ?_
  refine cRegion ?_
  refine sMv (v := nv _) rfl ?_
  refine sBuild B30w ?_
  refine sAllocB (bl := m1.size) rfl Z30 (by kernel_rfl) ?_
  refine sStNAB rfl S30 rfl rfl rfl rfl (by kernel_rfl) ?_
  have ex2 : Ext m1 (m1.push (.cells true #[nv n, nv 0, .slice none 0 0])) := .push _ _
  have g2 : Mem.get (m1.push (.cells true #[nv n, nv 0, .slice none 0 0])) m1.size = .cells true #[nv n, nv 0, .slice none 0 0] := gP rfl
  have z2 : (m1.push (.cells true #[nv n, nv 0, .slice none 0 0])).size = m1.size + 1 := by simp
  generalize m1.push (.cells true #[nv n, nv 0, .slice none 0 0]) = m2 at *
  have E2 := ex1.trans ex2
  have hS2 : StoreAt N0 N m2 b k := hS.keep hN0 (by omega) fun c _ h => E2.2 c (by omega)
  have gr2 := ex2.cells g1
  refine sNil (kSeqN ?_)
  refine cSeq ?_
  refine cSeq ?_
  refine cRegion ?_
  refine sMv (v := .pointer _) rfl ?_
  refine sMv (v := nv _) rfl ?_
  refine sBin rfl rfl (aInt_add (b := 1) (by omega)) ?_
  obtain ⟨v15, m15, h15, ⟨ct, rfl, hct⟩, hS15, o15⟩ := spec_SLess (n := 3 + 1) hS2 (by omega) (by decide) (by decide)
  refine sCall2 rfl call119 rfl rfl h15 ?_
  have z15 := o15.1
  have g15 := (o15.2 m1.size (by omega)).trans g2
  have gr15 := (o15.2 m.size (by omega)).trans gr2
  have x15 : LowX m.size b m m15 := ⟨by omega, fun c h1 h2 => (o15.2 c h2).trans (E2.2 c h1)⟩
  refine sMv (v := nv 0) rfl ?_
  refine sNil (kSeqN ?_)
  refine cBlock ?_
  refine wpC_loop (fun kk ρ m' => ∃ i Gs v cs k', kk = ct - i ∧ i ≤ ct ∧ Gs.length = i ∧ (∀ g ∈ Gs, GateOk n g) ∧ m15.size ≤ m'.size ∧ Mem.get m' m.size = .cells true #[nv 0, nv 0, .slice none 0 0] ∧ Mem.get m' m1.size = .cells true #[nv n, nv 0, v] ∧ OwnG m2.size m' v cs Gs ∧ k' ≤ k + 1 + 10 * i ∧ StoreAt N0 N m' b k' ∧ LowX m.size b m m' ∧ Has ρ [(0, .pointer (some ⟨b, 0, none⟩)), (1, nv n), (3, .slice (some ⟨bk, ok, some 1⟩) n pk), (8, .pointer (some ⟨m.size, 0, none⟩)), (9, .pointer (some ⟨m1.size, 0, none⟩)), (15, nv ct), (16, nv i)]) ⟨0, [], _, #[], k + 1, rfl, Nat.zero_le _, rfl, by simp, Nat.le_refl _, gr15, g15, .nil _ _, Nat.le_refl _, hS15, x15, rfl, rfl, rfl, rfl, rfl, rfl, rfl, trivial⟩ ?_
  rintro kk ρ m' ⟨i, Gs, v, cs, k', rfl, hi, hGl, hGo, hz, gr, gc, hO, hk', hS', x', hh⟩
  obtain ⟨qv, cv, rfl⟩ := hO.1.len
  rw [hh.env]; clear hh
  refine cSeq ?_
  refine cRegion ?_
  refine sBin rfl rfl (aInt_lss) ?_
  refine sNil (kSeqN ?_)
  refine cSeq ?_   -- seq 5
  refine cCond rfl (fun c0 => ?_) (fun c0 => ?_)
  ·
    have gk' := (x'.2 bk hbkm hbk).trans gk
    have hka' : IntsAt m' (.slice (some ⟨bk, ok, some 1⟩) n pk) (ofs (kindsL.take n)) := .inr ⟨bk, ok, pk, rk, cck, by rw [ofs_length, hkl], gk', fun j y hy => by
      simp only [ofs, List.getElem?_map, Option.map_eq_some_iff] at hy
      obtain ⟨z, hz', rfl⟩ := hy
      have := xk j z hz'
      rw [Nat.mul_one] at this
      exact this⟩
    refine cSkip (kSeqN ?_)
    refine cSeq ?_
    refine cBlock ?_
    refine cDrawH (hs := [(1, 6), (1, 7)]) rfl (by decide) ?_
    refine lStepO (sFA F30_2 rfl (sNil fun e0 hm0 => ?_))
    refine lStepLd (v := .slice qv Gs.length cv) A28 rfl gc rfl fun e1 hm1 hv1 hr1 => ?_
    refine lStepO (sMv (v := .pointer _) rfl (sNil fun e2 hm2 => ?_))
    refine lStepO (sMv (v := nv _) rfl (sNil fun e3 hm3 => ?_))
    refine lStepO (sMv (v := .slice _ _ _) rfl (sNil fun e4 hm4 => ?_))
    obtain ⟨v23, m23, h23, g, w, rfl, hgo, ow, ⟨k23, hk23, hS23⟩, x23⟩ := spec_SGate (n := n) hS' hN0 (by omega) h1 h3 hka' (fun c hc => by cases hc; exact hbk)
    obtain ⟨qw, cw, rfl⟩ := ow.ints.lenN
    refine lStepO (sCall3 rfl call63 rfl rfl rfl h23 (sNil fun e5 hm5 => ?_))
    have z23 := x23.1
    have gc23 := (x23.2 m1.size (by omega) (by omega)).trans gc
    have gr23 := (x23.2 m.size (by omega) (by omega)).trans gr
    have hO23 : OwnG m2.size m23 (.slice qv Gs.length cv) cs Gs := hO.up fun c h1 h2 => x23.2 c h2 (by omega)
    refine lStepO (sBuildS T28 S49 Z49 (by decide) (by decide) (by decide) (by kernel_rfl) fillA4 rfl (sNil fun e6 hm6 => ?_))
    refine lStepO (sAppC El55 rfl rfl (N := m2.size) (n := Gs.length) (cs := cs) (hO23.1.ext (.push _ _)) (gP rfl) rfl (by kernel_rfl) (by simp; omega) (by omega) fun v' m4 hO4 hL4 hG4 => (sNil fun e7 hm7 => ?_))
    have hgr := (hO23.ext (.push _ _)).grew (s := .slice qw g.2.length cw) (k := g.1) (w := g.2) ((ow.mono (by omega)).ext (.push _ _)) (fun c hc e => by
      have h1 := (ow.lt hc).1
      have h2 := (hO.1.lt e).2
      omega) hG4 hO4
    obtain ⟨q4, cp4, rfl⟩ := hO4.len
    have z4 := hL4.1
    simp only [Array.size_push] at z4
    have gc4 := hL4.cells (show m1.size < m2.size by omega) ((gPn (live gc23)).trans gc23)
    refine lStepO (sFA F30_2 rfl (sNil fun e8 hm8 => ?_))
    refine lStepO (sSt (v := .slice _ _ _) S28 rfl rfl gc4 (by simp) rfl rfl (sNil fun e9 hm9 => ?_))
    refine ⟨?_, (kBlkN (kSeqN ?_))⟩
    ·
      refine obl_atE (e := e1) (e' := e6) (by simp) (by rfl) (by simp) ((hr1 e6.m _ _ (by rw [hm6]; exact gc23) (by rfl)).trans (congrArg some hv1.symm)) ?_
      refine obl_atE (e := e1) (e' := e7) (by simp) (by rfl) (by simp) ((hr1 e7.m _ _ (by rw [hm7, gPn (live gc23)]; exact gc23) (by rfl)).trans (congrArg some hv1.symm)) ?_
      trivial
    refine cRegion ?_
    refine sBin rfl rfl (aInt_add (b := 1) (by omega)) ?_
    refine sMv (v := nv _) rfl ?_
    refine sNil (kSeqN ?_)
    have hlow : ∀ c, c < m2.size → c ≠ m1.size → c ≠ b → Mem.get (m4.setIfInBounds m1.size (.cells true #[nv n, nv 0, .slice q4 (Gs.length + 1) cp4])) c = Mem.get m' c := fun c h1 h2 h3 => by
      rw [gSn (by omega), hL4.2 c h1, gPn (by omega)]; exact x23.2 c (by omega) h3
    refine ⟨_, ?_, i + 1, Gs ++ [g], _, cs ++ #[nv g.1, .slice qw g.2.length cw, nv 0, nv 0], k23, rfl, by omega, by simp [hGl], fun y hy => ?_, by simp; omega, (hlow m.size (by omega) (by omega) (by omega)).trans gr, gS rfl (live gc4), hgr.only (.set m1.size m4 _) (by omega), by omega, ?_, ⟨by simp; omega, fun c h1 h2 => (hlow c (by omega) (by omega) h2).trans (x'.2 c h1 h2)⟩, rfl, rfl, rfl, rfl, rfl, rfl, rfl, trivial⟩
    · omega
    · rw [List.mem_append] at hy
      rcases hy with hy | hy
      · exact hGo y hy
      · rw [List.mem_singleton] at hy; subst hy; exact hgo
    · exact hS23.keep hN0 (by simp; omega) fun c _ h => by rw [gSn (by omega), hL4.2 c (by omega), gPn (by omega)]
  ·
    obtain rfl : i = ct := by omega
    refine cExit (kSeqE (kSeqE (kBlkS (kSeqN ?_))))
    refine cSeq ?_
    refine cRegion ?_
    refine sLdAll A30 S30 rfl gc rfl ?_
    refine sStAll S30 rfl rfl gr rfl rfl (by kernel_rfl) ?_
    refine sNil (kSeqN ?_)
    refine cRet ?_
    refine ⟨.inr rfl, _, resRs_agg A30 S30 rfl (gS rfl (live gr)) rfl, Gs, _, cs, rfl, by omega, hGo, (hO.only (.set m.size m' _) (by omega)).mono (by omega), ⟨k', by omega, hS'.keep hN0 (by simp) fun c _ h => gSn (by omega)⟩, by simpa using x'.1, fun c h1 h2 => ?_⟩
    rw [gSn (by omega)]; exact x'.2 c h1 h2
def H38 : Nat → List (Nat × Nat) := fun id => if id = 5 then [(1, 7), (1, 13), (3, 7), (8, 0), (10, 0)] else []
theorem okf38 : okF Tryd.prog H38 38 35 = true := by kernel_rfl
theorem spec_OwnC {m : Mem} {N n : Nat} {s : Value} {cs : Array Value} {Gs : List (Nat × List Nat)} (hG : OwnG N m s cs Gs) (hl : Gs.length ≤ 1000) (hw : ∀ g ∈ Gs, g.2.length ≤ 1000) : ∃ v m', ACalls Tryd.prog 38 #[.agg #[nv n, nv 0, s]] m v m' ∧ (∃ s' cs', v = .agg #[nv n, nv 0, s'] ∧ OwnG m.size m' s' cs' Gs ∧ Ext m m') := by
  obtain ⟨q, cap, rfl⟩ := hG.1.len
  refine wpF (args := [_]) mixed okf38 (fn := Tryd.f38) rfl rfl rfl (by simp) ?_
  refine cSeq ?_
  refine cRegion ?_
  refine sBox (v := .agg _) rfl ?_
  change wpOps _ _ _ _ _ (m.push (.cells true #[nv n, nv 0, .slice q Gs.length cap]))
  have ex0 : Ext m (m.push (.cells true #[nv n, nv 0, .slice q Gs.length cap])) := .push _ _
  have g0 : Mem.get (m.push (.cells true #[nv n, nv 0, .slice q Gs.length cap])) m.size = .cells true #[nv n, nv 0, .slice q Gs.length cap] := gP rfl
  have z0 : (m.push (.cells true #[nv n, nv 0, .slice q Gs.length cap])).size = m.size + 1 := by simp
  generalize m.push (.cells true #[nv n, nv 0, .slice q Gs.length cap]) = m0 at *
  refine sAllocB (bl := m0.size) rfl Z30 (by kernel_rfl) ?_
  change wpOps _ _ _ _ _ (m0.push (.cells true #[nv 0, nv 0, .slice none 0 0]))
  have ex1 : Ext m0 (m0.push (.cells true #[nv 0, nv 0, .slice none 0 0])) := .push _ _
  have g1 : Mem.get (m0.push (.cells true #[nv 0, nv 0, .slice none 0 0])) m0.size = .cells true #[nv 0, nv 0, .slice none 0 0] := gP rfl
  have z1 : (m0.push (.cells true #[nv 0, nv 0, .slice none 0 0])).size = m0.size + 1 := by simp
  generalize m0.push (.cells true #[nv 0, nv 0, .slice none 0 0]) = m1 at *
  refine sNil (kSeqN ?_)
  refine cSeq ?_
  refine cRegion ?_
  refine sFA F30_0 rfl ?_
  refine sLd (v := nv n) A3 rfl (ex1.cells g0) rfl ?_
  refine sFA F30_1 rfl ?_
  refine sLd (v := nv 0) A3 rfl (ex1.cells g0) rfl ?_
  refine sBuild B30b ?_
  refine sAllocB (bl := m1.size) rfl Z30 (by kernel_rfl) ?_
  refine sStNAB rfl S30 rfl rfl rfl rfl (by kernel_rfl) ?_
  have ex2 : Ext m1 (m1.push (.cells true #[nv n, nv 0, .slice none 0 0])) := .push _ _
  have g2 : Mem.get (m1.push (.cells true #[nv n, nv 0, .slice none 0 0])) m1.size = .cells true #[nv n, nv 0, .slice none 0 0] := gP rfl
  have z2 : (m1.push (.cells true #[nv n, nv 0, .slice none 0 0])).size = m1.size + 1 := by simp
  generalize m1.push (.cells true #[nv n, nv 0, .slice none 0 0]) = m2 at *
  have E2 := (ex0.trans ex1).trans ex2
  have gr2 := ex2.cells g1
  have gb2 := (ex1.trans ex2).cells g0
  refine sNil (kSeqN ?_)
  refine cSeq ?_
  refine cSeq ?_
  refine cRegion ?_
  refine sFA F30_2 rfl ?_
  refine sLd (v := .slice q Gs.length cap) A28 rfl gb2 rfl ?_
  refine sLen T28 rfl ?_
  refine sMv (v := nv 0) rfl ?_
  refine sNil (kSeqN ?_)
  refine cBlock ?_
  refine wpC_loop (fun kk ρ m' => ∃ i v cs', kk = Gs.length - i ∧ i ≤ Gs.length ∧ m2.size ≤ m'.size ∧ (∀ c, c < m2.size → c ≠ m1.size → Mem.get m' c = Mem.get m2 c) ∧ Mem.get m' m1.size = .cells true #[nv n, nv 0, v] ∧ OwnG m2.size m' v cs' (Gs.take i) ∧ Has ρ [(2, .pointer (some ⟨m0.size, 0, none⟩)), (3, .pointer (some ⟨m1.size, 0, none⟩)), (12, .slice q Gs.length cap), (13, nv Gs.length), (14, nv i)]) ⟨0, _, #[], rfl, Nat.zero_le _, Nat.le_refl _, fun _ _ _ => rfl, g2, .nil _ _, rfl, rfl, rfl, rfl, rfl, trivial⟩ ?_
  rintro kk ρ m' ⟨i, v, cs', rfl, hi, hz, hk, gc, hO, hh⟩
  obtain ⟨qv, cv, rfl⟩ := hO.1.len
  rw [hh.env]; clear hh
  have hEm : Ext m m' := ⟨by have := E2.1; omega, fun c hc => (hk c (by omega) (by omega)).trans (E2.2 c hc)⟩
  refine cSeq ?_
  refine cRegion ?_
  refine sBin rfl rfl (aInt_lss) ?_
  refine sNil (kSeqN ?_)
  refine cSeq ?_   -- seq 5
  refine cCond rfl (fun c0 => ?_) (fun c0 => ?_)
  ·
    obtain ⟨g, hgi⟩ : ∃ g, Gs[i]? = some g := ⟨_, List.getElem?_eq_getElem c0⟩
    have hgw := hw g (List.mem_of_getElem? hgi)
    obtain ⟨b2, cp2, cc, ws, ee, gb, hcs, hex, hws⟩ := (hG.ext hEm).gate hgi
    cases ee
    obtain ⟨qw, cw, rfl⟩ := hws.ints.lenN
    have htl : (Gs.take i).length ≤ 1000 := by rw [List.length_take]; omega
    refine cSkip (kSeqN ?_)
    refine cSeq ?_
    refine cBlock ?_
    refine cSeq ?_
    refine cRegion ?_
    refine sIx T28 S49 rfl rfl c0 ?_
    refine sLdA A49 S49 rfl gb (by omega) ?_
    rw [hex]
    refine sAllocB (bl := m'.size) rfl Z49 (by kernel_rfl) ?_
    refine sStNAB rfl S49 rfl rfl rfl rfl (by kernel_rfl) ?_
    have eg : Ext m' (m'.push (.cells true #[nv g.1, .slice qw g.2.length cw, nv 0, nv 0])) := .push _ _
    have gg : Mem.get (m'.push (.cells true #[nv g.1, .slice qw g.2.length cw, nv 0, nv 0])) m'.size = .cells true #[nv g.1, .slice qw g.2.length cw, nv 0, nv 0] := gP rfl
    have zg : (m'.push (.cells true #[nv g.1, .slice qw g.2.length cw, nv 0, nv 0])).size = m'.size + 1 := by simp
    generalize m'.push (.cells true #[nv g.1, .slice qw g.2.length cw, nv 0, nv 0]) = M5 at *
    refine sNil (kSeqN ?_)
    refine cDrawH (hs := [(1, 7), (1, 13), (3, 7), (8, 0), (10, 0)]) rfl (by decide) ?_
    refine lStepO (sFA F30_2 rfl (sNil fun e0 hm0 => ?_))
    refine lStepLd (v := .slice qv (Gs.take i).length cv) A28 rfl (eg.cells gc) rfl fun e1 hm1 hv1 hr1 => ?_
    refine lStepO (sFA F49_0 rfl (sNil fun e2 hm2 => ?_))
    refine lStepLd (v := nv g.1) A3 rfl gg rfl fun e3 hm3 hv3 hr3 => ?_
    refine lStepO (sFA F49_1 rfl (sNil fun e4 hm4 => ?_))
    refine lStepLd (v := .slice qw g.2.length cw) A22 rfl gg rfl fun e5 hm5 hv5 hr5 => ?_
    obtain ⟨v24, m24, h24, o24, e24⟩ := spec_Clone ((hws.ext eg).ints) (by rw [ofs_length]; omega)
    obtain ⟨q24, c24, rfl⟩ := o24.ints.lenN
    refine lStepO (sCall1 rfl call15 rfl h24 (sNil fun e6 hm6 => ?_))
    have z24 := e24.1
    have gg24 := e24.cells gg
    refine lStepO (sFA F49_2 rfl (sNil fun e7 hm7 => ?_))
    refine lStepLd (v := nv 0) A3 rfl gg24 rfl fun e8 hm8 hv8 hr8 => ?_
    refine lStepO (sFA F49_3 rfl (sNil fun e9 hm9 => ?_))
    refine lStepLd (v := nv 0) A3 rfl gg24 rfl fun e10 hm10 hv10 hr10 => ?_
    refine lStepO (sBuild B49f (sNil fun e11 hm11 => ?_))
    refine lStepO (sBuildS T28 S49 Z49 (by decide) (by decide) (by decide) (by kernel_rfl) fillA4 rfl (sNil fun e12 hm12 => ?_))
    refine lStepO (sAppC El55 rfl rfl (N := m2.size) (n := (Gs.take i).length) (cs := cs') (((hO.ext eg).ext e24).1.ext (.push _ _)) (gP rfl) rfl (by kernel_rfl) (by simp; omega) (by omega) fun v' m4 hO4 hL4 hG4 => (sNil fun e13 hm13 => ?_))
    have hgr := (((hO.ext eg).ext e24).ext (.push _ _)).grew (s := .slice q24 g.2.length c24) (k := g.1) (w := g.2) ((o24.mono (by omega)).ext (.push _ _)) (fun c hc e => by
      have h1 := (o24.lt hc).1
      have h2 := (hO.1.lt e).2
      omega) hG4 hO4
    obtain ⟨q4, cp4, rfl⟩ := hO4.len
    have z4 := hL4.1
    simp only [Array.size_push] at z4
    have gc4 := hL4.cells (show m1.size < m2.size by omega) ((gPn (by omega)).trans ((eg.trans e24).cells gc))
    refine lStepO (sFA F30_2 rfl (sNil fun e14 hm14 => ?_))
    refine lStepO (sSt (v := .slice _ _ _) S28 rfl rfl gc4 (by simp) rfl rfl (sNil fun e15 hm15 => ?_))
    refine ⟨?_, (kBlkN (kSeqN ?_))⟩
    ·
      refine obl_atE (e := e1) (e' := e7) (by simp) (by rfl) (by simp) ((hr1 e7.m _ _ (by rw [hm7]; exact (eg.trans e24).cells gc) (by rfl)).trans (congrArg some hv1.symm)) ?_
      refine obl_atE (e := e1) (e' := e13) (by simp) (by rfl) (by simp) ((hr1 e13.m _ _ (by rw [hm13, gPn (by omega)]; exact (eg.trans e24).cells gc) (by rfl)).trans (congrArg some hv1.symm)) ?_
      refine obl_atE (e := e3) (e' := e7) (by simp) (by rfl) (by simp) ((hr3 e7.m _ _ (by rw [hm7]; exact gg24) (by rfl)).trans (congrArg some hv3.symm)) ?_
      refine obl_atE (e := e8) (e' := e0) (by simp) (by rfl) (by simp) ((hr8 e0.m _ _ (by rw [hm0]; exact gg) (by rfl)).trans (congrArg some hv8.symm)) ?_
      refine obl_atE (e := e10) (e' := e0) (by simp) (by rfl) (by simp) ((hr10 e0.m _ _ (by rw [hm0]; exact gg) (by rfl)).trans (congrArg some hv10.symm)) ?_
      trivial
    refine cRegion ?_
    refine sBin rfl rfl (aInt_add (b := 1) (by omega)) ?_
    refine sMv (v := nv _) rfl ?_
    refine sNil (kSeqN ?_)
    refine ⟨_, ?_, i + 1, _, cs' ++ #[nv g.1, .slice q24 g.2.length c24, nv 0, nv 0], rfl, by omega, by simp; omega, fun c h1 h2 => ?_, gS rfl (live gc4), ?_, rfl, rfl, rfl, rfl, rfl, trivial⟩
    · omega
    · rw [gSn (by omega), hL4.2 c h1, gPn (by omega), (eg.trans e24).2 c (by omega)]; exact hk c h1 h2
    · rw [List.take_add_one, hgi]
      exact hgr.only (.set m1.size m4 _) (by omega)
  ·
    obtain rfl : i = Gs.length := by omega
    rw [List.take_length] at hO
    have htl : (Gs.take Gs.length).length = Gs.length := by rw [List.take_length]
    refine cExit (kSeqE (kSeqE (kBlkS (kSeqN ?_))))
    refine cSeq ?_
    refine cRegion ?_
    refine sLdAll A30 S30 rfl gc rfl ?_
    refine sStAll S30 rfl rfl ((hk m0.size (by omega) (by omega)).trans gr2) rfl rfl (by kernel_rfl) ?_
    refine sNil (kSeqN ?_)
    refine cRet ?_
    refine ⟨.inr rfl, _, resRs_agg A30 S30 rfl (gS rfl (by omega)) rfl, _, cs', rfl, ?_, hEm.set (by omega) _⟩
    have := (hO.only (.set m0.size m' (.cells true #[nv n, nv 0, .slice qv (Gs.take Gs.length).length cv])) (by omega)).mono (N' := m.size) (by omega)
    rw [htl] at this ⊢
    exact this
end Go.AM

/-! ### R46 -/
namespace Go.AM
open Go.Proofs
set_option maxRecDepth 100000
set_option linter.unusedVariables false
set_option linter.unusedSimpArgs false
end Go.AM

/-! ### R47 -/
namespace Go.AM
open Go.Proofs
set_option maxRecDepth 100000
set_option linter.unusedVariables false
set_option linter.unusedSimpArgs false
end Go.AM

/-! ### R48 -/
namespace Go.AM
open Go.Proofs
set_option maxRecDepth 100000
set_option linter.unusedVariables false
set_option linter.unusedSimpArgs false
theorem conv5_3 {a : Nat} (h : a < 256) : aConv Tryd.prog 5 3 (.int .u8 (Int.ofNat a)) = some (nv a) := by
  simp only [aConv, U5, U3]
  rw [wrapN (by omega)]
end Go.AM

/-! ### R50 -/
namespace Go.AM
open Go.Proofs
set_option maxRecDepth 100000
set_option linter.unusedVariables false
set_option linter.unusedSimpArgs false
theorem gateOk_len {n : Nat} {g : Gt} (h : GateOk n g) : g.2.length ≤ 3 := by rcases h.kind with h | h | h <;> omega
theorem OwnG.only2 {N b : Nat} {m m' : Mem} {v : Value} {cs : Array Value} {Gs : List (Nat × List Nat)} (h : OwnG N m v cs Gs) (ho : Only b m m') (hv : blkOf v ≠ some b) (hr : ∀ (i : Nat) x u, Gs[i]? = some x → cs[i * 4 + 1]? = some u → blkOf u ≠ some b) : OwnG N m' v cs Gs := by
  refine ⟨?_, fun i x hi => ?_⟩
  · rcases h.1 with h | ⟨b', cap', c', a1, a2, a3, a4⟩
    · exact .inl h
    · exact .inr ⟨b', cap', c', a1, a2, (ho.2 _ (fun e => hv (by rw [a1, ← e]; rfl))).trans a3, a4⟩
  · obtain ⟨u, u1, u2, u3, u4, uo, ub⟩ := h.2 i x hi
    exact ⟨u, u1, u2, u3, u4, uo.keep fun c hc => ho.2 c fun e => hr i x u hi u2 (by rw [hc, e]), ub⟩
def H10 : Nat → List (Nat × Nat) := fun id => if id = 5 then [(1, 4), (1, 7), (1, 8)] else []
theorem okf10 : okF Tryd.prog H10 10 138 = true := by kernel_rfl
theorem spec_FewLaw {m : Mem} {a a2 : Value} {l l2 : List Int} {wide : Nat} (hwide : wide < 256) (hC : GlobC m) (hW : GlobW m) (ha : BytesAt m a l) (ha2 : BytesAt m a2 l2) : ∃ v m', ACalls Tryd.prog 10 #[a, a2, .int .u8 (Int.ofNat wide)] m v m' ∧ (v = .bool true ∧ Ext m m') := by
  obtain ⟨qa, ca, rfl⟩ := ha.len
  obtain ⟨qb, cb, rfl⟩ := ha2.len
  obtain ⟨n, hne, hn1, hn3⟩ : ∃ n, n = 1 + wide % 3 ∧ 1 ≤ n ∧ n ≤ 3 := ⟨_, rfl, by omega, by omega⟩
  refine wpF (args := [_, _, _]) mixed okf10 (fn := Tryd.f10) rfl rfl rfl (by simp) ?_
  refine cSeq ?_
  refine cRegion ?_
  refine sAs (v := .bool _) rfl ?_
  refine sNil (kSeqN ?_)
  refine cSeq ?_
  refine cRegion ?_
  refine sMv (v := .int .u8 (Int.ofNat wide)) rfl ?_
  refine sP (v := nv wide) (conv5_3 hwide) ?_
  refine sBin (a := wide) (b := 3) rfl rfl (aInt_rem (by decide)) ?_
  refine sBin (a := 1) (b := wide % 3) rfl rfl (aInt_add (by omega)) ?_
  rw [← hne]
  refine sAs (v := nv _) rfl ?_
  refine sNil (kSeqN ?_)
  refine cSeq ?_
  refine cRegion ?_
  refine sBuildS (c := #[nv 1, nv 9, nv 12]) T22 S3 Z3 (by decide) (by decide) (by decide) (by kernel_rfl) (by kernel_rfl) rfl ?_
  have ex1 : Ext m (m.push (.cells true #[nv 1, nv 9, nv 12])) := .push _ _
  have gk : Mem.get (m.push (.cells true #[nv 1, nv 9, nv 12])) m.size = .cells true #[nv 1, nv 9, nv 12] := gP rfl
  have z1 : (m.push (.cells true #[nv 1, nv 9, nv 12])).size = m.size + 1 := by simp
  generalize m.push (.cells true #[nv 1, nv 9, nv 12]) = m1 at *
  have hkl : (kindsL.take n).length = n := by rw [List.length_take]; show min n 3 = n; omega
  have hka : ∀ M : Mem, Mem.get M m.size = .cells true #[nv 1, nv 9, nv 12] → IntsAt M (.slice (some ⟨m.size, 0, some 1⟩) n 3) (ofs (kindsL.take n)) := fun M hM => by
    refine .inr ⟨m.size, 0, 3, true, _, by rw [ofs_length, hkl], hM, fun j y hy => ?_⟩
    simp only [ofs, List.getElem?_map, Option.map_eq_some_iff] at hy
    obtain ⟨z, hz, rfl⟩ := hy
    rw [List.getElem?_take] at hz
    split at hz
    · have hj : j = 0 ∨ j = 1 ∨ j = 2 := by omega
      rcases hj with rfl | rfl | rfl
      · obtain rfl : (1 : Nat) = z := by simpa [kindsL] using hz
        rfl
      · obtain rfl : (9 : Nat) = z := by simpa [kindsL] using hz
        rfl
      · obtain rfl : (12 : Nat) = z := by simpa [kindsL] using hz
        rfl
    · cases hz
  refine sMv (v := nv _) rfl ?_
  refine sO (v := .slice (some ⟨m.size, 0, some 1⟩) n 3) (m' := m1) (opF_read rfl (aSlice_hi (m := m1) T22 S3 hn3)) ?_
  refine sAs (v := .slice _ _ _) rfl ?_
  refine sNil (kSeqN ?_)
  refine cSeq ?_
  refine cRegion ?_
  refine sMv (v := .slice _ _ _) rfl ?_
  obtain ⟨v31, m31, h31, b, rfl, hb, hT31, e31⟩ := spec_Of (ha.ext ex1)
  refine sCall1 rfl call60 rfl h31 ?_
  have gk31 := e31.cells gk
  have z31 := e31.1
  refine sMv (v := nv _) rfl ?_
  refine sMv (v := .slice _ _ _) rfl ?_
  obtain ⟨v34, m34, h34, Gs, s34, cs34, rfl, hGl, hGo, o34, _, x34⟩ := spec_SCircuit hT31 hb (by decide) hn1 hn3 (hka m31 gk31) (fun c hc => by have : m.size = c := Option.some.inj hc; omega)
  obtain ⟨q34, c34, rfl⟩ := o34.1.len
  refine sCall4 rfl call62 rfl rfl rfl rfl h34 ?_
  have z34 := x34.1
  have gk34 := (x34.2 m.size (by omega) (by omega)).trans gk31
  have E34 : Ext m m34 := ⟨by omega, fun c hc => by rw [x34.2 c (by omega) (by omega), e31.2 c (by omega)]; exact ex1.2 c hc⟩
  refine sAllocB (bl := m34.size) rfl Z30 (by kernel_rfl) ?_
  refine sStNAB rfl S30 rfl rfl rfl rfl (by kernel_rfl) ?_
  have ex9 : Ext m34 (m34.push (.cells true #[nv n, nv 0, .slice q34 Gs.length c34])) := .push _ _
  have g9 : Mem.get (m34.push (.cells true #[nv n, nv 0, .slice q34 Gs.length c34])) m34.size = .cells true #[nv n, nv 0, .slice q34 Gs.length c34] := gP rfl
  have o9 := o34.ext ex9
  generalize m34.push (.cells true #[nv n, nv 0, .slice q34 Gs.length c34]) = m9 at *
  have z9 := ex9.1
  have hl9 := live g9
  refine sNil (kSeqN ?_)
  refine cSeq ?_
  refine cRegion ?_
  refine sLdAll A30 S30 rfl g9 rfl ?_
  obtain ⟨v36, m36, h36, s36, cs36, rfl, o36, y36⟩ := spec_OwnC (n := n) o9 (by omega) (fun g hg => by have := gateOk_len (hGo g hg); omega)
  obtain ⟨q36, c36, rfl⟩ := o36.1.len
  refine sCall1 rfl call38 rfl h36 ?_
  have z36 := y36.1
  refine sAllocB (bl := m36.size) rfl Z30 (by kernel_rfl) ?_
  refine sStNAB rfl S30 rfl rfl rfl rfl (by kernel_rfl) ?_
  have ex10 : Ext m36 (m36.push (.cells true #[nv n, nv 0, .slice q36 Gs.length c36])) := .push _ _
  have g10 : Mem.get (m36.push (.cells true #[nv n, nv 0, .slice q36 Gs.length c36])) m36.size = .cells true #[nv n, nv 0, .slice q36 Gs.length c36] := gP rfl
  have o10 := o36.ext ex10
  generalize m36.push (.cells true #[nv n, nv 0, .slice q36 Gs.length c36]) = m10 at *
  have z10 := ex10.1
  have hl10 := live g10
  have X10 := (ex9.trans y36).trans ex10
  have E10 := E34.trans X10
  refine sNil (kSeqN ?_)
  refine cSeq ?_
  refine cDrawH (hs := [(1, 4), (1, 7), (1, 8)]) rfl (by decide) ?_
  refine lStepO (sFA F30_2 rfl (sNil fun e0 hm0 => ?_))
  refine lStepLd (v := .slice q36 Gs.length c36) A28 rfl g10 rfl fun e1 hm1 hv1 hr1 => ?_
  refine lStepO (sMv (v := .slice _ _ _) rfl (sNil fun e2 hm2 => ?_))
  obtain ⟨v40, m40, h40, b2, rfl, hb2, hT40, y40⟩ := spec_Of (ha2.ext E10)
  refine lStepO (sCall1 rfl call60 rfl h40 (sNil fun e3 hm3 => ?_))
  have z40 := y40.1
  have gk40 := (X10.trans y40).cells gk34
  refine lStepO (sMv (v := nv _) rfl (sNil fun e4 hm4 => ?_))
  refine lStepO (sMv (v := .slice _ _ _) rfl (sNil fun e5 hm5 => ?_))
  obtain ⟨v43, m43, h43, g, w43, rfl, hgo, o43, _, x43⟩ := spec_SGate hT40 hb2 (by decide) hn1 hn3 (hka m40 gk40) (fun c hc => by have : m.size = c := Option.some.inj hc; omega)
  obtain ⟨q43, c43, rfl⟩ := o43.ints.lenN
  refine lStepO (sCall3 rfl call63 rfl rfl rfl h43 (sNil fun e6 hm6 => ?_))
  have z43 := x43.1
  have hlo43 : ∀ c, c < m10.size → Mem.get m43 c = Mem.get m10 c := fun c hc => by rw [x43.2 c (by omega) (by omega)]; exact y40.2 c hc
  have g10' := (hlo43 m36.size hl10).trans g10
  have o10' := o10.up (m' := m43) fun c h1 h2 => hlo43 c h2
  refine lStepO (sBuildS T28 S49 Z49 (by decide) (by decide) (by decide) (by kernel_rfl) fillA4 rfl (sNil fun e7 hm7 => ?_))
  refine lStepO (sAppC El55 rfl rfl (N := m9.size) (n := Gs.length) (cs := cs36) (o10'.1.ext (.push _ _)) (gP rfl) rfl (by kernel_rfl) (by simp; omega) (by omega) fun v' m4 hO4 hL4 hG4 => (sNil fun e8 hm8 => ?_))
  have hgr := (o10'.ext (.push _ _)).grew (s := .slice q43 g.2.length c43) (k := g.1) (w := g.2) ((o43.mono (by omega)).ext (.push _ _)) (fun c hc e => by
    have h1 := (o43.lt hc).1
    have h2 := (o10.1.lt e).2
    omega) hG4 hO4
  obtain ⟨q4, cp4, rfl⟩ := hO4.len
  have z4 := hL4.1
  simp only [Array.size_push] at z4
  have hnb : blkOf (.slice q36 Gs.length c36) ≠ some m36.size := fun e => by have := (o36.1.lt e).2; omega
  have g104 : Mem.get m4 m36.size = .cells true #[nv n, nv 0, .slice q36 Gs.length c36] := (hG4.2.1 m36.size (by simp; omega) hnb).trans ((gPn (by omega)).trans g10')
  refine lStepO (sFA F30_2 rfl (sNil fun e9 hm9 => ?_))
  refine lStepO (sSt (v := .slice _ _ _) S28 rfl rfl g104 (by simp) rfl rfl (sNil fun e10 hm10 => ?_))
  refine ⟨?_, (kSeqN ?_)⟩
  ·
    refine obl_atE (e := e1) (e' := e4) (by simp) (by rfl) (by simp) ((hr1 e4.m _ _ (by rw [hm4]; exact y40.cells g10) (by rfl)).trans (congrArg some hv1.symm)) ?_
    refine obl_atE (e := e1) (e' := e7) (by simp) (by rfl) (by simp) ((hr1 e7.m _ _ (by rw [hm7]; exact g10') (by rfl)).trans (congrArg some hv1.symm)) ?_
    refine obl_atE (e := e1) (e' := e8) (by simp) (by rfl) (by simp) ((hr1 e8.m _ _ (by rw [hm8, gPn (by omega)]; exact g10') (by rfl)).trans (congrArg some hv1.symm)) ?_
    trivial
  refine cSeq ?_
  refine cRegion ?_
  change wpOps _ _ _ _ _ (m4.setIfInBounds m36.size (.cells true #[nv n, nv 0, .slice q4 (Gs.length + 1) cp4]))
  have gD : Mem.get (m4.setIfInBounds m36.size (.cells true #[nv n, nv 0, .slice q4 (Gs.length + 1) cp4])) m36.size = .cells true #[nv n, nv 0, .slice q4 (Gs.length + 1) cp4] := gS rfl (live g104)
  have hlo5 : ∀ c, c < m9.size → Mem.get (m4.setIfInBounds m36.size (.cells true #[nv n, nv 0, .slice q4 (Gs.length + 1) cp4])) c = Mem.get m9 c := fun c hc => by
    rw [gSn (by omega), hL4.2 c hc, gPn (by omega), hlo43 c (by omega)]; exact (y36.trans ex10).2 c hc
  have hnew : blkOf (.slice q4 (Gs.length + 1) cp4) ≠ some m36.size := hG4.off hnb (by simp; omega)
  have hcs36 := o36.1.size
  have oD : OwnG m9.size (m4.setIfInBounds m36.size (.cells true #[nv n, nv 0, .slice q4 (Gs.length + 1) cp4])) (.slice q4 (Gs.length + 1) cp4) (cs36 ++ #[nv g.1, .slice q43 g.2.length c43, nv 0, nv 0]) (Gs ++ [g]) := by
    refine hgr.only2 (.set _ _ _) hnew fun i x u hi hu e => ?_
    by_cases hil : i < Gs.length
    · rw [List.getElem?_append_left hil] at hi
      rw [Array.getElem?_append_left (by omega)] at hu
      obtain ⟨u', _, u2, _, _, uo, _⟩ := o36.2 i x hi
      rw [hu] at u2
      obtain rfl := Option.some.inj u2
      have := (uo.lt e).2
      omega
    · have hi2 := (List.getElem?_eq_some_iff.1 hi).1
      simp at hi2
      obtain rfl : i = Gs.length := by omega
      rw [Array.getElem?_append_right (by omega), show Gs.length * 4 + 1 - cs36.size = 1 by omega] at hu
      obtain rfl : Value.slice q43 g.2.length c43 = u := by simpa using hu
      have := (o43.lt e).1
      omega
  have z5 : (m4.setIfInBounds m36.size (.cells true #[nv n, nv 0, .slice q4 (Gs.length + 1) cp4])).size = m4.size := by simp
  generalize m4.setIfInBounds m36.size (.cells true #[nv n, nv 0, .slice q4 (Gs.length + 1) cp4]) = M5 at *
  have o5 := o9.up (m' := M5) fun c h1 h2 => hlo5 c h2
  have g9' := (hlo5 m34.size hl9).trans g9
  have E5 : Ext m M5 := ⟨by omega, fun c hc => by rw [hlo5 c (by have := E34.1; omega), ex9.2 c (by have := E34.1; omega)]; exact E34.2 c hc⟩
  have hccC : CircOk n Gs := ⟨by omega, by omega, by omega, hGo⟩
  have hGo' : ∀ x ∈ Gs ++ [g], GateOk n x := fun x hx => by
    rw [List.mem_append] at hx
    rcases hx with hx | hx
    · exact hGo x hx
    · rw [List.mem_singleton] at hx; subst hx; exact hgo
  have hccD : CircOk n (Gs ++ [g]) := ⟨by omega, by omega, by simp; omega, hGo'⟩
  obtain ⟨i, j, hmi, hmj, hiG, hj4, hji, hij⟩ := few_facts hn3 (by omega) hGl hGo hgo
  obtain ⟨a1, a2, a3, a4, a5, a6⟩ := short_lvl hn3 (by omega) hGo (by omega) hmi
  obtain ⟨b1, b2', b3, b4, b5, b6⟩ := short_lvl hn3 (by omega) hGo' hj4 hmj
  have hpl : (ofs (rtabM n Gs)).length < 1000000 := by rw [ofs_length]; simp [rtabM]; have := Nat.pow_le_pow_right (show 0 < 2 by decide) hn3; omega
  have hql : (ofs (rtabM n (Gs ++ [g]))).length < 1000000 := by rw [ofs_length]; simp [rtabM]; have := Nat.pow_le_pow_right (show 0 < 2 by decide) hn3; omega
  refine sLdAll A30 S30 rfl g9' rfl ?_
  obtain ⟨v49, m49, h49, w49, rfl, o49, y49⟩ := spec_Table (hC.ext E5) o5 hccC
  obtain ⟨q49, c49, rfl⟩ := o49.ints.lenN
  refine sCall1 rfl call41 rfl h49 ?_
  refine sMv (v := .tuple _) rfl ?_
  refine sP (v := .slice _ _ _) rfl ?_   -- extract ['t47', '0']
  refine sP (v := nv _) rfl ?_   -- extract ['t47', '1']
  refine sAs (v := .slice _ _ _) rfl ?_
  refine sAs (v := nv _) rfl ?_
  refine sNil (kSeqN ?_)
  refine cSeq ?_
  refine cRegion ?_
  refine sLdAll A30 S30 rfl (y49.cells gD) rfl ?_
  obtain ⟨v54, m54, h54, w54, rfl, o54, y54⟩ := spec_Table (hC.ext (E5.trans y49)) (oD.ext y49) hccD
  obtain ⟨q54, c54, rfl⟩ := o54.ints.lenN
  refine sCall1 rfl call41 rfl h54 ?_
  refine sMv (v := .tuple _) rfl ?_
  refine sP (v := .slice _ _ _) rfl ?_   -- extract ['t52', '0']
  refine sP (v := nv _) rfl ?_   -- extract ['t52', '1']
  refine sAs (v := .slice _ _ _) rfl ?_
  refine sAs (v := nv _) rfl ?_
  refine sNil (kSeqN ?_)
  refine cSeq ?_
  refine cRegion ?_
  refine sMv (v := .slice _ _ _) rfl ?_
  obtain ⟨v59, m59, h59, s59, cs59, rfl, o59, y59⟩ := spec_Shortest (most := 4) ((o49.ints).ext y54) hpl
  rw [a1, a5] at h59
  obtain ⟨q59, c59, rfl⟩ := o59.1.len
  rw [a2] at h59
  refine sCall2 rfl call29 rfl rfl h59 ?_
  refine sMv (v := .tuple _) rfl ?_
  refine sP (v := .agg _) rfl ?_   -- extract ['t57', '0']
  refine sP (v := nv _) rfl ?_   -- extract ['t57', '1']
  refine sAllocB (bl := m59.size) rfl Z30 (by kernel_rfl) ?_
  refine sStNAB rfl S30 rfl rfl rfl rfl (by kernel_rfl) ?_
  rw [a2] at o59
  have ex15 : Ext m59 (m59.push (.cells true #[nv n, nv 0, .slice q59 i c59])) := .push _ _
  have g15 : Mem.get (m59.push (.cells true #[nv n, nv 0, .slice q59 i c59])) m59.size = .cells true #[nv n, nv 0, .slice q59 i c59] := gP rfl
  generalize m59.push (.cells true #[nv n, nv 0, .slice q59 i c59]) = m15 at *
  have Y15 := ((y49.trans y54).trans y59).trans ex15
  refine sAs (v := nv _) rfl ?_
  refine sNil (kSeqN ?_)
  refine cSeq ?_
  refine cRegion ?_
  refine sMv (v := .slice _ _ _) rfl ?_
  obtain ⟨v64, m64, h64, s64, cs64, rfl, o64, y64⟩ := spec_Shortest (most := 4) (((o54.ints).ext y59).ext ex15) hql
  rw [b1, b5] at h64
  obtain ⟨q64, c64, rfl⟩ := o64.1.len
  rw [b2'] at h64
  refine sCall2 rfl call29 rfl rfl h64 ?_
  refine sMv (v := .tuple _) rfl ?_
  refine sP (v := .agg _) rfl ?_   -- extract ['t62', '0']
  refine sP (v := nv _) rfl ?_   -- extract ['t62', '1']
  refine sAllocB (bl := m64.size) rfl Z30 (by kernel_rfl) ?_
  refine sStNAB rfl S30 rfl rfl rfl rfl (by kernel_rfl) ?_
  have ex17 : Ext m64 (m64.push (.cells true #[nv n, nv 0, .slice q64 j c64])) := .push _ _
  have g17 : Mem.get (m64.push (.cells true #[nv n, nv 0, .slice q64 j c64])) m64.size = .cells true #[nv n, nv 0, .slice q64 j c64] := gP rfl
  generalize m64.push (.cells true #[nv n, nv 0, .slice q64 j c64]) = m17 at *
  have g1517 := (y64.trans ex17).cells g15
  have g917 := ((Y15.trans y64).trans ex17).cells g9'
  refine sAs (v := nv _) rfl ?_
  refine sNil (kSeqN ?_)
  refine cSeq ?_   -- seq 10
  refine cSeq ?_
  refine cRegion ?_
  refine sMv (v := nv _) rfl ?_
  refine sBin (v := .bool false) (a := 0) (b := 0) rfl rfl (neqF rfl) ?_
  refine sMv (v := .bool false) rfl ?_
  refine sG rfl rfl ?_
  refine sMv (v := nv _) rfl ?_
  refine sG rfl rfl ?_
  refine sBin (v := .bool false) (a := 0) (b := 0) rfl rfl (neqF rfl) ?_
  refine sP (v := .bool false) rfl ?_
  refine sMv (v := .bool false) rfl ?_
  refine sG rfl rfl ?_
  refine sMv (v := nv _) rfl ?_
  refine sG rfl rfl ?_
  refine sBin (v := .bool false) (a := 0) (b := 0) rfl rfl (neqF rfl) ?_
  refine sP (v := .bool false) rfl ?_
  refine sMv (v := .bool false) rfl ?_
  refine sG rfl rfl ?_
  refine sMv (v := nv _) rfl ?_
  refine sG rfl rfl ?_
  refine sBin (v := .bool false) (a := 0) (b := 0) rfl rfl (neqF rfl) ?_
  refine sP (v := .bool false) rfl ?_
  refine sMv (v := .bool false) rfl ?_
  refine sG rfl rfl ?_
  refine sFA F30_2 rfl ?_
  refine sG rfl rfl ?_
  refine sLd (v := .slice q59 i c59) A28 rfl g1517 rfl ?_
  refine sG rfl rfl ?_
  refine sLen T28 rfl ?_
  refine sG rfl rfl ?_
  refine sFA F30_2 rfl ?_
  refine sG rfl rfl ?_
  refine sLd (v := .slice q34 Gs.length c34) A28 rfl g917 rfl ?_
  refine sG rfl rfl ?_
  refine sLen T28 rfl ?_
  refine sG rfl rfl ?_
  refine sBin (v := .bool false) (a := i) (b := Gs.length) rfl rfl (by rw [aInt_gtr, decide_eq_false (by omega)]) ?_
  refine sP (v := .bool false) rfl ?_
  refine sMv (v := .bool false) rfl ?_
  refine sG rfl rfl ?_
  refine sFA F30_2 rfl ?_
  refine sG rfl rfl ?_
  refine sLd (v := .slice q64 j c64) A28 rfl g17 rfl ?_
  refine sG rfl rfl ?_
  refine sLen T28 rfl ?_
  refine sG rfl rfl ?_
  refine sFA F30_2 rfl ?_
  refine sG rfl rfl ?_
  refine sLd (v := .slice q59 i c59) A28 rfl g1517 rfl ?_
  refine sG rfl rfl ?_
  refine sLen T28 rfl ?_
  refine sG rfl rfl ?_
  refine sBin (a := i) (b := 1) rfl rfl (aInt_add (by omega)) ?_
  refine sG rfl rfl ?_
  refine sBin (v := .bool false) (a := j) (b := i + 1) rfl rfl (by rw [aInt_gtr, decide_eq_false (by omega)]) ?_
  refine sP (v := .bool false) rfl ?_
  refine sMv (v := .bool false) rfl ?_
  refine sG rfl rfl ?_
  refine sFA F30_2 rfl ?_
  refine sG rfl rfl ?_
  refine sLd (v := .slice q59 i c59) A28 rfl g1517 rfl ?_
  refine sG rfl rfl ?_
  refine sLen T28 rfl ?_
  refine sG rfl rfl ?_
  refine sFA F30_2 rfl ?_
  refine sG rfl rfl ?_
  refine sLd (v := .slice q64 j c64) A28 rfl g17 rfl ?_
  refine sG rfl rfl ?_
  refine sLen T28 rfl ?_
  refine sG rfl rfl ?_
  refine sBin (a := j) (b := 1) rfl rfl (aInt_add (by omega)) ?_
  refine sG rfl rfl ?_
  refine sBin (v := .bool false) (a := i) (b := j + 1) rfl rfl (by rw [aInt_gtr, decide_eq_false (by omega)]) ?_
  refine sP (v := .bool false) rfl ?_
  refine sNil (kSeqN ?_)
  refine cCondF rfl ?_
  refine cSkip (kSeqN ?_)
  refine cSeq ?_
  refine cRegion ?_
  have o15 : OwnG m54.size m17 (.slice q59 i c59) cs59 (shortP (ofs (rtabM n Gs)) 4) := ((o59.ext ex15).ext y64).ext ex17
  have E17 := ((E5.trans Y15).trans y64).trans ex17
  refine sLdAll A30 S30 rfl g1517 rfl ?_
  obtain ⟨v112, m112, h112, w112, rfl, o112, y112⟩ := spec_Table (hC.ext E17) o15 a3
  rw [a4] at o112
  obtain ⟨q112, c112, rfl⟩ := o112.ints.lenN
  refine sCall1 rfl call41 rfl h112 ?_
  refine sMv (v := .tuple _) rfl ?_
  refine sP (v := .slice _ _ _) rfl ?_   -- extract ['t110', '0']
  refine sP (v := nv _) rfl ?_   -- extract ['t110', '1']
  refine sAs (v := .slice _ _ _) rfl ?_
  refine sAs (v := nv _) rfl ?_
  refine sNil (kSeqN ?_)
  refine cSeq ?_   -- seq 13
  refine cSeq ?_
  refine cRegion ?_
  refine sMv (v := nv _) rfl ?_
  refine sBin (v := .bool false) (a := 0) (b := 0) rfl rfl (neqF rfl) ?_
  refine sMv (v := .bool false) rfl ?_
  refine sG rfl rfl ?_
  refine sMv (v := .slice _ _ _) rfl ?_
  refine sG rfl rfl ?_
  refine sMv (v := .slice _ _ _) rfl ?_
  refine sG rfl rfl ?_
  have i49 := ((((((o49.ints).ext y54).ext y59).ext ex15).ext y64).ext ex17).ext y112
  have h120 := spec_Equal o112.ints i49 (by rw [ofs_length] at hpl ⊢; omega)
  rw [decide_eq_true rfl] at h120
  refine sCall2 rfl call28 rfl rfl h120 ?_
  refine sG rfl rfl ?_
  refine sP (v := .bool false) rfl ?_
  refine sP (v := .bool false) rfl ?_
  refine sNil (kSeqN ?_)
  refine cCondF rfl ?_
  refine cSkip (kSeqN ?_)
  refine cSeq ?_
  refine cSeq ?_
  refine cRegion ?_
  refine sFA F30_2 rfl ?_
  refine sLd (v := .slice q59 i c59) A28 rfl (y112.cells g1517) rfl ?_
  refine sLen T28 rfl ?_
  refine sAs (v := nv _) rfl ?_
  refine sNil (kSeqN ?_)
  refine cSeq ?_
  refine cRegion ?_
  refine sMv (v := nv _) rfl ?_
  refine sBin (a := i) (b := 0) rfl rfl aInt_gtr ?_
  refine sNil (kSeqN ?_)
  refine cCond (p := 0 < i) rfl (fun c2 => ?_) (fun c2 => ?_)
  ·
    refine cSeq ?_
    refine cRegion ?_
    refine sMv (v := .slice _ _ _) rfl ?_
    refine sMv (v := nv _) rfl ?_
    refine sBin (v := nv (i - 1)) rfl rfl (aInt_sub (a := i) (b := 1) (by omega)) ?_
    obtain ⟨v132, m132, h132, s132, cs132, rfl, o132, y132⟩ := spec_Shortest (most := Int.ofNat (i - 1)) i49 hpl
    rw [a6 c2] at h132
    obtain ⟨q132, c132, rfl⟩ := o132.1.len
    refine sCall2 rfl call29 rfl rfl h132 ?_
    refine sMv (v := .tuple _) rfl ?_
    refine sP (v := .agg _) rfl ?_   -- extract ['t128', '0']
    refine sP (v := nv _) rfl ?_   -- extract ['t128', '1']
    refine sAllocB (bl := m132.size) rfl Z30 (by kernel_rfl) ?_
    refine sStNAB rfl S30 rfl rfl rfl rfl (by kernel_rfl) ?_
    have hE := ((E17.trans y112).trans y132).trans (Ext.push m132 (.cells true #[nv (shortN (ofs (rtabM n Gs)) (Int.ofNat (i - 1))), nv 0, .slice q132 (shortP (ofs (rtabM n Gs)) (Int.ofNat (i - 1))).length c132]))
    refine sAs (v := nv _) rfl ?_
    refine sNil (kSeqN ?_)
    refine cSeq ?_
    refine cRegion ?_
    refine sMv (v := nv _) rfl ?_
    refine sBin (v := .bool false) (a := 6) (b := 6) rfl rfl (neqF rfl) ?_
    refine sNil (kSeqN ?_)
    refine cCondF rfl ?_
    refine cSkip (kSeqN ?_)
    refine cSeq ?_
    refine cRegion ?_
    obtain ⟨v137, m137, h137, rfl, e137⟩ := spec_awake (hC.ext hE) (hW.ext hE)
    refine sCall0 rfl call14 h137 ?_
    refine sAs (v := .bool _) rfl ?_
    refine sNil (kSeqN ?_)
    refine cRet ?_
    exact ⟨.inr rfl, _, rfl, rfl, hE.trans e137⟩
  ·
    have hE := E17.trans y112
    refine cSkip (kSeqN ?_)
    refine cSeq ?_
    refine cRegion ?_
    obtain ⟨v137, m137, h137, rfl, e137⟩ := spec_awake (hC.ext hE) (hW.ext hE)
    refine sCall0 rfl call14 h137 ?_
    refine sAs (v := .bool _) rfl ?_
    refine sNil (kSeqN ?_)
    refine cRet ?_
    exact ⟨.inr rfl, _, rfl, rfl, hE.trans e137⟩
end Go.AM

/-! ### F50 -/
namespace Go.AM
open Go.Proofs Go.Proofs.YtdokoekgdeebpaaDoor Go.ChangeShapes
set_option maxRecDepth 100000
set_option linter.unusedVariables false
set_option linter.unusedSimpArgs false
theorem gSize : Tryd.prog.globals.size = 3 := by kernel_rfl
theorem u4 : Tryd.prog.underlying 4 = some .bool := by kernel_rfl
theorem u5 : Tryd.prog.underlying 5 = some (.int .u8) := by kernel_rfl
theorem var_block {P : Program} {w : World} {n : String} {g : Nat} {cs : Array Value} (hg : P.globalNamed n = some g) (h : w.var? P n = some cs) : ∃ t fz, w.heap[g]? = some (.cells cs t fz) := by
  simp only [World.var?, hg, Option.bind_some] at h
  split at h
  · rename_i c t fz e
    injection h with h; subst h
    exact ⟨t, fz, e⟩
  · cases h
theorem gCla : Tryd.prog.globalNamed "spoondrift/rev.classical" = some 1 := by kernel_rfl
theorem tCla : (Tryd.prog.globals[1]?).map (·.type) = some 129 := by kernel_rfl
theorem u3 : Tryd.prog.underlying 3 = some (.int .i64) := by kernel_rfl
theorem u98 : Tryd.prog.underlying 98 = some (.func #[3, 22] #[3] false) := by kernel_rfl
theorem u127 : Tryd.prog.underlying 127 = some (.struct #[{ name := "controls", type := 3, offset := 0, embedded := false, tag := "", pkgPath := "spoondrift/rev", byteOffset := 0 }, { name := "does", type := 98, offset := 1, embedded := false, tag := "", pkgPath := "spoondrift/rev", byteOffset := 8 }]) := by kernel_rfl
theorem u129 : Tryd.prog.underlying 129 = some (.map 3 127) := by kernel_rfl
theorem hc3 : Tryd.prog.cellsOf 3 = 1 := by kernel_rfl
theorem hc98 : Tryd.prog.cellsOf 98 = 1 := by kernel_rfl
theorem hc127 : Tryd.prog.cellsOf 127 = 2 := by kernel_rfl
def tokT : List UInt8 := [115, 112, 111, 111, 110, 100, 114, 105, 102, 116, 47, 114, 101, 118, 46, 116, 117, 114, 110, 101, 100]
def tokS : List UInt8 := [115, 112, 111, 111, 110, 100, 114, 105, 102, 116, 47, 114, 101, 118, 46, 115, 119, 97, 112, 112, 101, 100]
theorem oneT : ((List.range Tryd.prog.funcs.size).filter fun f => (Tryd.prog.funcs[f]?).any (·.name.toUTF8.data.toList == tokT)) = [76] := by kernel_rfl
theorem oneS : ((List.range Tryd.prog.funcs.size).filter fun f => (Tryd.prog.funcs[f]?).any (·.name.toUTF8.data.toList == tokS)) = [181] := by kernel_rfl
/-- A kind's entry: how many controls, what it does. -/
theorem entry_kind {w : World} {n : Nat} {c : Int} {q : FuncId} {tk : List UInt8} (ht : (tk = tokT ∧ q = 76) ∨ (tk = tokS ∧ q = 181)) {cs : List Value} {y : DataW (List UInt8) × List MemPlace}
    (h : DataW.trod (funcToken Tryd.prog) Tryd.prog w 0 (fun _ => true) true n 127 cs = some y) (hy : y.1 = .agg [.lit (.int .i64 c), .held tk]) : cs = [.int .i64 c, .func (.func q) #[] #[]] := by
  obtain ⟨xs, m, rfl, hx, hl, hn, hel⟩ := DataW.trod_struct u127 h
  have h0 := hel 0 _ rfl
  have h1 := hel 1 _ rfl
  rw [hx] at hy
  simp only [DataW.agg.injEq] at hy
  rw [hc127] at hl
  match cs, hl with
  | [a, b], _ =>
    match xs, hn, hy, h0, h1 with
    | [e0, e1], _, hy, h0, h1 =>
      simp only [List.map_cons, List.map_nil, List.cons.injEq, and_true] at hy
      have h2 : DataW.trod (funcToken Tryd.prog) Tryd.prog w 0 (fun _ => true) true m 3 [a] = some (.lit (.int .i64 c), e0.2) := by
        rw [← hy.1]; simpa [hc3] using h0
      have h3 : DataW.trod (funcToken Tryd.prog) Tryd.prog w 0 (fun _ => true) true m 98 [b] = some (.held tk, e1.2) := by
        rw [← hy.2]; simpa [hc98] using h1
      have hb : b = .func (.func q) #[] #[] := by
        rcases ht with ⟨rfl, rfl⟩ | ⟨rfl, rfl⟩
        · exact func_of_trod u98 oneT h3
        · exact func_of_trod u98 oneS h3
      subst hb
      cases m with
      | zero => simp [DataW.trod] at h2
      | succ m =>
        rw [DataW.trod_step] at h2
        unfold DataW.trodStep at h2
        rw [u3] at h2
        cases a <;> simp at h2
        simp_all
def claD : DataW Unit := .map [(.int .i64 1, .agg [.lit (.int .i64 0), .iface "func" (.lit (.string tokT))]), (.int .i64 9, .agg [.lit (.int .i64 1), .iface "func" (.lit (.string tokT))]), (.int .i64 11, .agg [.lit (.int .i64 0), .iface "func" (.lit (.string tokS))]), (.int .i64 12, .agg [.lit (.int .i64 2), .iface "func" (.lit (.string tokT))])]
/-- One of the table's entries. -/
def IsKind (k v : Value) : Prop := (k = .int .i64 1 ∧ v = .agg #[.int .i64 0, .func (.func 76) #[] #[]]) ∨ (k = .int .i64 9 ∧ v = .agg #[.int .i64 1, .func (.func 76) #[] #[]]) ∨ (k = .int .i64 11 ∧ v = .agg #[.int .i64 0, .func (.func 181) #[] #[]]) ∨ (k = .int .i64 12 ∧ v = .agg #[.int .i64 2, .func (.func 76) #[] #[]])
theorem mem_fold {x : Lit × DataW (List UInt8)} : ∀ {l : List (Lit × DataW (List UInt8))}, x ∈ l.foldr DataW.insert [] ↔ x ∈ l
  | [] => by simp
  | y :: l => by
    rw [List.foldr_cons, Go.ChangeMaps.mem_insert_iff, mem_fold, List.mem_cons]
theorem open_kinds {w : World} (h : funcsAt Tryd.prog w "spoondrift/rev.classical" claD) :
    ∃ c t fz b es clk, w.heap[1]? = some (.cells c t fz) ∧ c[0]? = some (.map (some b)) ∧ w.heap[b]? = some (.map es clk) ∧ (∀ x ∈ es.toList, IsKind x.key x.val) ∧ ∀ k, (k = 1 ∨ k = 9 ∨ k = 12) → ∃ x ∈ es.toList, x.key = .int .i64 k := by
  obtain ⟨g, t, cs, fuel, p, hg, ht, hc, hd⟩ := h
  obtain rfl := Option.some.inj (gCla.symm.trans hg)
  obtain rfl := Option.some.inj (tCla.symm.trans ht)
  obtain ⟨ty, fz, hb0⟩ := var_block hg hc
  have hout : claD.funcsOut = .map [(.int .i64 1, .agg [.lit (.int .i64 0), .held tokT]), (.int .i64 9, .agg [.lit (.int .i64 1), .held tokT]), (.int .i64 11, .agg [.lit (.int .i64 0), .held tokS]), (.int .i64 12, .agg [.lit (.int .i64 2), .held tokT])] := by rfl
  rw [hout] at hd
  rcases Go.WideElems.open_map u129 hd with ⟨_, h2⟩ | ⟨b, es, clk, n, _, hcs, hb, _, F, hx⟩
  · simp at h2
  simp only [Prod.mk.injEq, DataW.map.injEq] at hx
  have hx1 := hx.1
  have hmem : ∀ z, z ∈ es.toList.map (Go.WideElems.rg Tryd.prog 3 (Go.WideElems.elemAt (funcToken Tryd.prog) Tryd.prog w 0 (fun _ => true) true n 127)) ↔ z ∈ [((.int .i64 1 : Lit), (.agg [.lit (.int .i64 0), .held tokT] : DataW (List UInt8))), (.int .i64 9, .agg [.lit (.int .i64 1), .held tokT]), (.int .i64 11, .agg [.lit (.int .i64 0), .held tokS]), (.int .i64 12, .agg [.lit (.int .i64 2), .held tokT])] := fun z => by
    rw [hx1, mem_fold]
  have key : ∀ x ∈ es.toList, ∀ (k c : Int) (tk : List UInt8) (q : FuncId), ((tk = tokT ∧ q = 76) ∨ (tk = tokS ∧ q = 181)) → Go.WideElems.rg Tryd.prog 3 (Go.WideElems.elemAt (funcToken Tryd.prog) Tryd.prog w 0 (fun _ => true) true n 127) x = (.int .i64 k, .agg [.lit (.int .i64 c), .held tk]) → x.key = .int .i64 k ∧ x.val = .agg #[.int .i64 c, .func (.func q) #[] #[]] := by
    intro x hx k c tk q htk hr
    obtain ⟨y, hy⟩ := F.reads x hx
    rw [Go.WideElems.rg_of hy] at hr
    subst hr
    have h1 := Go.WideElems.rd_key hy
    obtain ⟨z, hz, h2⟩ := Go.WideElems.rd_val hy
    refine ⟨?_, ?_⟩
    · simp only [keyOf, u3, mapKey] at h1
      split at h1 <;> simp_all
    · simp only [Go.WideElems.elemAt] at hz
      split at hz
      · rename_i hf
        have := entry_kind htk hz h2.symm
        cases hv : x.val with
        | agg cs2 =>
          rw [hv] at this
          have e : cs2.toList = [.int .i64 c, .func (.func q) #[] #[]] := this
          obtain ⟨l⟩ := cs2
          simp only at e
          subst e; rfl
        | _ => rw [hv] at hf; simp [Value.formed, u127] at hf
      · cases hz
  have hcs0 : cs[0]? = some (.map (some b)) := by
    have := congrArg (·[0]?) hcs
    simpa using this
  refine ⟨cs, ty, fz, b, es, clk, hb0, hcs0, hb, fun x hx => ?_, fun k hk => ?_⟩
  · have h1 := (hmem _).1 (List.mem_map.2 ⟨x, hx, rfl⟩)
    simp only [List.mem_cons, List.not_mem_nil, or_false] at h1
    rcases h1 with h1 | h1 | h1 | h1
    · exact .inl (key x hx _ _ _ 76 (.inl ⟨rfl, rfl⟩) h1)
    · exact .inr (.inl (key x hx _ _ _ 76 (.inl ⟨rfl, rfl⟩) h1))
    · exact .inr (.inr (.inl (key x hx _ _ _ 181 (.inr ⟨rfl, rfl⟩) h1)))
    · exact .inr (.inr (.inr (key x hx _ _ _ 76 (.inl ⟨rfl, rfl⟩) h1)))
  · have : ∃ c : Int, ((.int .i64 k : Lit), (.agg [.lit (.int .i64 c), .held tokT] : DataW (List UInt8))) ∈ [((.int .i64 1 : Lit), (.agg [.lit (.int .i64 0), .held tokT] : DataW (List UInt8))), (.int .i64 9, .agg [.lit (.int .i64 1), .held tokT]), (.int .i64 11, .agg [.lit (.int .i64 0), .held tokS]), (.int .i64 12, .agg [.lit (.int .i64 2), .held tokT])] := by
      rcases hk with rfl | rfl | rfl
      · exact ⟨0, by simp⟩
      · exact ⟨1, by simp⟩
      · exact ⟨2, by simp⟩
    obtain ⟨c, hm⟩ := this
    obtain ⟨x, hx, hr⟩ := List.mem_map.1 ((hmem _).2 hm)
    exact ⟨x, hx, (key x hx _ _ _ 76 (.inl ⟨rfl, rfl⟩) hr).1⟩
theorem cla_data : (Rows.laid_spoondrift_rev_classical : DataW Unit) = .iface "func table" claD := by rfl
/-- An array of numbers that is read. -/
theorem open_nums {H : Type} {enc : TypeId × Value → H} {P : Program} {w : World} {sp : Nat → Bool} {held : Bool} {t e n fuel : Nat} {k : IntKind} {cs : List Value} {ds : List (DataW H)} {p : List MemPlace}
    (ht : P.underlying t = some (.array n e)) (he : P.underlying e = some (.int k)) (hc : P.cellsOf e = 1) (h : DataW.trod enc P w 0 sp held fuel t cs = some (.agg ds, p)) {i : Nat} {v : Int} (hi : ds[i]? = some (.lit (.int k v))) :
    cs[i]? = some (.int k v) := by
  obtain ⟨xs, m, rfl, hx, hl, hn, hel⟩ := DataW.trod_array ht h
  simp only [Prod.mk.injEq, DataW.agg.injEq] at hx
  obtain ⟨rfl, _⟩ := hx
  rw [List.getElem?_map, Option.map_eq_some_iff] at hi
  obtain ⟨y, hy, hy1⟩ := hi
  have hin : i < n := by rw [← hn]; exact (List.getElem?_eq_some_iff.1 hy).1
  have h0 := hel i hin
  rw [hy, hc, Nat.mul_one] at h0
  obtain ⟨q, e1, e2, _⟩ := DataW.trod_int he h0
  have e3 : q = v := by
    rw [e2] at hy1
    simpa using hy1
  subst e3
  have := congrArg (·[0]?) e1
  simpa [List.getElem?_take, List.getElem?_drop] using this
theorem gWan : Tryd.prog.globalNamed "spoondrift/rev.wants" = some 2 := by kernel_rfl
theorem tWan : (Tryd.prog.globals[2]?).map (·.type) = some 108 := by kernel_rfl
theorem u108 : Tryd.prog.underlying 108 = some (.array 8 3) := by kernel_rfl
def wanL : List Nat := [0, 0, 1, 2, 2, 2, 0, 0]
def laid1 : List (String × DataW Unit) := [("spoondrift/rev.classical", Rows.laid_spoondrift_rev_classical), ("spoondrift/rev.wants", Rows.laid_spoondrift_rev_wants)]
theorem wan_data : (Rows.laid_spoondrift_rev_wants : DataW Unit) = .agg (wanL.map fun x => .lit (.int .i64 (Int.ofNat x))) := by rfl
theorem of_laid0 {w : World} (h : laidMetH Tryd.prog laid1 w) : ∃ c t fz b es clk, w.heap[1]? = some (.cells c t fz) ∧ c[0]? = some (.map (some b)) ∧ w.heap[b]? = some (.map es clk) ∧ (∀ x ∈ es.toList, IsKind x.key x.val) ∧ ∀ k, (k = 1 ∨ k = 9 ∨ k = 12) → ∃ x ∈ es.toList, x.key = .int .i64 k :=
  open_kinds (h.funcs (n := "spoondrift/rev.classical") (by rw [← cla_data]; simp [laid1]))
theorem of_laid {w : World} (h : laidMetH Tryd.prog laid1 w) : ∃ c t fz, w.heap[2]? = some (.cells c t fz) ∧ ∀ (i x : Nat), wanL[i]? = some x → c[i]? = some (Value.int .i64 (Int.ofNat x)) := by
  have h1 : laidMet Tryd.prog [("spoondrift/rev.wants", Rows.laid_spoondrift_rev_wants)] w := by
    have e1 : laid1.filter (fun x => x.2.handleName?.isSome) = [("spoondrift/rev.classical", Rows.laid_spoondrift_rev_classical)] := by rfl
    have e2 : laid1.filter (fun x => x.2.handleName?.isNone) = [("spoondrift/rev.wants", Rows.laid_spoondrift_rev_wants)] := by rfl
    unfold laidMetH at h
    rw [e1, e2] at h
    exact h.1
  obtain ⟨ps, ⟨g1, t1, cs1, f1, p1, q1, hg1, ht1, hv1, hd1, _, _⟩, _, _⟩ := h1
  obtain rfl := Option.some.inj (gWan.symm.trans hg1)
  obtain rfl := Option.some.inj (tWan.symm.trans ht1)
  obtain ⟨ty, fz, hb⟩ := var_block hg1 hv1
  refine ⟨cs1, ty, fz, hb, fun i x hx => ?_⟩
  rw [wan_data] at hd1
  have := open_nums (i := i) (v := Int.ofNat x) u108 u3 hc3 hd1 (by rw [List.getElem?_map, hx]; rfl)
  simpa using this
end Go.AM

/-! ### F51 -/
namespace Go.AM
open Go.Proofs Go.Proofs.YtdokoekgdeebpaaDoor Go.RowKit
set_option maxRecDepth 100000
set_option linter.unusedVariables false
/-- An argument's block: where it lies, and its abstract cells (each stands for the machine's cell at the same place), or the entries of a map. -/
structure Arg0 where
  blk : Nat
  off : Nat
  cap : Nat
  cs : Array Value
  es : Option (List (Value × Value))
def arg0 : Arg0 := ⟨0, 0, 0, #[], none⟩
def Arg0.obj (a : Arg0) : AObj := match a.es with
  | none => .cells false a.cs
  | some es => .map false es
theorem Arg0.obj_rw (a : Arg0) : a.obj.rw = false := by
  unfold Arg0.obj; split <;> rfl
def wanCs : Array Value := #[nv 0, nv 0, nv 1, nv 2, nv 2, nv 2, nv 0, nv 0]
def mem0 (A : List Arg0) : Mem := (AObj.dead :: AObj.cells false #[.map (some 3)] :: AObj.cells false wanCs :: A.map Arg0.obj).toArray
def beta0 (A : List Arg0) : Beta where
  blk i := if i < 3 then i else (A.getD (i - 3) arg0).blk
  sh i := if i < 3 then 0 else (A.getD (i - 3) arg0).off
  cap i := if i < 3 then 1000000 else (A.getD (i - 3) arg0).off + max (A.getD (i - 3) arg0).cs.size (A.getD (i - 3) arg0).cap
/-- What is known of an argument's cells, all arguments' places being known. -/
def Arg0.ok (W : World) (A : List Arg0) (a : Arg0) : Prop :=
  (a.es = none → ∃ c t fz, W.heap[a.blk]? = some (.cells c t fz) ∧ ∀ (i : Nat) v, a.cs[i]? = some v → ∃ v', c[a.off + i]? = some v' ∧ VRel (beta0 A) (3 + A.length) v v') ∧
  ∀ es, a.es = some es → ∃ es' clk, W.heap[a.blk]? = some (.map es' clk) ∧ es'.size = es.length ∧ ∀ (i : Nat) x e', es[i]? = some x → es'[i]? = some e' → VRel (beta0 A) (3 + A.length) x.1 e'.key ∧ VRel (beta0 A) (3 + A.length) x.2 e'.val
theorem mem0_size (A : List Arg0) : (mem0 A).size = 3 + A.length := by simp [mem0]; omega
theorem mem0_get (A : List Arg0) (i : Nat) : Mem.get (mem0 A) i = if i = 0 then .dead else if i = 1 then .cells false #[.map (some 3)] else if i = 2 then .cells false wanCs else if h : i - 3 < A.length then (A[i - 3]).obj else .dead := by
  unfold Mem.get mem0
  rw [Array.getD_eq_getD_getElem?, List.getElem?_toArray]
  match i with
  | 0 => rfl
  | 1 => rfl
  | 2 => rfl
  | i + 3 =>
    rw [if_neg (by omega), if_neg (by omega), if_neg (by omega)]
    simp only [List.getElem?_cons_succ, Nat.add_sub_cancel, List.getElem?_map]
    by_cases h : i < A.length
    · rw [dif_pos h, List.getElem?_eq_getElem h]; rfl
    · rw [dif_neg h, List.getElem?_eq_none (by omega)]; rfl
theorem globW0 (A : List Arg0) : GlobW (mem0 A) := ⟨false, by rw [mem0_get]; rfl⟩
/-- The table of kinds: its block, its entries. -/
structure Kinds (W : World) (a : Arg0) : Prop where
  glob : ∃ c t fz, W.heap[1]? = some (.cells c t fz) ∧ c[0]? = some (.map (some a.blk))
  es : ∃ es, a.es = some es ∧ (∀ x ∈ es, IsKind x.1 x.2) ∧ ∀ k, (k = 1 ∨ k = 9 ∨ k = 12) → ∃ x ∈ es, x.1 = .int .i64 k
  ok : ∀ A, a.ok W A
theorem flat_kind {β : Beta} {N : Nat} {c : Int} {q : FuncId} : VRel β N (.agg #[.int .i64 c, .func (.func q) #[] #[]]) (.agg #[.int .i64 c, .func (.func q) #[] #[]]) := by
  refine .agg _ _ rfl fun i v v' h h' => ?_
  match i with
  | 0 => simp at h h'; subst h h'; exact .int _ _
  | 1 => simp at h h'; subst h h'; exact .func _ _ _ _ _ rfl (fun i v v' h => by simp at h) rfl (fun i v v' h => by simp at h)
  | i + 2 => simp at h
theorem kinds_ex {W : World} (hL : laidMetH Tryd.prog laid1 W) : ∃ a, Kinds W a := by
  obtain ⟨c, t, fz, b, es, clk, h0, h1, h2, h3, h4⟩ := of_laid0 hL
  refine ⟨⟨b, 0, 0, #[], some (es.toList.map fun x => (x.key, x.val))⟩, ⟨c, t, fz, h0, h1⟩, ⟨_, rfl, fun x hx => ?_, fun k hk => ?_⟩, fun A => ⟨fun h => (by cases h), fun es2 he => ?_⟩⟩
  · obtain ⟨y, hy, rfl⟩ := List.mem_map.1 hx
    exact h3 y hy
  · obtain ⟨y, hy, e⟩ := h4 k hk
    exact ⟨_, List.mem_map.2 ⟨y, hy, rfl⟩, e⟩
  · cases he
    refine ⟨es, clk, h2, by simp, fun i x e' hx he' => ?_⟩
    rw [List.getElem?_map, Array.getElem?_toList, he'] at hx
    cases hx
    have := h3 e' (by rw [← Array.mem_def]; exact Array.mem_of_getElem? he')
    rcases this with ⟨e1, e2⟩ | ⟨e1, e2⟩ | ⟨e1, e2⟩ | ⟨e1, e2⟩ <;> (simp only [e1, e2]; exact ⟨.int _ _, flat_kind⟩)
theorem sameI (a b : Int) : Instr.sameNow (.int .i64) (.int .i64 a) (.int .i64 b) = some (decide (a = b)) := by
  by_cases h : a = b
  · subst h; simp [Instr.sameNow]
  · simp [Instr.sameNow, h]
theorem find_kind {k : Nat} (hk : k = 1 ∨ k = 9 ∨ k = 12) : ∀ {es : List (Value × Value)} (i : Nat), (∀ x ∈ es, IsKind x.1 x.2) → (∃ x ∈ es, x.1 = .int .i64 (Int.ofNat k)) → ∃ j c, aFindNow (.int .i64) (nv k) es i = some (some (j, .agg #[nv c, .func (.func 76) #[] #[]]))
  | [], i, _, ⟨x, hx, _⟩ => by cases hx
  | e :: es, i, h1, h2 => by
    have hk1 := h1 e (by simp)
    obtain ⟨z, hz⟩ : ∃ z, e.1 = .int .i64 z := by rcases hk1 with h | h | h | h <;> exact ⟨_, h.1⟩
    rw [aFindNow, hz, nv, sameI]
    by_cases e1 : Int.ofNat k = z
    · subst e1
      rw [decide_eq_true rfl]
      rcases hk1 with ⟨a, b⟩ | ⟨a, b⟩ | ⟨a, b⟩ | ⟨a, b⟩
      · exact ⟨i, 0, by rw [b]; rfl⟩
      · exact ⟨i, 1, by rw [b]; rfl⟩
      · rw [hz] at a
        have := (Value.int.inj a).2
        simp at this; omega
      · exact ⟨i, 2, by rw [b]; rfl⟩
    · rw [decide_eq_false e1]
      refine find_kind hk (i + 1) (fun x hx => h1 x (by simp [hx])) ?_
      obtain ⟨x, hx, e2⟩ := h2
      rcases List.mem_cons.1 hx with rfl | hx
      · rw [hz] at e2; exact absurd (Value.int.inj e2).2.symm e1
      · exact ⟨x, hx, e2⟩
theorem globC0 {W : World} {a : Arg0} (h : Kinds W a) {A : List Arg0} (hA : A[0]? = some a) : GlobC (mem0 A) := by
  obtain ⟨es, he, h1, h2⟩ := h.es
  obtain ⟨hl, e0⟩ := List.getElem?_eq_some_iff.1 hA
  refine ⟨false, 3, false, es, by rw [mem0_get]; rfl, ?_, fun k hk => find_kind hk 0 h1 ?_⟩
  · rw [mem0_get, if_neg (by omega), if_neg (by omega), if_neg (by omega), dif_pos (by omega)]
    rw [show A[3 - 3] = a from e0, Arg0.obj, he]
  · exact h2 (Int.ofNat k) (by rcases hk with rfl | rfl | rfl <;> simp)
theorem rel0 {W : World} (hL : laidMetH Tryd.prog laid1 W) {A : List Arg0} {a0 : Arg0} (hK : Kinds W a0) (hA0 : A[0]? = some a0) (hA : ∀ a ∈ A, a.ok W A) : Rel Tryd.prog (beta0 A) (mem0 A) W := by
  obtain ⟨c, t, fz, h0, hc0⟩ := of_laid hL
  obtain ⟨ck, tk, fk, k0, k1⟩ := hK.glob
  obtain ⟨hl0, e0⟩ := List.getElem?_eq_some_iff.1 hA0
  refine ⟨by rw [mem0_size, gSize]; omega, fun g hg => ?_, fun i hi => ?_, fun i j _ hr _ => ?_⟩
  · rw [gSize] at hg
    exact ⟨if_pos hg, if_pos hg⟩
  · rw [mem0_get] at hi ⊢
    by_cases ez : i = 0
    · rw [if_pos ez] at hi; cases hi
    rw [if_neg ez] at hi ⊢
    by_cases ei : i = 1
    · subst ei
      rw [if_pos rfl] at hi ⊢
      refine ⟨_, k0, ck, tk, fk, rfl, by simp [beta0], fun j v hj => ?_, fun h => by cases h⟩
      match j with
      | 0 =>
        simp at hj; subst hj
        refine ⟨_, by simpa [beta0] using k1, ?_⟩
        have hb : (beta0 A).blk 3 = a0.blk := by
          simp only [beta0]; rw [if_neg (by omega), List.getD_eq_getElem?_getD, hA0]; rfl
        rw [← hb]
        exact .map _ (by rw [mem0_size]; omega)
      | j + 1 => simp at hj
    rw [if_neg ei] at hi ⊢
    by_cases e1 : i = 2
    · subst e1
      rw [if_pos rfl] at hi ⊢
      refine ⟨_, h0, c, t, fz, rfl, by simp [beta0, wanCs], fun j v hj => ?_, fun h => by cases h⟩
      have hj8 := (Array.getElem?_eq_some_iff.1 hj).1
      have hj8' : j < 8 := hj8
      obtain ⟨x, hx⟩ : ∃ x, wanL[j]? = some x := ⟨_, List.getElem?_eq_getElem hj8'⟩
      have hv : v = nv x := by
        have hall : ∀ j < 8, wanCs[j]? = (wanL[j]?).map fun x => nv x := by
          intro j hj
          match j, hj with
          | 0, _ => rfl
          | 1, _ => rfl
          | 2, _ => rfl
          | 3, _ => rfl
          | 4, _ => rfl
          | 5, _ => rfl
          | 6, _ => rfl
          | 7, _ => rfl
        rw [hall j hj8', hx] at hj
        exact (Option.some.inj hj).symm
      subst hv
      exact ⟨_, by simpa [beta0] using hc0 j x hx, .int _ _⟩
    rw [if_neg e1] at hi ⊢
    by_cases e4 : i - 3 < A.length
    · rw [dif_pos e4] at hi ⊢
      obtain ⟨o1, o2⟩ := hA _ (List.getElem_mem e4)
      have hb : (beta0 A).blk i = (A[i - 3]).blk := by
        simp only [beta0]; rw [if_neg (by omega), List.getD_eq_getElem?_getD, List.getElem?_eq_getElem e4]; rfl
      have hsh : (beta0 A).sh i = (A[i - 3]).off := by
        simp only [beta0]; rw [if_neg (by omega), List.getD_eq_getElem?_getD, List.getElem?_eq_getElem e4]; rfl
      have hcp : (beta0 A).cap i = (A[i - 3]).off + max (A[i - 3]).cs.size (A[i - 3]).cap := by
        simp only [beta0]; rw [if_neg (by omega), List.getD_eq_getElem?_getD, List.getElem?_eq_getElem e4]; rfl
      cases hes : (A[i - 3]).es with
      | none =>
        obtain ⟨c, t, fz, g1, g2⟩ := o1 hes
        rw [Arg0.obj, hes]
        refine ⟨_, by rw [hb]; exact g1, c, t, fz, rfl, by rw [hsh, hcp]; omega, fun j v hj => ?_, fun h => by cases h⟩
        obtain ⟨v', q1, q2⟩ := g2 j v hj
        exact ⟨v', by rw [hsh]; exact q1, by rw [mem0_size]; exact q2⟩
      | some es =>
        obtain ⟨es', clk, g1, g2, g3⟩ := o2 es hes
        rw [Arg0.obj, hes]
        exact ⟨_, by rw [hb]; exact g1, es', clk, rfl, g2, fun i x e' hx he => by rw [mem0_size]; exact g3 i x e' hx he, fun h => by cases h⟩
    · rw [dif_neg e4] at hi; cases hi
  · rw [mem0_get] at hr
    split at hr
    · cases hr
    split at hr
    · cases hr
    split at hr
    · cases hr
    split at hr
    · rw [Arg0.obj_rw] at hr; cases hr
    · cases hr
theorem arel_nil {β : Beta} {N : Nat} : ARel β N #[] #[] := ⟨rfl, fun i v v' h => by simp at h⟩
theorem arel_cons {β : Beta} {N : Nat} {v v' : Value} {l l' : List Value} (hv : VRel β N v v') (h : ARel β N l.toArray l'.toArray) : ARel β N (v :: l).toArray (v' :: l').toArray := by
  refine ⟨by have := h.1; simp at this ⊢; exact this, fun i x x' h1 h2 => ?_⟩
  cases i with
  | zero => simp at h1 h2; subst h1 h2; exact hv
  | succ i => exact h.2 i x x' (by simpa using h1) (by simpa using h2)
/-- From the abstract call to the machine's. -/
theorem entry {f : FuncId} {args args' : Array Value} {W : World} {A : List Arg0} (hL : laidMetH Tryd.prog laid1 W) {a0 : Arg0} (hK : Kinds W a0) (hA0 : A[0]? = some a0) (hA : ∀ a ∈ A, a.ok W A)
    (hargs : ARel (beta0 A) (3 + A.length) args args') (hc : ∃ v m', ACalls Tryd.prog f args (mem0 A) v m' ∧ v = .bool true) :
    Calls Tryd.prog f args' W fun e W' => e = .returned (.bool true) ∧ Below W.heap.size W W' := by
  have hR := rel0 hL hK hA0 hA
  obtain ⟨v, m', hcall, rfl⟩ := hc
  refine (hcall.2 _ W args' hR (by rw [mem0_size]; exact hargs)).mono ?_
  rintro e W' ⟨v', rfl, β', hv, _, hS⟩
  cases hv
  refine ⟨rfl, hS.os, hS.tape, hS.output, hS.wsz, fun k hk => hS.keep k hk fun i hi => ?_⟩
  rw [mem0_get] at hi
  split at hi
  · cases hi
  split at hi
  · cases hi
  split at hi
  · cases hi
  split at hi
  · rw [Arg0.obj_rw] at hi; cases hi
  · cases hi
end Go.AM

/-! ### F52 -/
namespace Go.AM
open Go Go.Proofs Go.Proofs.YtdokoekgdeebpaaDoor Go.RowKit Go.ChangeShapes Go.WideShapes
set_option maxRecDepth 100000
set_option linter.unusedVariables false
/-- A slice of whole numbers of a kind, readable. -/
def KAt (k : IntKind) (m : Mem) (v : Value) (l : List Int) : Prop :=
  (l = [] ∧ (v = .slice none 0 0 ∨ ∃ b o, v = .slice (some ⟨b, o, none⟩) 0 0)) ∨
  ∃ b o cap r c, v = .slice (some ⟨b, o, some 1⟩) l.length cap ∧ l.length ≤ cap ∧ Mem.get m b = .cells r c ∧ ∀ i x, l[i]? = some x → c[o + i]? = some (.int k x)
theorem KAt.ints {m : Mem} {v : Value} {l : List Int} (h : KAt .i64 m v l) : IntsAt m v l := by
  rcases h with h | ⟨b, o, cap, r, c, h1, _, h2, h3⟩
  · exact .inl h
  · exact .inr ⟨b, o, cap, r, c, h1, h2, h3⟩
theorem KAt.bytes {m : Mem} {v : Value} {l : List Int} (h : KAt .u8 m v l) : BytesAt m v l := h
theorem cell_heap {W : World} {a : Addr} {v : Value} (h : W.cell? a = some v) : a.spot = none ∧ ∃ c t fz, W.heap[a.block]? = some (.cells c t fz) ∧ c[a.off]? = some v := by
  unfold World.cell? at h
  split at h
  · rename_i c t fz e
    split at h
    · cases h
    · rename_i hs
      exact ⟨by simpa using hs, c, t, fz, e, h⟩
  · cases h
theorem add_block (a : Addr) (n : Nat) : (a.add n).block = a.block := by unfold Addr.add; split <;> rfl
theorem add0 (a : Addr) : a.add 0 = a := if_pos rfl
theorem add_off {a : Addr} {n : Nat} (h : a.spot = none) : (a.add n).off = a.off + n := by
  unfold Addr.add
  split <;> simp_all
theorem mem0_arg {A : List Arg0} {i : Nat} {a : Arg0} (h : A[i]? = some a) (hn : a.es = none) : Mem.get (mem0 A) (3 + i) = .cells false a.cs := by
  obtain ⟨hi, e⟩ := List.getElem?_eq_some_iff.1 h
  rw [mem0_get, if_neg (by omega), if_neg (by omega), if_neg (by omega), dif_pos (by omega)]
  simp only [Nat.add_sub_cancel_left, e, Arg0.obj, hn]
theorem beta0_arg {A : List Arg0} {i : Nat} {a : Arg0} (h : A[i]? = some a) : (beta0 A).blk (3 + i) = a.blk ∧ (beta0 A).sh (3 + i) = a.off ∧ (beta0 A).cap (3 + i) = a.off + max a.cs.size a.cap := by
  have e : A.getD (3 + i - 3) arg0 = a := by rw [Nat.add_sub_cancel_left, List.getD_eq_getElem?_getD, h]; rfl
  refine ⟨?_, ?_, ?_⟩
  · simp only [beta0]; rw [if_neg (by omega), e]
  · simp only [beta0]; rw [if_neg (by omega), e]
  · simp only [beta0]; rw [if_neg (by omega), e]
/-- The blocks of an argument lie from a place on. -/
def PartAt (A : List Arg0) (pos : Nat) (B : List Arg0) : Prop := ∀ (j : Nat) a, B[j]? = some a → A[pos + j]? = some a
theorem part_left {X Y B : List Arg0} {pos : Nat} (h : PartAt X pos B) : PartAt (X ++ Y) pos B := fun j a hj => by
  have := h j a hj
  rw [List.getElem?_append_left (List.getElem?_eq_some_iff.1 this).1]; exact this
theorem part_right {X Y : List Arg0} {pos : Nat} (h : X.length = pos) : PartAt (X ++ Y) pos Y := fun j a hj => by
  subst h
  rw [List.getElem?_append_right (by omega), Nat.add_sub_cancel_left]; exact hj
/-- A slice of whole numbers that is read: its block, what it holds, its abstract value by the place of its block. -/
structure RowP (W : World) (k : IntKind) (s : Value) where
  a : Arg0
  l : List Int
  f : Nat → Value
  ok : ∀ A : List Arg0, a.ok W A
  wf : ∀ n ∈ l, (Lit.int k n).wf = true
  rel : ∀ (A : List Arg0) (i : Nat), A[i]? = some a → KAt k (mem0 A) (f i) l ∧ VRel (beta0 A) (3 + A.length) (f i) s
theorem ok0 {W : World} (hL : laidMetH Tryd.prog laid1 W) (A : List Arg0) : Arg0.ok W A ⟨1, 0, 0, #[], none⟩ := by
  obtain ⟨c0, t0, fz0, _, _, _, h0, _⟩ := of_laid0 hL
  exact ⟨fun _ => ⟨c0, t0, fz0, h0, fun i v h => by simp at h⟩, fun es h => by cases h⟩
theorem row_of {H : Type} {enc : TypeId × Value → H} {W : World} {k : IntKind} {t e : TypeId} {s : Value} {fuel : Nat} {x : DataW H × List MemPlace} (hL : laidMetH Tryd.prog laid1 W)
    (ht : Tryd.prog.underlying t = some (.slice e)) (he : Tryd.prog.underlying e = some (.int k)) (hc : Tryd.prog.cellsOf e = 1)
    (hd : DataW.trod enc Tryd.prog W 0 (fun _ => true) true fuel t [s] = some x) : Nonempty (RowP W k s) := by
  rcases open_ints ht he hc hd with ⟨hcs, _⟩ | ⟨x, ln, cp, zs, hcs, _, hl, hm, hz, _, hcell, hwz⟩
  · simp at hcs
    subst hcs
    exact ⟨⟨_, [], fun _ => .slice none 0 0, ok0 hL, by simp, fun A i _ => ⟨.inl ⟨rfl, .inl rfl⟩, .sliceNil⟩⟩⟩
  · simp at hcs
    subst hcs
    rw [if_pos rfl] at hz
    by_cases h0 : ln = 0
    · subst h0
      exact ⟨⟨_, [], fun _ => .slice (some ⟨0, 0, none⟩) 0 0, ok0 hL, by simp, fun A i _ => ⟨.inl ⟨rfl, .inr ⟨_, _, rfl⟩⟩, .lost _ _ _ trivial⟩⟩⟩
    · obtain ⟨hsp, c, t1, fz, hh, _⟩ := cell_heap (hcell 0 (by omega))
      rw [add0] at hsp
      rw [add_block] at hh
      have hcs : ∀ j, j < ln → c[x.off + j]? = some (.int k (zs.getD j 0)) := fun j hj => by
        obtain ⟨_, c', t2, fz2, h2, h3⟩ := cell_heap (hcell j (by omega))
        rw [add_block, hh] at h2
        obtain ⟨rfl, rfl, rfl⟩ : c = c' ∧ t1 = t2 ∧ fz = fz2 := by injection h2 with h2; injection h2 with a b c; exact ⟨a, b, c⟩
        rwa [add_off hsp] at h3
      have hlz : (zs.take ln).length = ln := by rw [List.length_take]; omega
      refine ⟨⟨⟨x.block, x.off, cp, ((zs.take ln).map fun n => Value.int k n).toArray, none⟩, zs.take ln, fun i => .slice (some ⟨3 + i, 0, some 1⟩) ln cp, fun A => ⟨fun _ => ⟨c, t1, fz, hh, fun j y hy => ?_⟩, fun es h => by cases h⟩, fun n hn => hwz n (List.mem_of_mem_take hn), fun A i hA => ⟨?_, ?_⟩⟩⟩
      · simp only [List.getElem?_toArray, List.getElem?_map, Option.map_eq_some_iff] at hy
        obtain ⟨n, hn, rfl⟩ := hy
        rw [List.getElem?_take] at hn
        split at hn
        · refine ⟨_, ?_, .int _ _⟩
          rw [hcs j (by assumption), List.getD_eq_getElem?_getD, hn]; rfl
        · cases hn
      · refine .inr ⟨3 + i, 0, cp, false, _, by rw [hlz], by rw [hlz]; exact hl, mem0_arg hA rfl, fun j n hn => ?_⟩
        simp only [List.getElem?_toArray, List.getElem?_map, hn, Option.map_some, Nat.zero_add]
      · obtain ⟨e1, e2, e3⟩ := beta0_arg hA
        have hi := (List.getElem?_eq_some_iff.1 hA).1
        have := VRel.slice (β := beta0 A) (N := 3 + A.length) (3 + i) 0 1 ln cp cp (by omega) (by omega) hl (Nat.le_refl _) (by rw [e2, e3]; simp only; omega) (by unfold maxLen at hm; omega)
        rw [e1, e2] at this
        obtain ⟨xb, xo, xs⟩ := x
        obtain rfl : xs = none := hsp
        exact this
/-- An argument that is a slice of whole numbers. -/
theorem ints_arg {H : Type} {enc : TypeId × Value → H} {W : World} {k : IntKind} {t e : TypeId} {r : Reach} {base : Nat} {v : Value} {d : DataW H} {p : List MemPlace} (hL : laidMetH Tryd.prog laid1 W)
    (ht : Tryd.prog.underlying t = some (.slice e)) (he : Tryd.prog.underlying e = some (.int k)) (hc : Tryd.prog.cellsOf e = 1)
    (hval : Value.okWide Tryd.prog W r base t v) (hd : DataW.Trod enc Tryd.prog W 0 (fun _ => true) true t v d p) :
    ∃ (L : Nat) (B : Nat → List Arg0) (l : List Int) (f : Nat → Value), (∀ pos, (B pos).length = L) ∧ (∀ n ∈ l, (Lit.int k n).wf = true) ∧
      ∀ (A : List Arg0) (pos : Nat), PartAt A pos (B pos) → (∀ a ∈ B pos, a.ok W A) ∧ KAt k (mem0 A) (f pos) l ∧ VRel (beta0 A) (3 + A.length) (f pos) v := by
  obtain ⟨q, len, cap, rfl⟩ := okWide_slice ht hval
  obtain ⟨fuel, hf⟩ := hd
  obtain ⟨R⟩ := row_of hL ht he hc hf
  refine ⟨1, fun _ => [R.a], R.l, R.f, fun _ => rfl, R.wf, fun A pos hp => ⟨fun a ha => ?_, R.rel A pos (hp 0 _ rfl)⟩⟩
  rw [List.mem_singleton.1 ha]; exact R.ok A
theorem u72 : Tryd.prog.underlying 72 = some (.slice 5) := by kernel_rfl
theorem c3 : Tryd.prog.cellsOf 3 = 1 := by kernel_rfl
theorem c5 : Tryd.prog.cellsOf 5 = 1 := by kernel_rfl
theorem laidOut : laidOutB Tryd.prog = true := by kernel_rfl
theorem u8_nat {n : Int} (h : (Lit.int .u8 n).wf = true) : ∃ c : Nat, c < 256 ∧ n = Int.ofNat c := by
  have h' : 0 ≤ n ∧ n < 256 := by
    simp [Lit.wf, IntKind.min, IntKind.max, IntKind.signed, IntKind.bits] at h
    omega
  exact ⟨n.toNat, by omega, by simp; omega⟩
end Go.AM
namespace Go.AM
end Go.AM
