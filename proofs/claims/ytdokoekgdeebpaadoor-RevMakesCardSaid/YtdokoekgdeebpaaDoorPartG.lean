/- Part 7 of the proof: Plain laws, and contracts of the program's functions. -/
import Derived.Test.YtdokoekgdeebpaaDoorPartF
import Derived.WideKeyElems2
import Derived.ChangeMaps
import Derived.Test.YtdokoekgdeebpaaDoorRows
import Derived.ProofKit
import Derived.LaidMore
import Derived.LaidHandle
import Derived.OpenShut
import Derived.Stop.Joined
import Derived.Below
import Derived.Carry
import Derived.ChangeSlices
import Derived.WideShapes
set_option linter.unusedVariables false
set_option linter.unusedSimpArgs false
/-! ### R31 -/
namespace Go.AM
open Go.Proofs
set_option maxRecDepth 100000
set_option linter.unusedVariables false
set_option linter.unusedSimpArgs false
theorem awT : rtabM 2 [(9, [0, 1])] = [0, 3, 2, 1] := by decide +kernel
theorem awA : runM [(12, [0, 1, 2])] 3 = 7 := by decide +kernel
theorem awC : circP (ofs [0, 2, 1, 3]) = [(9, [1, 0]), (9, [0, 1]), (9, [1, 0])] := by decide +kernel
theorem awY : cyclesP (ofs [0, 2, 1, 3]) = [[1, 2]] := by decide +kernel
theorem awEv : evenP (ofs [0, 2, 1, 3]) = false := by decide +kernel
theorem awWE : wideE (ofs [0, 2, 1, 3]) = 0 := by decide +kernel
theorem awWN : wideN (ofs [0, 2, 1, 3]) = 2 := by decide +kernel
theorem awCn : countV 3 2 = 102 ∧ countE 3 2 = 0 := by decide +kernel
theorem awS2 : shortE (ofs [0, 2, 1, 3]) 2 = 6 := by decide +kernel
theorem awS2n : shortN (ofs [0, 2, 1, 3]) 2 = 0 := by decide +kernel
theorem awS3 : shortE (ofs [0, 2, 1, 3]) 3 = 0 := by decide +kernel
theorem awS3n : shortN (ofs [0, 2, 1, 3]) 3 = 2 := by decide +kernel
theorem awS3l : (shortP (ofs [0, 2, 1, 3]) 3).length = 3 := by decide +kernel
theorem awF1n : foundN 2 (cleanS [(9, [0, 1])] (posM [1])) = 1 := by decide +kernel
theorem awF1e : foundE 2 (cleanS [(9, [0, 1])] (posM [1])) = 0 := by decide +kernel
theorem awF2n : foundN 2 (borrS [(9, [0, 1])] (posM [0])) = 1 := by decide +kernel
theorem awF2e : foundE 2 (borrS [(9, [0, 1])] (posM [0])) = 0 := by decide +kernel
theorem awF3n : foundN 2 (borrS [(9, [0, 1]), (9, [0, 1])] (posM [0])) = 0 := by decide +kernel
theorem awF3e : foundE 2 (borrS [(9, [0, 1]), (9, [0, 1])] (posM [0])) = 6 := by decide +kernel
def orX : BX := .mk 5 0 [.mk 1 0 [], .mk 1 1 []]
theorem awPE : cpE 2 2 orX = 0 := by decide +kernel
theorem awPN : cpN 2 2 orX = 5 := by decide +kernel
theorem awPG : cpG 2 2 orX = [(9, [0, 3]), (1, [3]), (9, [1, 4]), (1, [4]), (12, [3, 4, 2]), (1, [4]), (9, [1, 4]), (1, [3]), (9, [0, 3]), (1, [2])] := by decide +kernel
theorem c21 : CircOk 2 [(9, [0, 1])] := .of (by decide)
theorem c31 : CircOk 3 [(12, [0, 1, 2])] := .of (by decide)
theorem c174 : CircOk 2 [(9, [0, 1]), (9, [0, 1])] := .of (by decide)
theorem allS {α : Type} {p : α → Prop} {a : α} {l : List α} (hl : ∀ t ∈ l, p t) (h : p a) : ∀ t ∈ l ++ [a], p t := fun t ht => by
  rcases List.mem_append.1 ht with ht | ht
  · exact hl t ht
  · rw [List.mem_singleton.1 ht]; exact h
theorem obl3 {P : Program} {l : List Oper} {log : List Ent} {m' m0 : Mem} {hs : List (Nat × Nat)} {e17 e36 e42 : Ent} {o17 o36 o42 : Oper} (hE : ∀ e ∈ log, Ext m0 e.m) (hE' : Ext m0 m')
    (h17 : log[17]? = some e17) (l17 : l[17]? = some o17) (h36 : log[36]? = some e36) (l36 : l[36]? = some o36) (h42 : log[42]? = some e42) (l42 : l[42]? = some o42)
    (f17 : ∀ M, Ext m0 M → aRead P M (evR e17.ρ) o17.op = some e17.v) (f36 : aPure P (evR e36.ρ) o36.op = some e36.v) (f42 : ∀ M, Ext m0 M → aRead P M (evR e42.ρ) o42.op = some e42.v)
    (hh : ∀ p ∈ hs, p.1 = 17 ∨ p.1 = 36 ∨ p.1 = 42) : obl P ⟨l⟩ log m' hs := by
  refine obl_ext hE hE' fun p hp e o he ho M hM => ?_
  rcases hh p hp with h | h | h <;> rw [h] at he ho
  · rw [h17] at he; rw [l17] at ho; cases he; cases ho; exact .inl (f17 M hM)
  · rw [h36] at he; rw [l36] at ho; cases he; cases ho; exact .inr f36
  · rw [h42] at he; rw [l42] at ho; cases he; cases ho; exact .inl (f42 M hM)
theorem mem_nil {α : Type} {p : α → Prop} : ∀ t ∈ ([] : List α), p t := fun t h => by cases h
theorem mem_cons {α : Type} {p : α → Prop} {a : α} {l : List α} (h : p a) (hl : ∀ t ∈ l, p t) : ∀ t ∈ a :: l, p t := fun t ht => by
  rcases List.mem_cons.1 ht with rfl | ht
  · exact h
  · exact hl t ht
theorem orAt {m : Mem} {b : Nat} (hg : Mem.get m b = .cells true #[nv 1, nv 0, .slice none 0 0, nv 1, nv 1, .slice none 0 0]) : BAt (fun b => b < m.size) m 2 (.agg #[nv 5, nv 0, .slice (some ⟨b, 0, some 3⟩) 2 2]) orX := by
  refine ⟨_, rfl, .inr ⟨b, 0, 2, true, _, rfl, live hg, hg, fun i a hi => ?_⟩⟩
  have h1 := (List.getElem?_eq_some_iff.1 hi).1
  have hi' : i = 0 ∨ i = 1 := by have : orX.args.length = 2 := rfl; omega
  rcases hi' with rfl | rfl
  · obtain rfl : BX.mk 1 0 [] = a := by injection hi
    exact ⟨by simp, _, rfl, .inl ⟨rfl, _, _, rfl⟩⟩
  · obtain rfl : BX.mk 1 1 [] = a := by injection hi
    exact ⟨by simp, _, rfl, .inl ⟨rfl, _, _, rfl⟩⟩
def H14r : Nat → List (Nat × Nat) := fun id => if id = 8 then [(999999, 0), (17, 0), (17, 5), (17, 20), (17, 21), (17, 23), (17, 25), (17, 26), (17, 27), (17, 28), (17, 44), (17, 45), (36, 0), (36, 5), (36, 6), (36, 20), (36, 21), (36, 23), (36, 25), (36, 26), (36, 27), (36, 44), (36, 45), (42, 0), (42, 5), (42, 6), (42, 20), (42, 21), (42, 23), (42, 25), (42, 26), (42, 27), (42, 44), (42, 45)] else []
theorem okf14 : okF Tryd.prog H14r 14 218 = true := by kernel_rfl
set_option maxHeartbeats 8000000 in
theorem spec_awake {m : Mem} (hC : GlobC m) (hW : GlobW m) : ∃ v m', ACalls Tryd.prog 14 #[] m v m' ∧ (v = .bool true ∧ Ext m m') := by
  refine wpF (args := []) mixed okf14 (fn := Tryd.f14) rfl rfl rfl (by simp) ?_
  refine cSeq ?_
  refine cRegion ?_
  refine sAs (v := .bool _) rfl ?_
  refine sNil (kSeqN ?_)
  refine cSeq ?_
  refine cRegion ?_
  refine sRow [0, 1] rfl (by decide) (by kernel_rfl) fun q19 m19 o19 x19 => ?_
  obtain ⟨v20, m20, h20, rfl, x20⟩ := spec_lgate (m := m19) (k := 9) (q := q19) (n := [0, 1].length) (c := [0, 1].length)
  refine sCall2 rfl call69 rfl rfl h20 ?_
  refine sGates [(9, .slice q19 [0, 1].length [0, 1].length, [0, 1])] (mem_cons (o19.ext x20) (mem_nil)) rfl (by decide) (by kernel_rfl) fun q21 m21 cs21 o21 x21 => ?_
  replace o21 : OwnG 0 m21 (.slice q21 1 1) cs21 [(9, [0, 1])] := o21
  obtain ⟨v22, m22, h22, rfl, x22⟩ := spec_lof (m := m21) (k := 2) (q := q21) (n := 1) (c := 1)
  refine sCall2 rfl call68 rfl rfl h22 ?_
  refine sAllocB (bl := m22.size) rfl Z30 (by kernel_rfl) ?_
  refine sStNAB rfl S30 rfl rfl rfl rfl (by kernel_rfl) ?_
  have xs1 : Ext m22 (m22.push (.cells true #[nv 2, nv 0, .slice q21 1 1])) := .push _ _
  have gs1 : Mem.get (m22.push (.cells true #[nv 2, nv 0, .slice q21 1 1])) m22.size = .cells true #[nv 2, nv 0, .slice q21 1 1] := gP rfl
  generalize m22.push (.cells true #[nv 2, nv 0, .slice q21 1 1]) = ms1 at *
  refine sNil (kSeqN ?_)
  refine cSeq ?_
  refine cRegion ?_
  refine sLdAll A30 S30 rfl gs1 rfl ?_
  obtain ⟨v25, m25, h25, w25, rfl, o25, x25⟩ := spec_Table (hC.ext ((((x19.trans x20).trans x21).trans x22).trans xs1)) (o21.ext (x22.trans xs1)) c21
  rw [awT] at o25
  replace o25 := o25.mono (Nat.zero_le _)
  obtain ⟨q25, c25, rfl⟩ := o25.ints.lenN
  refine sCall1 rfl call41 rfl h25 ?_
  refine sMv (v := .tuple _) rfl ?_
  refine sP (v := .slice _ _ _) rfl ?_   -- extract ['t23', '0']
  refine sP (v := nv _) rfl ?_   -- extract ['t23', '1']
  refine sAs (v := .slice _ _ _) rfl ?_
  refine sAs (v := nv _) rfl ?_
  refine sNil (kSeqN ?_)
  refine cSeq ?_
  refine cRegion ?_
  refine sRow [0, 1, 2] rfl (by decide) (by kernel_rfl) fun q29 m29 o29 x29 => ?_
  obtain ⟨v30, m30, h30, rfl, x30⟩ := spec_lgate (m := m29) (k := 12) (q := q29) (n := [0, 1, 2].length) (c := [0, 1, 2].length)
  refine sCall2 rfl call69 rfl rfl h30 ?_
  refine sGates [(12, .slice q29 [0, 1, 2].length [0, 1, 2].length, [0, 1, 2])] (mem_cons (o29.ext x30) (mem_nil)) rfl (by decide) (by kernel_rfl) fun q31 m31 cs31 o31 x31 => ?_
  replace o31 : OwnG 0 m31 (.slice q31 1 1) cs31 [(12, [0, 1, 2])] := o31
  obtain ⟨v32, m32, h32, rfl, x32⟩ := spec_lof (m := m31) (k := 3) (q := q31) (n := 1) (c := 1)
  refine sCall2 rfl call68 rfl rfl h32 ?_
  obtain ⟨v33, m33, h33, rfl, x33⟩ := spec_Apply (hC.ext (((((((((x19.trans x20).trans x21).trans x22).trans xs1).trans x25).trans x29).trans x30).trans x31).trans x32)) (o31.ext x32) c31 (x := 3) (by decide)
  rw [awA] at h33
  refine sCall2 rfl call39 rfl rfl h33 ?_
  refine sMv (v := .tuple _) rfl ?_
  refine sP (v := nv _) rfl ?_   -- extract ['t28', '0']
  refine sP (v := nv _) rfl ?_   -- extract ['t28', '1']
  refine sAs (v := nv _) rfl ?_
  refine sAs (v := nv _) rfl ?_
  refine sNil (kSeqN ?_)
  refine cSeq ?_
  refine cRegion ?_
  refine sRow [0, 2, 1, 3] rfl (by decide) (by kernel_rfl) fun q37 m37 o37 x37 => ?_
  obtain ⟨v38, m38, h38, s38, cs38, rfl, o38, x38⟩ := spec_Circuit (p := (ofs [0, 2, 1, 3])) o37.ints (by decide)
  rw [awWE, awWN] at h38
  rw [awC] at o38
  replace o38 := o38.mono (Nat.zero_le _)
  obtain ⟨q38, c38, rfl⟩ := o38.1.len
  refine sCall1 rfl call18 rfl h38 ?_
  refine sMv (v := .tuple _) rfl ?_
  refine sP (v := .agg _) rfl ?_   -- extract ['t36', '0']
  refine sP (v := nv _) rfl ?_   -- extract ['t36', '1']
  refine sAllocB (bl := m38.size) rfl Z30 (by kernel_rfl) ?_
  refine sStNAB rfl S30 rfl rfl rfl rfl (by kernel_rfl) ?_
  have xs6 : Ext m38 (m38.push (.cells true #[nv 2, nv 0, .slice q38 3 c38])) := .push _ _
  have gs6 : Mem.get (m38.push (.cells true #[nv 2, nv 0, .slice q38 3 c38])) m38.size = .cells true #[nv 2, nv 0, .slice q38 3 c38] := gP rfl
  generalize m38.push (.cells true #[nv 2, nv 0, .slice q38 3 c38]) = ms6 at *
  refine sAs (v := nv _) rfl ?_
  refine sNil (kSeqN ?_)
  refine cSeq ?_
  refine cRegion ?_
  refine sRow [0, 2, 1, 3] rfl (by decide) (by kernel_rfl) fun q42 m42 o42 x42 => ?_
  obtain ⟨v43, m43, h43, w43, cs43, rfl, o43, x43⟩ := spec_Cycles (p := (ofs [0, 2, 1, 3])) o42.ints (by decide)
  rw [awWE] at h43
  rw [awY] at o43
  have r43 := o43.rows
  obtain ⟨b43, oo43, cp43, rr43, cd43, ee43, g43, xx43⟩ := r43.at (by decide)
  obtain ⟨s43, hs43, ha43⟩ := xx43 0 (ofs [1, 2]) rfl
  obtain ⟨q43, c43, rfl⟩ := ha43.lenN
  subst ee43
  refine sCall1 rfl call21 rfl h43 ?_
  refine sMv (v := .tuple _) rfl ?_
  refine sP (v := .slice _ _ _) rfl ?_   -- extract ['t41', '0']
  refine sP (v := nv _) rfl ?_   -- extract ['t41', '1']
  refine sAs (v := .slice _ _ _) rfl ?_
  refine sAs (v := nv _) rfl ?_
  refine sNil (kSeqN ?_)
  refine cSeq ?_
  refine cRegion ?_
  refine sRow [0, 2, 1, 3] rfl (by decide) (by kernel_rfl) fun q47 m47 o47 x47 => ?_
  obtain ⟨v48, m48, h48, rfl, x48⟩ := spec_Even (p := (ofs [0, 2, 1, 3])) o47.ints (by decide)
  rw [awEv, awWE] at h48
  refine sCall1 rfl call23 rfl h48 ?_
  refine sMv (v := .tuple _) rfl ?_
  refine sP (v := .bool _) rfl ?_   -- extract ['t46', '0']
  refine sP (v := nv _) rfl ?_   -- extract ['t46', '1']
  refine sAs (v := .bool _) rfl ?_
  refine sAs (v := nv _) rfl ?_
  refine sNil (kSeqN ?_)
  refine cSeq ?_
  refine cRegion ?_
  obtain ⟨v52, m52, h52, rfl, x52⟩ := spec_Count (m := m48) (w := 3) (g := 2)
  rw [awCn.1, awCn.2] at h52
  refine sCall2 rfl call35 rfl rfl h52 ?_
  refine sMv (v := .tuple _) rfl ?_
  refine sP (v := nv _) rfl ?_   -- extract ['t51', '0']
  refine sP (v := nv _) rfl ?_   -- extract ['t51', '1']
  refine sAs (v := nv _) rfl ?_
  refine sAs (v := nv _) rfl ?_
  refine sNil (kSeqN ?_)
  refine cSeq ?_   -- seq 8
  refine cSeq ?_
  refine cDrawH (hs := [(999999, 0), (17, 0), (17, 5), (17, 20), (17, 21), (17, 23), (17, 25), (17, 26), (17, 27), (17, 28), (17, 44), (17, 45), (36, 0), (36, 5), (36, 6), (36, 20), (36, 21), (36, 23), (36, 25), (36, 26), (36, 27), (36, 44), (36, 45), (42, 0), (42, 5), (42, 6), (42, 20), (42, 21), (42, 23), (42, 25), (42, 26), (42, 27), (42, 44), (42, 45)]) rfl (by decide) ?_
  refine lStepO (sMv (v := nv _) rfl (sNil fun e0 hm0 => ?_))
  refine lStepO (sBin (v := .bool false) (a := 0) (b := 0) rfl rfl (neqF rfl) (sNil fun e1 hm1 => ?_))
  refine lStepO (sMv (v := .bool false) rfl (sNil fun e2 hm2 => ?_))
  refine lG rfl rfl ?_
  refine lStepO (sMv (v := .slice _ _ _) rfl (sNil fun e3 hm3 => ?_))
  refine lG rfl rfl ?_
  refine lStepO (sRow [0, 3, 2, 1] rfl (by decide) (by kernel_rfl) fun q59 m59 o59 x59 => (sNil fun e4 hm4 => ?_))
  refine lG rfl rfl ?_
  have h60 := spec_Equal (o25.ints.ext (((((((((((((x29.trans x30).trans x31).trans x32).trans x33).trans x37).trans x38).trans xs6).trans x42).trans x43).trans x47).trans x48).trans x52).trans x59)) o59.ints (by decide)
  rw [decide_eq_true rfl] at h60
  refine lStepO (sCall2 rfl call28 rfl rfl h60 (sNil fun e5 hm5 => ?_))
  refine lG rfl rfl ?_
  refine lStepO (sP (v := .bool false) rfl (sNil fun e6 hm6 => ?_))
  refine lStepO (sP (v := .bool false) rfl (sNil fun e7 hm7 => ?_))
  refine lStepO (sMv (v := .bool false) rfl (sNil fun e8 hm8 => ?_))
  refine lG rfl rfl ?_
  refine lStepO (sMv (v := nv _) rfl (sNil fun e9 hm9 => ?_))
  refine lG rfl rfl ?_
  refine lStepO (sBin (v := .bool false) (a := 0) (b := 0) rfl rfl (neqF rfl) (sNil fun e10 hm10 => ?_))
  refine lStepO (sP (v := .bool false) rfl (sNil fun e11 hm11 => ?_))
  refine lStepO (sMv (v := .bool false) rfl (sNil fun e12 hm12 => ?_))
  refine lG rfl rfl ?_
  refine lStepO (sMv (v := nv _) rfl (sNil fun e13 hm13 => ?_))
  refine lG rfl rfl ?_
  refine lStepO (sBin (v := .bool false) (a := 7) (b := 7) rfl rfl (neqF rfl) (sNil fun e14 hm14 => ?_))
  refine lStepO (sP (v := .bool false) rfl (sNil fun e15 hm15 => ?_))
  refine lStepO (sMv (v := .bool false) rfl (sNil fun e16 hm16 => ?_))
  refine lG rfl rfl ?_
  refine lStepLdA A30 S30 rfl ((((((x42.trans x43).trans x47).trans x48).trans x52).trans x59).cells gs6) rfl fun e17 hm17 hv17 hr17 => ?_
  refine lG rfl rfl ?_
  refine lStepO (sMv (v := nv _) rfl (sNil fun e18 hm18 => ?_))
  refine lG rfl rfl ?_
  refine lStepO (sRow [1, 0] rfl (by decide) (by kernel_rfl) fun q74 m74 o74 x74 => (sNil fun e19 hm19 => ?_))
  refine lG rfl rfl ?_
  obtain ⟨v75, m75, h75, rfl, x75⟩ := spec_lgate (m := m74) (k := 9) (q := q74) (n := [1, 0].length) (c := [1, 0].length)
  refine lStepO (sCall2 rfl call69 rfl rfl h75 (sNil fun e20 hm20 => ?_))
  refine lG rfl rfl ?_
  refine lStepO (sRow [0, 1] rfl (by decide) (by kernel_rfl) fun q76 m76 o76 x76 => (sNil fun e21 hm21 => ?_))
  refine lG rfl rfl ?_
  obtain ⟨v77, m77, h77, rfl, x77⟩ := spec_lgate (m := m76) (k := 9) (q := q76) (n := [0, 1].length) (c := [0, 1].length)
  refine lStepO (sCall2 rfl call69 rfl rfl h77 (sNil fun e22 hm22 => ?_))
  refine lG rfl rfl ?_
  refine lStepO (sRow [1, 0] rfl (by decide) (by kernel_rfl) fun q78 m78 o78 x78 => (sNil fun e23 hm23 => ?_))
  refine lG rfl rfl ?_
  obtain ⟨v79, m79, h79, rfl, x79⟩ := spec_lgate (m := m78) (k := 9) (q := q78) (n := [1, 0].length) (c := [1, 0].length)
  refine lStepO (sCall2 rfl call69 rfl rfl h79 (sNil fun e24 hm24 => ?_))
  refine lG rfl rfl ?_
  refine lStepO (sGates [(9, .slice q74 [1, 0].length [1, 0].length, [1, 0]), (9, .slice q76 [0, 1].length [0, 1].length, [0, 1]), (9, .slice q78 [1, 0].length [1, 0].length, [1, 0])] (mem_cons (o74.ext ((((x75.trans x76).trans x77).trans x78).trans x79)) (mem_cons (o76.ext ((x77.trans x78).trans x79)) (mem_cons (o78.ext x79) (mem_nil)))) rfl (by decide) (by kernel_rfl) fun q80 m80 cs80 o80 x80 => (sNil fun e25 hm25 => ?_))
  replace o80 : OwnG 0 m80 (.slice q80 3 3) cs80 [(9, [1, 0]), (9, [0, 1]), (9, [1, 0])] := o80
  refine lG rfl rfl ?_
  obtain ⟨v81, m81, h81, rfl, x81⟩ := spec_lof (m := m80) (k := 2) (q := q80) (n := 3) (c := 3)
  refine lStepO (sCall2 rfl call68 rfl rfl h81 (sNil fun e26 hm26 => ?_))
  refine lG rfl rfl ?_
  obtain ⟨v82, m82, h82, rfl, x82⟩ := spec_known (W := 2) (B := 0) (W' := 2) (B' := 0) (er := 0) (o38.gates.ext ((((((((((((((xs6.trans x42).trans x43).trans x47).trans x48).trans x52).trans x59).trans x74).trans x75).trans x76).trans x77).trans x78).trans x79).trans x80).trans x81)) (o80.gates.ext x81) (by decide) (by decide)
  rw [show (decide ((0 : Nat) = 0) && decide (2 = 2 ∧ 0 = 0 ∧ [(9, [1, 0]), (9, [0, 1]), (9, [1, 0])].map gvM = [(9, [1, 0]), (9, [0, 1]), (9, [1, 0])].map gvM)) = true by simp] at h82
  refine lStepO (sCall3 rfl call70 rfl rfl rfl h82 (sNil fun e27 hm27 => ?_))
  refine lG rfl rfl ?_
  refine lStepO (sP (v := .bool false) rfl (sNil fun e28 hm28 => ?_))
  refine lStepO (sP (v := .bool false) rfl (sNil fun e29 hm29 => ?_))
  refine lStepO (sMv (v := .bool false) rfl (sNil fun e30 hm30 => ?_))
  refine lG rfl rfl ?_
  refine lStepO (sMv (v := nv _) rfl (sNil fun e31 hm31 => ?_))
  refine lG rfl rfl ?_
  refine lStepO (sBin (v := .bool false) (a := 0) (b := 0) rfl rfl (neqF rfl) (sNil fun e32 hm32 => ?_))
  refine lStepO (sP (v := .bool false) rfl (sNil fun e33 hm33 => ?_))
  refine lStepO (sMv (v := .bool false) rfl (sNil fun e34 hm34 => ?_))
  refine lG rfl rfl ?_
  refine lStepO (sMv (v := .slice _ _ _) rfl (sNil fun e35 hm35 => ?_))
  refine lG rfl rfl ?_
  refine lStepLen T34 rfl fun e36 hm36 hv36 hr36 => ?_
  refine lG rfl rfl ?_
  refine lStepO (sBin (v := .bool false) (a := 1) (b := 1) rfl rfl (neqF rfl) (sNil fun e37 hm37 => ?_))
  refine lStepO (sP (v := .bool false) rfl (sNil fun e38 hm38 => ?_))
  refine lStepO (sMv (v := .bool false) rfl (sNil fun e39 hm39 => ?_))
  refine lG rfl rfl ?_
  refine lStepO (sMv (v := .slice _ _ _) rfl (sNil fun e40 hm40 => ?_))
  refine lG rfl rfl ?_
  refine lStepO (sIx T34 S22 rfl rfl (show 0 < (ofs2 [[1, 2]]).length by decide) (sNil fun e41 hm41 => ?_))
  refine lG rfl rfl ?_
  refine lStepLd (v := .slice q43 [1, 2].length c43) A22 rfl (((((((((((((x47.trans x48).trans x52).trans x59).trans x74).trans x75).trans x76).trans x77).trans x78).trans x79).trans x80).trans x81).trans x82).cells g43) hs43 fun e42 hm42 hv42 hr42 => ?_
  refine lG rfl rfl ?_
  refine lStepO (sRow [1, 2] rfl (by decide) (by kernel_rfl) fun q98 m98 o98 x98 => (sNil fun e43 hm43 => ?_))
  refine lG rfl rfl ?_
  have h99 := spec_Equal (ha43.ext (((((((((((((x47.trans x48).trans x52).trans x59).trans x74).trans x75).trans x76).trans x77).trans x78).trans x79).trans x80).trans x81).trans x82).trans x98)) o98.ints (by decide)
  rw [decide_eq_true rfl] at h99
  refine lStepO (sCall2 rfl call28 rfl rfl h99 (sNil fun e44 hm44 => ?_))
  refine lG rfl rfl ?_
  refine lStepO (sP (v := .bool false) rfl (sNil fun e45 hm45 => ?_))
  refine lStepO (sP (v := .bool false) rfl (sNil fun e46 hm46 => ?_))
  refine lStepO (sMv (v := .bool false) rfl (sNil fun e47 hm47 => ?_))
  refine lG rfl rfl ?_
  refine lStepO (sMv (v := nv _) rfl (sNil fun e48 hm48 => ?_))
  refine lG rfl rfl ?_
  refine lStepO (sBin (v := .bool false) (a := 0) (b := 0) rfl rfl (neqF rfl) (sNil fun e49 hm49 => ?_))
  refine lStepO (sP (v := .bool false) rfl (sNil fun e50 hm50 => ?_))
  refine lStepO (sMv (v := .bool false) rfl (sNil fun e51 hm51 => ?_))
  refine lG rfl rfl ?_
  refine lStepO (sMv (v := .bool false) rfl (sNil fun e52 hm52 => ?_))
  refine lStepO (sP (v := .bool false) rfl (sNil fun e53 hm53 => ?_))
  refine lStepO (sMv (v := .bool false) rfl (sNil fun e54 hm54 => ?_))
  refine lG rfl rfl ?_
  refine lStepO (sMv (v := nv _) rfl (sNil fun e55 hm55 => ?_))
  refine lG rfl rfl ?_
  refine lStepO (sBin (v := .bool false) (a := 0) (b := 0) rfl rfl (neqF rfl) (sNil fun e56 hm56 => ?_))
  refine lStepO (sP (v := .bool false) rfl (sNil fun e57 hm57 => ?_))
  refine lStepO (sMv (v := .bool false) rfl (sNil fun e58 hm58 => ?_))
  refine lG rfl rfl ?_
  refine lStepO (sMv (v := nv _) rfl (sNil fun e59 hm59 => ?_))
  refine lG rfl rfl ?_
  refine lStepO (sBin (v := .bool false) (a := 102) (b := 102) rfl rfl (neqF rfl) (sNil fun e60 hm60 => ?_))
  refine lStepO (sP (v := .bool false) rfl (sNil fun e61 hm61 => ?_))
  refine ⟨?_, (kSeqN ?_)⟩
  ·
    refine obl_fl (by simp) ?_
    refine obl3 (m0 := m52) (e17 := e17) (e36 := e36) (e42 := e42) ?_ ((((((((((x59.trans x74).trans x75).trans x76).trans x77).trans x78).trans x79).trans x80).trans x81).trans x82).trans x98) (by kernel_rfl) rfl (by kernel_rfl) rfl (by kernel_rfl) rfl (fun M hM => (hr17 M _ (hM.cells (((((x42.trans x43).trans x47).trans x48).trans x52).cells gs6))).trans (congrArg some hv17.symm)) (by rw [hv36]; exact hr36) (fun M hM => (hr42 M _ _ (hM.cells (((x47.trans x48).trans x52).cells g43)) hs43).trans (congrArg some hv42.symm)) (by decide)
    refine allS ?_ (by rw [hm61]; exact ((((((((((x59.trans x74).trans x75).trans x76).trans x77).trans x78).trans x79).trans x80).trans x81).trans x82).trans x98))
    refine allS ?_ (by rw [hm60]; exact ((((((((((x59.trans x74).trans x75).trans x76).trans x77).trans x78).trans x79).trans x80).trans x81).trans x82).trans x98))
    refine allS ?_ (by rw [hm59]; exact ((((((((((x59.trans x74).trans x75).trans x76).trans x77).trans x78).trans x79).trans x80).trans x81).trans x82).trans x98))
    refine allS ?_ (by rw [hm58]; exact ((((((((((x59.trans x74).trans x75).trans x76).trans x77).trans x78).trans x79).trans x80).trans x81).trans x82).trans x98))
    refine allS ?_ (by rw [hm57]; exact ((((((((((x59.trans x74).trans x75).trans x76).trans x77).trans x78).trans x79).trans x80).trans x81).trans x82).trans x98))
    refine allS ?_ (by rw [hm56]; exact ((((((((((x59.trans x74).trans x75).trans x76).trans x77).trans x78).trans x79).trans x80).trans x81).trans x82).trans x98))
    refine allS ?_ (by rw [hm55]; exact ((((((((((x59.trans x74).trans x75).trans x76).trans x77).trans x78).trans x79).trans x80).trans x81).trans x82).trans x98))
    refine allS ?_ (by rw [hm54]; exact ((((((((((x59.trans x74).trans x75).trans x76).trans x77).trans x78).trans x79).trans x80).trans x81).trans x82).trans x98))
    refine allS ?_ (by rw [hm53]; exact ((((((((((x59.trans x74).trans x75).trans x76).trans x77).trans x78).trans x79).trans x80).trans x81).trans x82).trans x98))
    refine allS ?_ (by rw [hm52]; exact ((((((((((x59.trans x74).trans x75).trans x76).trans x77).trans x78).trans x79).trans x80).trans x81).trans x82).trans x98))
    refine allS ?_ (by rw [hm51]; exact ((((((((((x59.trans x74).trans x75).trans x76).trans x77).trans x78).trans x79).trans x80).trans x81).trans x82).trans x98))
    refine allS ?_ (by rw [hm50]; exact ((((((((((x59.trans x74).trans x75).trans x76).trans x77).trans x78).trans x79).trans x80).trans x81).trans x82).trans x98))
    refine allS ?_ (by rw [hm49]; exact ((((((((((x59.trans x74).trans x75).trans x76).trans x77).trans x78).trans x79).trans x80).trans x81).trans x82).trans x98))
    refine allS ?_ (by rw [hm48]; exact ((((((((((x59.trans x74).trans x75).trans x76).trans x77).trans x78).trans x79).trans x80).trans x81).trans x82).trans x98))
    refine allS ?_ (by rw [hm47]; exact ((((((((((x59.trans x74).trans x75).trans x76).trans x77).trans x78).trans x79).trans x80).trans x81).trans x82).trans x98))
    refine allS ?_ (by rw [hm46]; exact ((((((((((x59.trans x74).trans x75).trans x76).trans x77).trans x78).trans x79).trans x80).trans x81).trans x82).trans x98))
    refine allS ?_ (by rw [hm45]; exact ((((((((((x59.trans x74).trans x75).trans x76).trans x77).trans x78).trans x79).trans x80).trans x81).trans x82).trans x98))
    refine allS ?_ (by rw [hm44]; exact ((((((((((x59.trans x74).trans x75).trans x76).trans x77).trans x78).trans x79).trans x80).trans x81).trans x82).trans x98))
    refine allS ?_ (by rw [hm43]; exact (((((((((x59.trans x74).trans x75).trans x76).trans x77).trans x78).trans x79).trans x80).trans x81).trans x82))
    refine allS ?_ (by rw [hm42]; exact (((((((((x59.trans x74).trans x75).trans x76).trans x77).trans x78).trans x79).trans x80).trans x81).trans x82))
    refine allS ?_ (by rw [hm41]; exact (((((((((x59.trans x74).trans x75).trans x76).trans x77).trans x78).trans x79).trans x80).trans x81).trans x82))
    refine allS ?_ (by rw [hm40]; exact (((((((((x59.trans x74).trans x75).trans x76).trans x77).trans x78).trans x79).trans x80).trans x81).trans x82))
    refine allS ?_ (by rw [hm39]; exact (((((((((x59.trans x74).trans x75).trans x76).trans x77).trans x78).trans x79).trans x80).trans x81).trans x82))
    refine allS ?_ (by rw [hm38]; exact (((((((((x59.trans x74).trans x75).trans x76).trans x77).trans x78).trans x79).trans x80).trans x81).trans x82))
    refine allS ?_ (by rw [hm37]; exact (((((((((x59.trans x74).trans x75).trans x76).trans x77).trans x78).trans x79).trans x80).trans x81).trans x82))
    refine allS ?_ (by rw [hm36]; exact (((((((((x59.trans x74).trans x75).trans x76).trans x77).trans x78).trans x79).trans x80).trans x81).trans x82))
    refine allS ?_ (by rw [hm35]; exact (((((((((x59.trans x74).trans x75).trans x76).trans x77).trans x78).trans x79).trans x80).trans x81).trans x82))
    refine allS ?_ (by rw [hm34]; exact (((((((((x59.trans x74).trans x75).trans x76).trans x77).trans x78).trans x79).trans x80).trans x81).trans x82))
    refine allS ?_ (by rw [hm33]; exact (((((((((x59.trans x74).trans x75).trans x76).trans x77).trans x78).trans x79).trans x80).trans x81).trans x82))
    refine allS ?_ (by rw [hm32]; exact (((((((((x59.trans x74).trans x75).trans x76).trans x77).trans x78).trans x79).trans x80).trans x81).trans x82))
    refine allS ?_ (by rw [hm31]; exact (((((((((x59.trans x74).trans x75).trans x76).trans x77).trans x78).trans x79).trans x80).trans x81).trans x82))
    refine allS ?_ (by rw [hm30]; exact (((((((((x59.trans x74).trans x75).trans x76).trans x77).trans x78).trans x79).trans x80).trans x81).trans x82))
    refine allS ?_ (by rw [hm29]; exact (((((((((x59.trans x74).trans x75).trans x76).trans x77).trans x78).trans x79).trans x80).trans x81).trans x82))
    refine allS ?_ (by rw [hm28]; exact (((((((((x59.trans x74).trans x75).trans x76).trans x77).trans x78).trans x79).trans x80).trans x81).trans x82))
    refine allS ?_ (by rw [hm27]; exact ((((((((x59.trans x74).trans x75).trans x76).trans x77).trans x78).trans x79).trans x80).trans x81))
    refine allS ?_ (by rw [hm26]; exact (((((((x59.trans x74).trans x75).trans x76).trans x77).trans x78).trans x79).trans x80))
    refine allS ?_ (by rw [hm25]; exact ((((((x59.trans x74).trans x75).trans x76).trans x77).trans x78).trans x79))
    refine allS ?_ (by rw [hm24]; exact (((((x59.trans x74).trans x75).trans x76).trans x77).trans x78))
    refine allS ?_ (by rw [hm23]; exact ((((x59.trans x74).trans x75).trans x76).trans x77))
    refine allS ?_ (by rw [hm22]; exact (((x59.trans x74).trans x75).trans x76))
    refine allS ?_ (by rw [hm21]; exact ((x59.trans x74).trans x75))
    refine allS ?_ (by rw [hm20]; exact (x59.trans x74))
    refine allS ?_ (by rw [hm19]; exact x59)
    refine allS ?_ (by rw [hm18]; exact x59)
    refine allS ?_ (by rw [hm17]; exact x59)
    refine allS ?_ (by rw [hm16]; exact x59)
    refine allS ?_ (by rw [hm15]; exact x59)
    refine allS ?_ (by rw [hm14]; exact x59)
    refine allS ?_ (by rw [hm13]; exact x59)
    refine allS ?_ (by rw [hm12]; exact x59)
    refine allS ?_ (by rw [hm11]; exact x59)
    refine allS ?_ (by rw [hm10]; exact x59)
    refine allS ?_ (by rw [hm9]; exact x59)
    refine allS ?_ (by rw [hm8]; exact x59)
    refine allS ?_ (by rw [hm7]; exact x59)
    refine allS ?_ (by rw [hm6]; exact x59)
    refine allS ?_ (by rw [hm5]; exact x59)
    refine allS ?_ (by rw [hm4]; exact .refl _)
    refine allS ?_ (by rw [hm3]; exact .refl _)
    refine allS ?_ (by rw [hm2]; exact .refl _)
    refine allS ?_ (by rw [hm1]; exact .refl _)
    refine allS ?_ (by rw [hm0]; exact .refl _)
    exact fun e h => by cases h
  refine cCondF rfl ?_
  refine cSkip (kSeqN ?_)
  refine cSeq ?_
  refine cRegion ?_
  refine sRow [0, 2, 1, 3] rfl (by decide) (by kernel_rfl) fun q118 m118 o118 x118 => ?_
  obtain ⟨v119, m119, h119, s119, cs119, rfl, o119, x119⟩ := spec_Shortest (p := (ofs [0, 2, 1, 3])) (most := 2) o118.ints (by decide)
  rw [awS2, awS2n] at h119
  obtain ⟨q119, c119, rfl⟩ := o119.1.len
  refine sCall2 rfl call29 rfl rfl h119 ?_
  refine sMv (v := .tuple _) rfl ?_
  refine sP (v := .agg _) rfl ?_   -- extract ['t117', '0']
  refine sP (v := nv _) rfl ?_   -- extract ['t117', '1']
  refine sAs (v := nv _) rfl ?_
  refine sNil (kSeqN ?_)
  refine cSeq ?_
  refine cRegion ?_
  refine sRow [0, 2, 1, 3] rfl (by decide) (by kernel_rfl) fun q123 m123 o123 x123 => ?_
  obtain ⟨v124, m124, h124, s124, cs124, rfl, o124, x124⟩ := spec_Shortest (p := (ofs [0, 2, 1, 3])) (most := 3) o123.ints (by decide)
  rw [awS3, awS3n] at h124
  obtain ⟨q124, c124, rfl⟩ := o124.1.len
  rw [awS3l] at h124
  refine sCall2 rfl call29 rfl rfl h124 ?_
  refine sMv (v := .tuple _) rfl ?_
  refine sP (v := .agg _) rfl ?_   -- extract ['t122', '0']
  refine sP (v := nv _) rfl ?_   -- extract ['t122', '1']
  refine sAllocB (bl := m124.size) rfl Z30 (by kernel_rfl) ?_
  refine sStNAB rfl S30 rfl rfl rfl rfl (by kernel_rfl) ?_
  have xs14 : Ext m124 (m124.push (.cells true #[nv 2, nv 0, .slice q124 3 c124])) := .push _ _
  have gs14 : Mem.get (m124.push (.cells true #[nv 2, nv 0, .slice q124 3 c124])) m124.size = .cells true #[nv 2, nv 0, .slice q124 3 c124] := gP rfl
  generalize m124.push (.cells true #[nv 2, nv 0, .slice q124 3 c124]) = ms14 at *
  refine sAs (v := nv _) rfl ?_
  refine sNil (kSeqN ?_)
  refine cSeq ?_
  refine cRegion ?_
  obtain ⟨v128, m128, h128, rfl, x128⟩ := spec_lvar (m := ms14) (k := 0)
  refine sCall1 rfl call72 rfl h128 ?_
  obtain ⟨v129, m129, h129, rfl, x129⟩ := spec_lvar (m := m128) (k := 1)
  refine sCall1 rfl call72 rfl h129 ?_
  refine sBuildS (c := #[nv 1, nv 0, .slice none 0 0, nv 1, nv 1, .slice none 0 0]) T64 S66 Z66 (by decide) (by decide) (by decide) (by kernel_rfl) (by kernel_rfl) rfl ?_
  have x130 : Ext m129 (m129.push (.cells true #[nv 1, nv 0, .slice none 0 0, nv 1, nv 1, .slice none 0 0])) := .push _ _
  have g130 : Mem.get (m129.push (.cells true #[nv 1, nv 0, .slice none 0 0, nv 1, nv 1, .slice none 0 0])) m129.size = .cells true #[nv 1, nv 0, .slice none 0 0, nv 1, nv 1, .slice none 0 0] := gP rfl
  generalize m129.push (.cells true #[nv 1, nv 0, .slice none 0 0, nv 1, nv 1, .slice none 0 0]) = m130 at *
  obtain ⟨v131, m131, h131, rfl, x131⟩ := spec_lmade (m := m130) (k := 5) (q := some ⟨m129.size, 0, some 3⟩) (n := 2) (c := 2)
  refine sCall2 rfl call71 rfl rfl h131 ?_
  obtain ⟨v132, m132, h132, s132, cs132, rfl, o132, x132⟩ := spec_Compile 2 2 (hW.ext ((((((((((((((((((((((((((((((((((((((x19.trans x20).trans x21).trans x22).trans xs1).trans x25).trans x29).trans x30).trans x31).trans x32).trans x33).trans x37).trans x38).trans xs6).trans x42).trans x43).trans x47).trans x48).trans x52).trans x59).trans x74).trans x75).trans x76).trans x77).trans x78).trans x79).trans x80).trans x81).trans x82).trans x98).trans x118).trans x119).trans x123).trans x124).trans xs14).trans x128).trans x129).trans x130).trans x131)) (orAt (x131.cells g130)) (by decide)
  rw [awPE, awPN] at h132
  rw [awPG] at o132
  replace o132 := o132.mono (Nat.zero_le _)
  obtain ⟨q132, c132, rfl⟩ := o132.1.len
  refine sCall2 rfl call55 rfl rfl h132 ?_
  refine sMv (v := .tuple _) rfl ?_
  refine sP (v := .agg _) rfl ?_   -- extract ['t127', '0']
  refine sP (v := nv _) rfl ?_   -- extract ['t127', '1']
  refine sAllocB (bl := m132.size) rfl Z30 (by kernel_rfl) ?_
  refine sStNAB rfl S30 rfl rfl rfl rfl (by kernel_rfl) ?_
  have xs15 : Ext m132 (m132.push (.cells true #[nv 5, nv 0, .slice q132 10 c132])) := .push _ _
  have gs15 : Mem.get (m132.push (.cells true #[nv 5, nv 0, .slice q132 10 c132])) m132.size = .cells true #[nv 5, nv 0, .slice q132 10 c132] := gP rfl
  generalize m132.push (.cells true #[nv 5, nv 0, .slice q132 10 c132]) = ms15 at *
  refine sAs (v := nv _) rfl ?_
  refine sNil (kSeqN ?_)
  refine cSeq ?_
  refine cRegion ?_
  refine sRow [0, 3] rfl (by decide) (by kernel_rfl) fun q135 m135 o135 x135 => ?_
  obtain ⟨v136, m136, h136, rfl, x136⟩ := spec_lgate (m := m135) (k := 9) (q := q135) (n := [0, 3].length) (c := [0, 3].length)
  refine sCall2 rfl call69 rfl rfl h136 ?_
  refine sRow [3] rfl (by decide) (by kernel_rfl) fun q137 m137 o137 x137 => ?_
  obtain ⟨v138, m138, h138, rfl, x138⟩ := spec_lgate (m := m137) (k := 1) (q := q137) (n := [3].length) (c := [3].length)
  refine sCall2 rfl call69 rfl rfl h138 ?_
  refine sRow [1, 4] rfl (by decide) (by kernel_rfl) fun q139 m139 o139 x139 => ?_
  obtain ⟨v140, m140, h140, rfl, x140⟩ := spec_lgate (m := m139) (k := 9) (q := q139) (n := [1, 4].length) (c := [1, 4].length)
  refine sCall2 rfl call69 rfl rfl h140 ?_
  refine sRow [4] rfl (by decide) (by kernel_rfl) fun q141 m141 o141 x141 => ?_
  obtain ⟨v142, m142, h142, rfl, x142⟩ := spec_lgate (m := m141) (k := 1) (q := q141) (n := [4].length) (c := [4].length)
  refine sCall2 rfl call69 rfl rfl h142 ?_
  refine sRow [3, 4, 2] rfl (by decide) (by kernel_rfl) fun q143 m143 o143 x143 => ?_
  obtain ⟨v144, m144, h144, rfl, x144⟩ := spec_lgate (m := m143) (k := 12) (q := q143) (n := [3, 4, 2].length) (c := [3, 4, 2].length)
  refine sCall2 rfl call69 rfl rfl h144 ?_
  refine sRow [4] rfl (by decide) (by kernel_rfl) fun q145 m145 o145 x145 => ?_
  obtain ⟨v146, m146, h146, rfl, x146⟩ := spec_lgate (m := m145) (k := 1) (q := q145) (n := [4].length) (c := [4].length)
  refine sCall2 rfl call69 rfl rfl h146 ?_
  refine sRow [1, 4] rfl (by decide) (by kernel_rfl) fun q147 m147 o147 x147 => ?_
  obtain ⟨v148, m148, h148, rfl, x148⟩ := spec_lgate (m := m147) (k := 9) (q := q147) (n := [1, 4].length) (c := [1, 4].length)
  refine sCall2 rfl call69 rfl rfl h148 ?_
  refine sRow [3] rfl (by decide) (by kernel_rfl) fun q149 m149 o149 x149 => ?_
  obtain ⟨v150, m150, h150, rfl, x150⟩ := spec_lgate (m := m149) (k := 1) (q := q149) (n := [3].length) (c := [3].length)
  refine sCall2 rfl call69 rfl rfl h150 ?_
  refine sRow [0, 3] rfl (by decide) (by kernel_rfl) fun q151 m151 o151 x151 => ?_
  obtain ⟨v152, m152, h152, rfl, x152⟩ := spec_lgate (m := m151) (k := 9) (q := q151) (n := [0, 3].length) (c := [0, 3].length)
  refine sCall2 rfl call69 rfl rfl h152 ?_
  refine sRow [2] rfl (by decide) (by kernel_rfl) fun q153 m153 o153 x153 => ?_
  obtain ⟨v154, m154, h154, rfl, x154⟩ := spec_lgate (m := m153) (k := 1) (q := q153) (n := [2].length) (c := [2].length)
  refine sCall2 rfl call69 rfl rfl h154 ?_
  refine sGates [(9, .slice q135 [0, 3].length [0, 3].length, [0, 3]), (1, .slice q137 [3].length [3].length, [3]), (9, .slice q139 [1, 4].length [1, 4].length, [1, 4]), (1, .slice q141 [4].length [4].length, [4]), (12, .slice q143 [3, 4, 2].length [3, 4, 2].length, [3, 4, 2]), (1, .slice q145 [4].length [4].length, [4]), (9, .slice q147 [1, 4].length [1, 4].length, [1, 4]), (1, .slice q149 [3].length [3].length, [3]), (9, .slice q151 [0, 3].length [0, 3].length, [0, 3]), (1, .slice q153 [2].length [2].length, [2])] (mem_cons (o135.ext ((((((((((((((((((x136.trans x137).trans x138).trans x139).trans x140).trans x141).trans x142).trans x143).trans x144).trans x145).trans x146).trans x147).trans x148).trans x149).trans x150).trans x151).trans x152).trans x153).trans x154)) (mem_cons (o137.ext ((((((((((((((((x138.trans x139).trans x140).trans x141).trans x142).trans x143).trans x144).trans x145).trans x146).trans x147).trans x148).trans x149).trans x150).trans x151).trans x152).trans x153).trans x154)) (mem_cons (o139.ext ((((((((((((((x140.trans x141).trans x142).trans x143).trans x144).trans x145).trans x146).trans x147).trans x148).trans x149).trans x150).trans x151).trans x152).trans x153).trans x154)) (mem_cons (o141.ext ((((((((((((x142.trans x143).trans x144).trans x145).trans x146).trans x147).trans x148).trans x149).trans x150).trans x151).trans x152).trans x153).trans x154)) (mem_cons (o143.ext ((((((((((x144.trans x145).trans x146).trans x147).trans x148).trans x149).trans x150).trans x151).trans x152).trans x153).trans x154)) (mem_cons (o145.ext ((((((((x146.trans x147).trans x148).trans x149).trans x150).trans x151).trans x152).trans x153).trans x154)) (mem_cons (o147.ext ((((((x148.trans x149).trans x150).trans x151).trans x152).trans x153).trans x154)) (mem_cons (o149.ext ((((x150.trans x151).trans x152).trans x153).trans x154)) (mem_cons (o151.ext ((x152.trans x153).trans x154)) (mem_cons (o153.ext x154) (mem_nil))))))))))) rfl (by decide) (by kernel_rfl) fun q155 m155 cs155 o155 x155 => ?_
  replace o155 : OwnG 0 m155 (.slice q155 10 10) cs155 [(9, [0, 3]), (1, [3]), (9, [1, 4]), (1, [4]), (12, [3, 4, 2]), (1, [4]), (9, [1, 4]), (1, [3]), (9, [0, 3]), (1, [2])] := o155
  obtain ⟨v156, m156, h156, rfl, x156⟩ := spec_lof (m := m155) (k := 5) (q := q155) (n := 10) (c := 10)
  refine sCall2 rfl call68 rfl rfl h156 ?_
  refine sAllocB (bl := m156.size) rfl Z30 (by kernel_rfl) ?_
  refine sStNAB rfl S30 rfl rfl rfl rfl (by kernel_rfl) ?_
  have xs16 : Ext m156 (m156.push (.cells true #[nv 5, nv 0, .slice q155 10 10])) := .push _ _
  have gs16 : Mem.get (m156.push (.cells true #[nv 5, nv 0, .slice q155 10 10])) m156.size = .cells true #[nv 5, nv 0, .slice q155 10 10] := gP rfl
  generalize m156.push (.cells true #[nv 5, nv 0, .slice q155 10 10]) = ms16 at *
  refine sNil (kSeqN ?_)
  refine cSeq ?_
  refine cRegion ?_
  refine sLdAll A30 S30 rfl (((((((((((((((((((((((((((((((((((((((((((((((((((((((((((x25.trans x29).trans x30).trans x31).trans x32).trans x33).trans x37).trans x38).trans xs6).trans x42).trans x43).trans x47).trans x48).trans x52).trans x59).trans x74).trans x75).trans x76).trans x77).trans x78).trans x79).trans x80).trans x81).trans x82).trans x98).trans x118).trans x119).trans x123).trans x124).trans xs14).trans x128).trans x129).trans x130).trans x131).trans x132).trans xs15).trans x135).trans x136).trans x137).trans x138).trans x139).trans x140).trans x141).trans x142).trans x143).trans x144).trans x145).trans x146).trans x147).trans x148).trans x149).trans x150).trans x151).trans x152).trans x153).trans x154).trans x155).trans x156).trans xs16).cells gs1) rfl ?_
  refine sRow [1] rfl (by decide) (by kernel_rfl) fun q159 m159 o159 x159 => ?_
  obtain ⟨v160, m160, h160, rfl, x160⟩ := spec_CleanX (hC.ext ((((((((((((((((((((((((((((((((((((((((((((((((((((((((((((((((x19.trans x20).trans x21).trans x22).trans xs1).trans x25).trans x29).trans x30).trans x31).trans x32).trans x33).trans x37).trans x38).trans xs6).trans x42).trans x43).trans x47).trans x48).trans x52).trans x59).trans x74).trans x75).trans x76).trans x77).trans x78).trans x79).trans x80).trans x81).trans x82).trans x98).trans x118).trans x119).trans x123).trans x124).trans xs14).trans x128).trans x129).trans x130).trans x131).trans x132).trans xs15).trans x135).trans x136).trans x137).trans x138).trans x139).trans x140).trans x141).trans x142).trans x143).trans x144).trans x145).trans x146).trans x147).trans x148).trans x149).trans x150).trans x151).trans x152).trans x153).trans x154).trans x155).trans x156).trans xs16).trans x159)) (o21.ext (((((((((((((((((((((((((((((((((((((((((((((((((((((((((((((x22.trans xs1).trans x25).trans x29).trans x30).trans x31).trans x32).trans x33).trans x37).trans x38).trans xs6).trans x42).trans x43).trans x47).trans x48).trans x52).trans x59).trans x74).trans x75).trans x76).trans x77).trans x78).trans x79).trans x80).trans x81).trans x82).trans x98).trans x118).trans x119).trans x123).trans x124).trans xs14).trans x128).trans x129).trans x130).trans x131).trans x132).trans xs15).trans x135).trans x136).trans x137).trans x138).trans x139).trans x140).trans x141).trans x142).trans x143).trans x144).trans x145).trans x146).trans x147).trans x148).trans x149).trans x150).trans x151).trans x152).trans x153).trans x154).trans x155).trans x156).trans xs16).trans x159)) c21 o159.ints (by decide) (by decide)
  rw [awF1n, awF1e] at h160
  refine sCall2 rfl call46 rfl rfl h160 ?_
  refine sMv (v := .tuple _) rfl ?_
  refine sP (v := nv _) rfl ?_   -- extract ['t157', '0']
  refine sP (v := nv _) rfl ?_   -- extract ['t157', '1']
  refine sAs (v := nv _) rfl ?_
  refine sAs (v := nv _) rfl ?_
  refine sNil (kSeqN ?_)
  refine cSeq ?_
  refine cRegion ?_
  refine sLdAll A30 S30 rfl (((((((((((((((((((((((((((((((((((((((((((((((((((((((((((((x25.trans x29).trans x30).trans x31).trans x32).trans x33).trans x37).trans x38).trans xs6).trans x42).trans x43).trans x47).trans x48).trans x52).trans x59).trans x74).trans x75).trans x76).trans x77).trans x78).trans x79).trans x80).trans x81).trans x82).trans x98).trans x118).trans x119).trans x123).trans x124).trans xs14).trans x128).trans x129).trans x130).trans x131).trans x132).trans xs15).trans x135).trans x136).trans x137).trans x138).trans x139).trans x140).trans x141).trans x142).trans x143).trans x144).trans x145).trans x146).trans x147).trans x148).trans x149).trans x150).trans x151).trans x152).trans x153).trans x154).trans x155).trans x156).trans xs16).trans x159).trans x160).cells gs1) rfl ?_
  refine sRow [0] rfl (by decide) (by kernel_rfl) fun q165 m165 o165 x165 => ?_
  obtain ⟨v166, m166, h166, rfl, x166⟩ := spec_BorrX (hC.ext ((((((((((((((((((((((((((((((((((((((((((((((((((((((((((((((((((x19.trans x20).trans x21).trans x22).trans xs1).trans x25).trans x29).trans x30).trans x31).trans x32).trans x33).trans x37).trans x38).trans xs6).trans x42).trans x43).trans x47).trans x48).trans x52).trans x59).trans x74).trans x75).trans x76).trans x77).trans x78).trans x79).trans x80).trans x81).trans x82).trans x98).trans x118).trans x119).trans x123).trans x124).trans xs14).trans x128).trans x129).trans x130).trans x131).trans x132).trans xs15).trans x135).trans x136).trans x137).trans x138).trans x139).trans x140).trans x141).trans x142).trans x143).trans x144).trans x145).trans x146).trans x147).trans x148).trans x149).trans x150).trans x151).trans x152).trans x153).trans x154).trans x155).trans x156).trans xs16).trans x159).trans x160).trans x165)) (o21.ext (((((((((((((((((((((((((((((((((((((((((((((((((((((((((((((((x22.trans xs1).trans x25).trans x29).trans x30).trans x31).trans x32).trans x33).trans x37).trans x38).trans xs6).trans x42).trans x43).trans x47).trans x48).trans x52).trans x59).trans x74).trans x75).trans x76).trans x77).trans x78).trans x79).trans x80).trans x81).trans x82).trans x98).trans x118).trans x119).trans x123).trans x124).trans xs14).trans x128).trans x129).trans x130).trans x131).trans x132).trans xs15).trans x135).trans x136).trans x137).trans x138).trans x139).trans x140).trans x141).trans x142).trans x143).trans x144).trans x145).trans x146).trans x147).trans x148).trans x149).trans x150).trans x151).trans x152).trans x153).trans x154).trans x155).trans x156).trans xs16).trans x159).trans x160).trans x165)) c21 o165.ints (by decide) (by decide)
  rw [awF2n, awF2e] at h166
  refine sCall2 rfl call48 rfl rfl h166 ?_
  refine sMv (v := .tuple _) rfl ?_
  refine sP (v := nv _) rfl ?_   -- extract ['t163', '0']
  refine sP (v := nv _) rfl ?_   -- extract ['t163', '1']
  refine sAs (v := nv _) rfl ?_
  refine sAs (v := nv _) rfl ?_
  refine sNil (kSeqN ?_)
  refine cSeq ?_
  refine cRegion ?_
  refine sRow [0, 1] rfl (by decide) (by kernel_rfl) fun q170 m170 o170 x170 => ?_
  obtain ⟨v171, m171, h171, rfl, x171⟩ := spec_lgate (m := m170) (k := 9) (q := q170) (n := [0, 1].length) (c := [0, 1].length)
  refine sCall2 rfl call69 rfl rfl h171 ?_
  refine sRow [0, 1] rfl (by decide) (by kernel_rfl) fun q172 m172 o172 x172 => ?_
  obtain ⟨v173, m173, h173, rfl, x173⟩ := spec_lgate (m := m172) (k := 9) (q := q172) (n := [0, 1].length) (c := [0, 1].length)
  refine sCall2 rfl call69 rfl rfl h173 ?_
  refine sGates [(9, .slice q170 [0, 1].length [0, 1].length, [0, 1]), (9, .slice q172 [0, 1].length [0, 1].length, [0, 1])] (mem_cons (o170.ext ((x171.trans x172).trans x173)) (mem_cons (o172.ext x173) (mem_nil))) rfl (by decide) (by kernel_rfl) fun q174 m174 cs174 o174 x174 => ?_
  replace o174 : OwnG 0 m174 (.slice q174 2 2) cs174 [(9, [0, 1]), (9, [0, 1])] := o174
  obtain ⟨v175, m175, h175, rfl, x175⟩ := spec_lof (m := m174) (k := 2) (q := q174) (n := 2) (c := 2)
  refine sCall2 rfl call68 rfl rfl h175 ?_
  refine sRow [0] rfl (by decide) (by kernel_rfl) fun q176 m176 o176 x176 => ?_
  obtain ⟨v177, m177, h177, rfl, x177⟩ := spec_BorrX (hC.ext ((((((((((((((((((((((((((((((((((((((((((((((((((((((((((((((((((((((((((x19.trans x20).trans x21).trans x22).trans xs1).trans x25).trans x29).trans x30).trans x31).trans x32).trans x33).trans x37).trans x38).trans xs6).trans x42).trans x43).trans x47).trans x48).trans x52).trans x59).trans x74).trans x75).trans x76).trans x77).trans x78).trans x79).trans x80).trans x81).trans x82).trans x98).trans x118).trans x119).trans x123).trans x124).trans xs14).trans x128).trans x129).trans x130).trans x131).trans x132).trans xs15).trans x135).trans x136).trans x137).trans x138).trans x139).trans x140).trans x141).trans x142).trans x143).trans x144).trans x145).trans x146).trans x147).trans x148).trans x149).trans x150).trans x151).trans x152).trans x153).trans x154).trans x155).trans x156).trans xs16).trans x159).trans x160).trans x165).trans x166).trans x170).trans x171).trans x172).trans x173).trans x174).trans x175).trans x176)) (o174.ext (x175.trans x176)) c174 o176.ints (by decide) (by decide)
  rw [awF3n, awF3e] at h177
  refine sCall2 rfl call48 rfl rfl h177 ?_
  refine sMv (v := .tuple _) rfl ?_
  refine sP (v := nv _) rfl ?_   -- extract ['t169', '0']
  refine sP (v := nv _) rfl ?_   -- extract ['t169', '1']
  refine sAs (v := nv _) rfl ?_
  refine sNil (kSeqN ?_)
  refine cSeq ?_
  refine cRegion ?_
  refine sMv (v := nv _) rfl ?_
  refine sBin (v := .bool true) (a := 6) (b := 6) rfl rfl (eqlT rfl) ?_
  refine sMv (v := .bool true) rfl ?_
  refine sG rfl rfl ?_
  refine sMv (v := nv _) rfl ?_
  refine sG rfl rfl ?_
  refine sBin (v := .bool true) (a := 0) (b := 0) rfl rfl (eqlT rfl) ?_
  refine sP (v := .bool true) rfl ?_
  refine sMv (v := .bool true) rfl ?_
  refine sG rfl rfl ?_
  refine sFA F30_2 rfl ?_
  refine sG rfl rfl ?_
  refine sLd (v := .slice q124 3 c124) A28 rfl (((((((((((((((((((((((((((((((((((((((((x128.trans x129).trans x130).trans x131).trans x132).trans xs15).trans x135).trans x136).trans x137).trans x138).trans x139).trans x140).trans x141).trans x142).trans x143).trans x144).trans x145).trans x146).trans x147).trans x148).trans x149).trans x150).trans x151).trans x152).trans x153).trans x154).trans x155).trans x156).trans xs16).trans x159).trans x160).trans x165).trans x166).trans x170).trans x171).trans x172).trans x173).trans x174).trans x175).trans x176).trans x177).cells gs14) rfl ?_
  refine sG rfl rfl ?_
  refine sLen T28 rfl ?_
  refine sG rfl rfl ?_
  refine sBin (v := .bool true) (a := 3) (b := 3) rfl rfl (eqlT rfl) ?_
  refine sP (v := .bool true) rfl ?_
  refine sMv (v := .bool true) rfl ?_
  refine sG rfl rfl ?_
  refine sLdAll A30 S30 rfl (((((((((((((((((((((((((((((((((((x135.trans x136).trans x137).trans x138).trans x139).trans x140).trans x141).trans x142).trans x143).trans x144).trans x145).trans x146).trans x147).trans x148).trans x149).trans x150).trans x151).trans x152).trans x153).trans x154).trans x155).trans x156).trans xs16).trans x159).trans x160).trans x165).trans x166).trans x170).trans x171).trans x172).trans x173).trans x174).trans x175).trans x176).trans x177).cells gs15) rfl ?_
  refine sG rfl rfl ?_
  refine sMv (v := nv _) rfl ?_
  refine sG rfl rfl ?_
  refine sLdAll A30 S30 rfl ((((((((((((x159.trans x160).trans x165).trans x166).trans x170).trans x171).trans x172).trans x173).trans x174).trans x175).trans x176).trans x177).cells gs16) rfl ?_
  refine sG rfl rfl ?_
  obtain ⟨v196, m196, h196, rfl, x196⟩ := spec_known (W := 5) (B := 0) (W' := 5) (B' := 0) (er := 0) (o132.gates.ext (((((((((((((((((((((((((((((((((((xs15.trans x135).trans x136).trans x137).trans x138).trans x139).trans x140).trans x141).trans x142).trans x143).trans x144).trans x145).trans x146).trans x147).trans x148).trans x149).trans x150).trans x151).trans x152).trans x153).trans x154).trans x155).trans x156).trans xs16).trans x159).trans x160).trans x165).trans x166).trans x170).trans x171).trans x172).trans x173).trans x174).trans x175).trans x176).trans x177)) (o155.gates.ext (((((((((((((x156.trans xs16).trans x159).trans x160).trans x165).trans x166).trans x170).trans x171).trans x172).trans x173).trans x174).trans x175).trans x176).trans x177)) (by decide) (by decide)
  rw [show (decide ((0 : Nat) = 0) && decide (5 = 5 ∧ 0 = 0 ∧ [(9, [0, 3]), (1, [3]), (9, [1, 4]), (1, [4]), (12, [3, 4, 2]), (1, [4]), (9, [1, 4]), (1, [3]), (9, [0, 3]), (1, [2])].map gvM = [(9, [0, 3]), (1, [3]), (9, [1, 4]), (1, [4]), (12, [3, 4, 2]), (1, [4]), (9, [1, 4]), (1, [3]), (9, [0, 3]), (1, [2])].map gvM)) = true by simp] at h196
  refine sCall3 rfl call70 rfl rfl rfl h196 ?_
  refine sP (v := .bool true) rfl ?_
  refine sMv (v := .bool true) rfl ?_
  refine sG rfl rfl ?_
  refine sMv (v := nv _) rfl ?_
  refine sG rfl rfl ?_
  refine sBin (v := .bool true) (a := 0) (b := 0) rfl rfl (eqlT rfl) ?_
  refine sP (v := .bool true) rfl ?_
  refine sMv (v := .bool true) rfl ?_
  refine sG rfl rfl ?_
  refine sMv (v := nv _) rfl ?_
  refine sG rfl rfl ?_
  refine sBin (v := .bool true) (a := 1) (b := 1) rfl rfl (eqlT rfl) ?_
  refine sP (v := .bool true) rfl ?_
  refine sMv (v := .bool true) rfl ?_
  refine sG rfl rfl ?_
  refine sMv (v := nv _) rfl ?_
  refine sG rfl rfl ?_
  refine sBin (v := .bool true) (a := 0) (b := 0) rfl rfl (eqlT rfl) ?_
  refine sP (v := .bool true) rfl ?_
  refine sMv (v := .bool true) rfl ?_
  refine sG rfl rfl ?_
  refine sMv (v := nv _) rfl ?_
  refine sG rfl rfl ?_
  refine sBin (v := .bool true) (a := 1) (b := 1) rfl rfl (eqlT rfl) ?_
  refine sP (v := .bool true) rfl ?_
  refine sMv (v := .bool true) rfl ?_
  refine sG rfl rfl ?_
  refine sMv (v := nv _) rfl ?_
  refine sG rfl rfl ?_
  refine sBin (v := .bool true) (a := 6) (b := 6) rfl rfl (eqlT rfl) ?_
  refine sP (v := .bool true) rfl ?_
  refine sAs (v := .bool _) rfl ?_
  refine sNil (kSeqN ?_)
  refine cRet ?_
  exact ⟨.inr rfl, _, rfl, rfl, ((((((((((((((((((((((((((((((((((((((((((((((((((((((((((((((((((((((((((((x19.trans x20).trans x21).trans x22).trans xs1).trans x25).trans x29).trans x30).trans x31).trans x32).trans x33).trans x37).trans x38).trans xs6).trans x42).trans x43).trans x47).trans x48).trans x52).trans x59).trans x74).trans x75).trans x76).trans x77).trans x78).trans x79).trans x80).trans x81).trans x82).trans x98).trans x118).trans x119).trans x123).trans x124).trans xs14).trans x128).trans x129).trans x130).trans x131).trans x132).trans xs15).trans x135).trans x136).trans x137).trans x138).trans x139).trans x140).trans x141).trans x142).trans x143).trans x144).trans x145).trans x146).trans x147).trans x148).trans x149).trans x150).trans x151).trans x152).trans x153).trans x154).trans x155).trans x156).trans xs16).trans x159).trans x160).trans x165).trans x166).trans x170).trans x171).trans x172).trans x173).trans x174).trans x175).trans x176).trans x177).trans x196)⟩
end Go.AM

/-! ### R32 -/
namespace Go.AM
open Go.Proofs
set_option maxRecDepth 100000
set_option linter.unusedVariables false
set_option linter.unusedSimpArgs false
end Go.AM

/-! ### R33 -/
namespace Go.AM
open Go.Proofs
set_option maxRecDepth 100000
set_option linter.unusedVariables false
set_option linter.unusedSimpArgs false
end Go.AM

/-! ### N7 -/
namespace Go.AM
open Go.Proofs
set_option maxRecDepth 100000
set_option linter.unusedVariables false
set_option linter.unusedSimpArgs false
def refGate (i a : Nat) : Nat × List Nat := if offM i a = 0 then dnGate i a else upGate i a
def rfW (i : Nat) : Nat → Work → Work
  | 0, s => s
  | f + 1, s => if s.1.getD i 0 = i then s else rfW i f (doW (refGate i (s.1.getD i 0)) s)
def refW (p : List Nat) : Nat → Work
  | 0 => (p, [])
  | i + 1 => rfW i 6 (refW p i)
def measO (i a : Nat) : Nat := (wiresM (offM i a)).length + (wiresM (offM a i)).length
set_option synthInstance.maxSize 2000 in
set_option synthInstance.maxHeartbeats 400000 in
theorem up_more : ∀ a < 8, ∀ i < 8, ¬ a &&& i = i → (wiresM (offM (turnM a (upGate i a).2) i)).length = (wiresM (offM a i)).length := by decide +kernel
theorem off_zero : ∀ a < 8, ∀ i < 8, (offM i a = 0 ↔ a &&& i = i) := by decide +kernel
theorem off_len : ∀ a < 8, ∀ i < 8, ((wiresM (offM i a)).length = 0 → a &&& i = i) ∧ (a &&& i = i → (wiresM (offM i a)).length = 0) ∧ (a &&& i = i → (wiresM (offM a i)).length = 0 → a = i) := by decide +kernel
theorem ref_zero : ∀ a < 8, a ≠ 0 → refGate 0 a = turnG ((wiresM a).headD 0) [] ∧ wiresM (turnM a [(wiresM a).headD 0]) = (wiresM a).tail ∧ wiresM a ≠ [] := by decide +kernel
theorem FInv.ref {n i : Nat} {F : List Nat} (h : FInv n i F) (hn : n ≤ 3) (hi : i < 2 ^ n) (hc : ¬ F.getD i 0 = i) :
    FInv n i (doL (refGate i (F.getD i 0)).2 F) ∧ measO i ((doL (refGate i (F.getD i 0)).2 F).getD i 0) < measO i (F.getD i 0) := by
  obtain ⟨h1, h2⟩ := h.at hi
  have h8 := two_pow3 hn
  have ha : F.getD i 0 < 8 := by omega
  have hi8 : i < 8 := by omega
  by_cases hz : offM i (F.getD i 0) = 0
  · have ha' := (off_zero _ ha _ hi8).1 hz
    obtain ⟨k1, k2, k3⟩ := h.dn hn hi ha' hc
    unfold refGate
    rw [if_pos hz]
    refine ⟨k1, ?_⟩
    have k4 := (k1.at hi).2
    have k5 := (off_len _ (show (doL (dnGate i (F.getD i 0)).2 F).getD i 0 < 8 by omega) _ hi8).2.1 k2
    unfold measO; omega
  · have ha' : ¬ F.getD i 0 &&& i = i := fun h => hz ((off_zero _ ha _ hi8).2 h)
    obtain ⟨k1, k2⟩ := h.up hn hi ha'
    unfold refGate
    rw [if_neg hz]
    refine ⟨k1, ?_⟩
    have k3 := up_more _ ha _ hi8 ha'
    rw [doL_getD h1] at k2 ⊢
    unfold measO; omega
theorem rfW_done {i : Nat} {s : Work} (h : s.1.getD i 0 = i) : ∀ f, rfW i f s = s
  | 0 => rfl
  | f + 1 => by rw [rfW, if_pos h]
section
variable {n i : Nat}
theorem rf_dn (hn : n ≤ 3) (hi : i < 2 ^ n) : ∀ (f : Nat) (s : Work), FInv n i s.1 → s.1.getD i 0 &&& i = i → rfW i f s = dnW i f s
  | 0, s, _, _ => rfl
  | f + 1, s, h, ha => by
    have h8 := two_pow3 hn
    have h2 := (h.at hi).2
    rw [rfW, dnW]
    split
    · rfl
    · rename_i hc
      obtain ⟨k1, k2, _⟩ := h.dn hn hi ha hc
      rw [refGate, if_pos ((off_zero _ (by omega) _ (by omega)).2 ha)]
      exact rf_dn hn hi f (doW (dnGate i (s.1.getD i 0)) s) k1 k2
theorem dn_fuel (hn : n ≤ 3) (hi : i < 2 ^ n) : ∀ (f : Nat) (s : Work), FInv n i s.1 → s.1.getD i 0 &&& i = i → (wiresM (offM (s.1.getD i 0) i)).length ≤ f → (∀ g, dnW i (f + g) s = dnW i f s) ∧ FInv n i (dnW i f s).1 ∧ (dnW i f s).1.getD i 0 = i
  | 0, s, h, ha, hl => by
    have h8 := two_pow3 hn
    have h2 := (h.at hi).2
    have e := (off_len _ (show s.1.getD i 0 < 8 by omega) _ (show i < 8 by omega)).2.2 ha (by omega)
    exact ⟨fun g => by rw [dnW_done e, dnW_done e], h, e⟩
  | f + 1, s, h, ha, hl => by
    by_cases hc : s.1.getD i 0 = i
    · rw [dnW_done hc]
      exact ⟨fun g => dnW_done hc _, h, hc⟩
    · obtain ⟨k1, k2, k3⟩ := h.dn hn hi ha hc
      obtain ⟨r1, r2, r3⟩ := dn_fuel hn hi f (doW (dnGate i (s.1.getD i 0)) s) k1 k2 (by show (wiresM (offM ((doL (dnGate i (s.1.getD i 0)).2 s.1).getD i 0) i)).length ≤ f; omega)
      have e : ∀ g, dnW i (f + 1 + g) s = dnW i (f + g) (doW (dnGate i (s.1.getD i 0)) s) := fun g => by rw [show f + 1 + g = f + g + 1 by omega, dnW, if_neg hc]
      have e0 : dnW i (f + 1) s = dnW i f (doW (dnGate i (s.1.getD i 0)) s) := e 0
      rw [e0]
      exact ⟨fun g => by rw [e, r1], r2, r3⟩
theorem rf_up (hn : n ≤ 3) (hi : i < 2 ^ n) : ∀ (fu : Nat) (s : Work), FInv n i s.1 → (wiresM (offM i (s.1.getD i 0))).length ≤ fu → ∀ fd, (wiresM (offM (s.1.getD i 0) i)).length ≤ fd → rfW i (fu + fd) s = dnW i fd (upW i fu s) ∧ FInv n i (dnW i fd (upW i fu s)).1 ∧ (dnW i fd (upW i fu s)).1.getD i 0 = i
  | 0, s, h, hl, fd, hd => by
    have h8 := two_pow3 hn
    have h2 := (h.at hi).2
    have e := (off_len _ (show s.1.getD i 0 < 8 by omega) _ (show i < 8 by omega)).1 (by omega)
    obtain ⟨r1, r2, r3⟩ := dn_fuel hn hi fd s h e hd
    exact ⟨by rw [Nat.zero_add]; exact rf_dn hn hi fd s h e, r2, r3⟩
  | fu + 1, s, h, hl, fd, hd => by
    have h8 := two_pow3 hn
    obtain ⟨h1, h2⟩ := h.at hi
    by_cases hc : s.1.getD i 0 &&& i = i
    · rw [upW_done hc]
      obtain ⟨r1, r2, r3⟩ := dn_fuel hn hi fd s h hc hd
      exact ⟨by rw [rf_dn hn hi _ s h hc, Nat.add_comm, r1], r2, r3⟩
    · obtain ⟨k1, k2⟩ := h.up hn hi hc
      have k3 := up_more _ (show s.1.getD i 0 < 8 by omega) _ (show i < 8 by omega) hc
      have e1 : rfW i (fu + 1 + fd) s = rfW i (fu + fd) (doW (upGate i (s.1.getD i 0)) s) := by
        rw [show fu + 1 + fd = fu + fd + 1 by omega, rfW, if_neg (fun e => hc (by rw [e, Nat.and_self])), refGate, if_neg (fun e => hc ((off_zero _ (by omega) _ (by omega)).1 e))]
      have e2 : upW i (fu + 1) s = upW i fu (doW (upGate i (s.1.getD i 0)) s) := by rw [upW, if_neg hc]
      rw [e1, e2]
      refine rf_up hn hi fu (doW (upGate i (s.1.getD i 0)) s) k1 ?_ fd ?_
      · show (wiresM (offM i ((doL (upGate i (s.1.getD i 0)).2 s.1).getD i 0))).length ≤ fu
        omega
      · show (wiresM (offM ((doL (upGate i (s.1.getD i 0)).2 s.1).getD i 0) i)).length ≤ fd
        rw [doL_getD h1, k3]; exact hd
end
theorem rf_six {n i : Nat} (hn : n ≤ 3) (hi : i < 2 ^ n) {s : Work} (h : FInv n i s.1) : rfW i 6 s = dnW i 3 (upW i 3 s) ∧ FInv n (i + 1) (dnW i 3 (upW i 3 s)).1 := by
  have h8 := two_pow3 hn
  have h2 := (h.at hi).2
  obtain ⟨o1, o2⟩ := off_facts _ (show s.1.getD i 0 < 8 by omega) _ (show i < 8 by omega)
  obtain ⟨r1, r2, r3⟩ := rf_up hn hi 3 s h o1 3 o2
  exact ⟨r1, r2.next hi r3⟩
theorem rf_zer {n : Nat} (hn : n ≤ 3) : ∀ (ks : List Nat) (s : Work) (f : Nat), FInv n 0 s.1 → wiresM (s.1.getD 0 0) = ks → ks.length ≤ f → rfW 0 f s = zerW s ks
  | [], s, f, h, hk, hf => by
    have h8 := two_pow3 hn
    have h2 := (h.at (Nat.pow_pos (by decide))).2
    have e : s.1.getD 0 0 = 0 := Decidable.byContradiction fun e => (ref_zero _ (by omega) e).2.2 hk
    rw [rfW_done e]; rfl
  | k :: ks, s, 0, h, hk, hf => by simp at hf
  | k :: ks, s, f + 1, h, hk, hf => by
    have h8 := two_pow3 hn
    have hp : 0 < 2 ^ n := Nat.pow_pos (by decide)
    obtain ⟨h1, h2⟩ := h.at hp
    have e : ¬ s.1.getD 0 0 = 0 := fun e => by rw [e] at hk; cases hk
    obtain ⟨q1, q2, _⟩ := ref_zero _ (show s.1.getD 0 0 < 8 by omega) e
    obtain ⟨k1, _⟩ := h.ref hn hp e
    rw [rfW, if_neg e]
    rw [hk] at q1 q2
    rw [q1] at k1 ⊢
    exact rf_zer hn ks (doW (turnG k []) s) f k1 (by
      show wiresM ((doL [k] s.1).getD 0 0) = ks
      rw [doL_getD h1]; exact q2) (by simp at hf; omega)
theorem refW_cir {n : Nat} {p : List Nat} (hn : n ≤ 3) (h : FInv n 0 p) : ∀ i, i < 2 ^ n → refW p (i + 1) = cirW p i ∧ FInv n (i + 1) (cirW p i).1
  | 0, hi => by
    have h8 := two_pow3 hn
    have h2 := (h.at hi).2
    refine ⟨?_, zerW_one hn h⟩
    exact rf_zer hn _ (p, []) 6 h rfl (by have := (wires8 _ (show p.getD 0 0 < 8 by omega)).1; show (wiresM (p.getD 0 0)).length ≤ 6; omega)
  | i + 1, hi => by
    obtain ⟨r1, r2⟩ := refW_cir hn h i (by omega)
    obtain ⟨q1, q2⟩ := rf_six hn hi r2
    refine ⟨?_, q2⟩
    rw [refW, r1, q1]; rfl
theorem refW_inv {n : Nat} {p : List Nat} (hn : n ≤ 3) (h : FInv n 0 p) : ∀ i, i ≤ 2 ^ n → FInv n i (refW p i).1
  | 0, _ => h
  | i + 1, hi => by
    obtain ⟨r1, r2⟩ := refW_cir hn h i (by omega)
    rw [r1]; exact r2
theorem circ_ref {L : List Nat} {n : Nat} (hn : n ≤ 3) (hL : L.length = 2 ^ n) (h : FInv n 0 L) (h0 : wideE (ofs L) = 0) : circP (ofs L) = (refW L L.length).2.reverse := by
  have hp : 0 < 2 ^ n := Nat.pow_pos (by decide)
  rw [circP, if_pos h0, nats_ofs, ofs_length]
  obtain ⟨r1, _⟩ := refW_cir hn h (L.length - 1) (by omega)
  rw [show L.length - 1 + 1 = L.length by omega] at r1
  rw [r1]
end Go.AM

/-! ### R34 -/
namespace Go.AM
open Go.Proofs
set_option maxRecDepth 100000
set_option linter.unusedVariables false
set_option linter.unusedSimpArgs false
/-- A gate ahead of others. -/
theorem OwnG.cons {N : Nat} {m : Mem} {bl kd : Nat} {ws : Value} {w : List Nat} (hg : Mem.get m bl = .cells true #[nv kd, ws, nv 0, nv 0]) (hN : N ≤ bl) (hw : OwnF N m ws (ofs w)) (hb : ∀ b, blkOf ws = some b → b ≠ bl) :
    OwnG N m (.slice (some ⟨bl, 0, some 4⟩) 1 1) #[nv kd, ws, nv 0, nv 0] [(kd, w)] := by
  refine ⟨.inr ⟨bl, 1, _, rfl, hN, hg, Nat.le_refl _, rfl, rfl, fun i _ => rfl⟩, fun i g hi => ?_⟩
  have h1 := (List.getElem?_eq_some_iff.1 hi).1
  obtain rfl : i = 0 := by simp at h1; exact h1
  obtain rfl : (kd, w) = g := by simpa using hi
  exact ⟨ws, rfl, rfl, rfl, rfl, hw, fun b h e => by injection e with e; exact hb b h e.symm⟩
end Go.AM

/-! ### R35 -/
namespace Go.AM
open Go.Proofs
set_option maxRecDepth 100000
set_option linter.unusedVariables false
set_option linter.unusedSimpArgs false
/-- What was met, in a row of truths. -/
def MetB (m : Mem) (b n : Nat) (met : List Nat) : Prop := ∃ B, Mem.get m b = .cells true B ∧ B.size = n ∧ ∀ y, y < n → B[y]? = some (.bool (decide (y ∈ met)))
theorem MetB.keep {m m' : Mem} {b n : Nat} {met : List Nat} (h : MetB m b n met) (he : Mem.get m' b = Mem.get m b) : MetB m' b n met := by
  obtain ⟨B, h1, h2⟩ := h; exact ⟨B, he.trans h1, h2⟩
def sumLen (l : List (List Nat)) : Nat := (l.map fun c => c.length - 1).sum
theorem sumLen_snoc (l : List (List Nat)) (c : List Nat) : sumLen (l ++ [c]) = sumLen l + (c.length - 1) := by simp [sumLen]
theorem even_sum : ∀ l : List (List Nat), (∀ c ∈ l, 0 < c.length) → (l.foldl (fun e c => e != decide (c.length % 2 = 0)) true) = decide (sumLen l % 2 = 0) := by
  refine list_snoc _ (fun _ => rfl) (fun l c ih h => ?_)
  rw [List.foldl_append, sumLen_snoc, ih (fun d hd => h d (by simp [hd]))]
  have h0 := h c (by simp)
  show (decide (sumLen l % 2 = 0) != decide (c.length % 2 = 0)) = _
  by_cases h1 : sumLen l % 2 = 0 <;> by_cases h2 : c.length % 2 = 0
  · rw [decide_eq_true h1, decide_eq_true h2, decide_eq_false (by omega)]; rfl
  · rw [decide_eq_true h1, decide_eq_false h2, decide_eq_true (by omega)]; rfl
  · rw [decide_eq_false h1, decide_eq_true h2, decide_eq_true (by omega)]; rfl
  · rw [decide_eq_false h1, decide_eq_false h2, decide_eq_false (by omega)]; rfl
theorem cycUp_two {p : List Nat} : ∀ i, ∀ c ∈ (cycUp p i).2, 1 < c.length
  | 0, c, h => by simp [cycUp] at h
  | i + 1, c, h => by
    simp only [cycUp] at h
    split at h
    · rename_i h1
      rw [List.mem_append] at h
      rcases h with h | h
      · exact cycUp_two i c h
      · simp at h; subst h; exact h1
    · exact cycUp_two i c h
theorem cyclesP_two {p : List Int} : ∀ c ∈ cyclesP p, 1 < c.length := by
  intro c h
  unfold cyclesP at h
  split at h
  · exact cycUp_two _ c h
  · simp at h
theorem cycUp_most {p : List Nat} : ∀ i, ∀ c ∈ (cycUp p i).2, c.length ≤ p.length + 1
  | 0, c, h => by simp [cycUp] at h
  | i + 1, c, h => by
    simp only [cycUp] at h
    split at h
    · rw [List.mem_append] at h
      rcases h with h | h
      · exact cycUp_most i c h
      · simp at h; subst h
        have := cycW_len (p := p) (p.length + 1) (cycUp p i).1 [] i
        simpa using this
    · exact cycUp_most i c h
theorem cyclesP_most {p : List Int} : ∀ c ∈ cyclesP p, c.length ≤ 9 := by
  intro c h
  unfold cyclesP at h
  split at h
  · rename_i h0
    obtain ⟨L, rfl, _, _, h8⟩ := wide_nat h0
    have := cycUp_most _ c h
    rw [nats_ofs] at this
    omega
  · simp at h
end Go.AM

/-! ### R36 -/
namespace Go.AM
open Go.Proofs
set_option maxRecDepth 100000
set_option linter.unusedVariables false
set_option linter.unusedSimpArgs false
end Go.AM

/-! ### R38 -/
namespace Go.AM
open Go.Proofs
set_option maxRecDepth 100000
set_option linter.unusedVariables false
set_option linter.unusedSimpArgs false
end Go.AM

/-! ### N8 -/
namespace Go.AM
open Go.Proofs
set_option maxRecDepth 100000
set_option linter.unusedVariables false
set_option linter.unusedSimpArgs false
/-- A table of n wires. -/
def PermT (n : Nat) (p : List Nat) : Prop := p.length = 2 ^ n ∧ ∀ x ∈ p, x < 2 ^ n
theorem PermT.range (n : Nat) : PermT n (List.range (2 ^ n)) := ⟨by simp, fun x hx => by simpa using hx⟩
/-- The list of what was met, and the levels. -/
structure Cor (n d a b : Nat) (L : List Met) (K : List (List Nat)) : Prop where
  tab : L.map (·.tab) = K.map tab8
  per : ∀ p ∈ K, PermT n p
  lo : ∀ (j : Nat) e, L[j]? = some e → j < a → e.many < d
  mid : ∀ (j : Nat) e, L[j]? = some e → a ≤ j → j < b → e.many = d
  hi : ∀ (j : Nat) e, L[j]? = some e → b ≤ j → e.many = d + 1
  le : a ≤ b ∧ b ≤ L.length
theorem Cor.len {n d a b : Nat} {L : List Met} {K : List (List Nat)} (h : Cor n d a b L K) : L.length = K.length := by
  have := congrArg List.length h.tab
  simpa using this
theorem Cor.at {n d a b : Nat} {L : List Met} {K : List (List Nat)} (h : Cor n d a b L K) {i : Nat} (hi : i < L.length) : ∃ e, L[i]? = some e ∧ e.tab = tab8 (K.getD i []) ∧ PermT n (K.getD i []) := by
  have hk : i < K.length := by rw [← h.len]; exact hi
  refine ⟨L[i], List.getElem?_eq_getElem hi, ?_, ?_⟩
  · have := congrArg (·[i]?) h.tab
    simp only [List.getElem?_map, List.getElem?_eq_getElem hi, List.getElem?_eq_getElem hk, Option.map_some, Option.some.injEq] at this
    rw [this, List.getD_eq_getElem?_getD, List.getElem?_eq_getElem hk]; rfl
  · rw [List.getD_eq_getElem?_getD, List.getElem?_eq_getElem hk]; exact h.per _ (List.getElem_mem _)
end Go.AM

/-! ### R39 -/
namespace Go.AM
open Go.Proofs
set_option maxRecDepth 100000
set_option linter.unusedVariables false
set_option linter.unusedSimpArgs false
/-- Rows that may be read, and stay so while a map's place and a list's place are written. -/
def SupR (mb : Nat) (v : Value) (m : Mem) (s : Value) (G : List (List Int)) : Prop := ∃ S : Nat → Prop, (∀ b, S b → b < m.size ∧ b ≠ mb ∧ blkOf v ≠ some b) ∧ (∀ m', (∀ b, S b → Mem.get m' b = Mem.get m b) → RowsAt m' s G) ∧
  ∀ (i : Nat) g, G[i]? = some g → ∃ b cap r c t, s = .slice (some ⟨b, 0, some 1⟩) G.length cap ∧ S b ∧ Mem.get m b = .cells r c ∧ c[i]? = some t ∧ ∀ m', (∀ b, S b → Mem.get m' b = Mem.get m b) → IntsAt m' t g
theorem SupR.keep {mb : Nat} {v s : Value} {m m' : Mem} {G : List (List Int)} (h : SupR mb v m s G) (hz : m.size ≤ m'.size) (hk : ∀ b, b < m.size → b ≠ mb → Mem.get m' b = Mem.get m b) : SupR mb v m' s G := by
  obtain ⟨S, h1, h2, h3⟩ := h
  have hS : ∀ b, S b → Mem.get m' b = Mem.get m b := fun b hb => hk b (h1 b hb).1 (h1 b hb).2.1
  exact ⟨S, fun b hb => ⟨by have := (h1 b hb).1; omega, (h1 b hb).2⟩, fun m2 hm => h2 m2 fun b hb => (hm b hb).trans (hS b hb), fun i g hi => by
    obtain ⟨b, cap, r, c, t, e, hb, hg, ht, hI⟩ := h3 i g hi
    exact ⟨b, cap, r, c, t, e, hb, (hS b hb).trans hg, ht, fun m2 hm => hI m2 fun b hb => (hm b hb).trans (hS b hb)⟩⟩
/-- Lists of rows. -/
def Lv3 (N mb : Nat) (m : Mem) (v : Value) (cs : Array Value) (D : List (List (List Nat))) : Prop := OwnC N m v 1 D.length cs ∧ ∀ (d : Nat) l, D[d]? = some l → ∃ s, cs[d]? = some s ∧ SupR mb v m s (ofs2 l)
theorem Lv3.keep {N mb : Nat} {m m' : Mem} {v : Value} {cs : Array Value} {D : List (List (List Nat))} (h : Lv3 N mb m v cs D) (hN : mb < N) (hz : m.size ≤ m'.size) (hk : ∀ b, b < m.size → b ≠ mb → Mem.get m' b = Mem.get m b) : Lv3 N mb m' v cs D :=
  ⟨h.1.up fun b h1 h2 => hk b h2 (by omega), fun d l hd => by obtain ⟨s, a1, a2⟩ := h.2 d l hd; exact ⟨s, a1, a2.keep hz hk⟩⟩
end Go.AM

/-! ### R41 -/
namespace Go.AM
open Go.Proofs
set_option maxRecDepth 100000
set_option linter.unusedVariables false
set_option linter.unusedSimpArgs false
end Go.AM

/-! ### R42 -/
namespace Go.AM
open Go.Proofs
set_option maxRecDepth 100000
set_option linter.unusedVariables false
set_option linter.unusedSimpArgs false
end Go.AM

/-! ### N9 -/
namespace Go.AM
open Go.Proofs
set_option maxRecDepth 100000
set_option linter.unusedVariables false
set_option linter.unusedSimpArgs false
end Go.AM

/-! ### R37 -/
namespace Go.AM
open Go.Proofs
set_option maxRecDepth 100000
set_option linter.unusedVariables false
set_option linter.unusedSimpArgs false
theorem eqlBool (q : Bool) : aBin Tryd.prog .eql 4 (.bool q) (.bool q) = some (.bool true) := by cases q <;> kernel_rfl
end Go.AM

/-! ### N10 -/
namespace Go.AM
open Go.Proofs
set_option maxRecDepth 100000
set_option linter.unusedVariables false
set_option linter.unusedSimpArgs false
/-! ### The circuit of a permutation -/
def capO (n i : Nat) : Nat := if n = 3 then [3, 3, 3, 3, 2, 2, 1, 0].getD i 0 else if n = 2 then [2, 2, 1, 0].getD i 0 else [1, 0].getD i 0
def capSum (n : Nat) : Nat → Nat
  | 0 => 0
  | i + 1 => capSum n i + capO n i
set_option synthInstance.maxSize 2000 in
set_option synthInstance.maxHeartbeats 400000 in
theorem meas_cap : ∀ n < 4, 0 < n → ∀ a < 2 ^ n, ∀ i < 2 ^ n, i ≤ a → measO i a ≤ capO n i := by decide +kernel
set_option synthInstance.maxSize 2000 in
set_option synthInstance.maxHeartbeats 400000 in
theorem ref_ok : ∀ n < 4, ∀ a < 2 ^ n, ∀ i < 2 ^ n, a ≠ i → (((refGate i a).1 = 1 ∧ (refGate i a).2.length = 1) ∨ ((refGate i a).1 = 9 ∧ (refGate i a).2.length = 2) ∨ ((refGate i a).1 = 12 ∧ (refGate i a).2.length = 3)) ∧ (∀ w ∈ (refGate i a).2, w < n) ∧ (refGate i a).2.Nodup ∧ ∀ x < 2 ^ n, turnM (turnM x (refGate i a).2) (refGate i a).2 = x := by decide +kernel
def GoodG (n : Nat) (g : Nat × List Nat) : Prop := GateOk n g ∧ ∀ x < 2 ^ n, turnM (turnM x g.2) g.2 = x
def GoodW (n : Nat) (p : List Nat) (s : Work) : Prop := s.1 = s.2.foldl (fun F g => doL g.2 F) p ∧ ∀ g ∈ s.2, GoodG n g
theorem rfW_good {n i : Nat} {p : List Nat} (hn : n ≤ 3) (hi : i < 2 ^ n) : ∀ (f : Nat) (s : Work), FInv n i s.1 → GoodW n p s → GoodW n p (rfW i f s) ∧ (rfW i f s).2.length ≤ s.2.length + measO i (s.1.getD i 0)
  | 0, s, _, h => ⟨h, by rw [rfW]; omega⟩
  | f + 1, s, hI, h => by
    rw [rfW]
    split
    · exact ⟨h, by omega⟩
    · rename_i hc
      obtain ⟨k1, k2⟩ := hI.ref hn hi hc
      obtain ⟨o1, o2, o3, o4⟩ := ref_ok n (by omega) _ (hI.at hi).2 i hi hc
      have hg : GoodW n p (doW (refGate i (s.1.getD i 0)) s) := by
        refine ⟨?_, fun g hg => ?_⟩
        · show doL _ s.1 = (s.2 ++ [_]).foldl _ p
          rw [List.foldl_append, ← h.1]; rfl
        · have hg' : g ∈ s.2 ++ [refGate i (s.1.getD i 0)] := hg
          rw [List.mem_append] at hg'
          rcases hg' with hg' | hg'
          · exact h.2 g hg'
          · rw [List.mem_singleton] at hg'; subst hg'; exact ⟨⟨o1, o2, o3⟩, o4⟩
      obtain ⟨r1, r2⟩ := rfW_good hn hi f (doW (refGate i (s.1.getD i 0)) s) k1 hg
      refine ⟨r1, ?_⟩
      rw [doW_len] at r2
      have k3 : measO i ((doW (refGate i (s.1.getD i 0)) s).1.getD i 0) < measO i (s.1.getD i 0) := k2
      omega
theorem refW_good {n : Nat} {p : List Nat} (hn : n ≤ 3) (hn0 : 0 < n) (h : FInv n 0 p) : ∀ i, i ≤ 2 ^ n → GoodW n p (refW p i) ∧ (refW p i).2.length ≤ capSum n i
  | 0, _ => ⟨⟨rfl, fun g hg => by cases hg⟩, Nat.le_refl _⟩
  | i + 1, hi => by
    obtain ⟨h1, h2⟩ := refW_good hn hn0 h i (by omega)
    have hI := refW_inv hn h i (by omega)
    obtain ⟨r1, r2⟩ := rfW_good (p := p) hn (show i < 2 ^ n by omega) 6 (refW p i) hI h1
    have hm := meas_cap n (by omega) hn0 _ (hI.at (show i < 2 ^ n by omega)).2 i (by omega) (hI.ge (by omega))
    refine ⟨r1, ?_⟩
    show (rfW i 6 (refW p i)).2.length ≤ capSum n i + capO n i
    omega
theorem run_back {n : Nat} {p : List Nat} (hp : ∀ x ∈ p, x < 2 ^ n) : ∀ Gs : List (Nat × List Nat), (∀ g ∈ Gs, GoodG n g) → (∀ y ∈ Gs.foldl (fun F g => doL g.2 F) p, y < 2 ^ n) ∧ ∀ (j x : Nat), p[j]? = some x → ∃ y, (Gs.foldl (fun F g => doL g.2 F) p)[j]? = some y ∧ runM Gs.reverse y = x := by
  refine list_snoc _ (fun _ => ⟨hp, fun j x hx => ⟨x, hx, rfl⟩⟩) (fun Gs g ih hg => ?_)
  obtain ⟨i1, i2⟩ := ih fun x hx => hg x (by simp [hx])
  obtain ⟨hgo, hinv⟩ := hg g (by simp)
  have h0 : 0 < g.2.length := by rcases hgo.kind with h | h | h <;> omega
  rw [List.foldl_append]
  refine ⟨fun y hy => ?_, fun j x hx => ?_⟩
  · have hy' : y ∈ doL g.2 (Gs.foldl (fun F g => doL g.2 F) p) := hy
    unfold doL at hy'
    rw [List.mem_map] at hy'
    obtain ⟨z, hz, rfl⟩ := hy'
    exact turnM_lt (i1 z hz) hgo.lt h0
  · obtain ⟨y, hy, e⟩ := i2 j x hx
    refine ⟨turnM y g.2, doL_get hy, ?_⟩
    rw [List.reverse_append]
    show runM Gs.reverse (turnM (turnM y g.2) g.2) = x
    rw [hinv y (i1 y (List.mem_of_getElem? hy)), e]
/-- What the circuit of a permutation is. -/
theorem circ_spec {L : List Nat} (hLl : ∀ x ∈ L, x < L.length) (hnd : L.Nodup) (hL8 : L.length = 2 ∨ L.length = 4 ∨ L.length = 8) (h0 : wideE (ofs L) = 0) :
    CircOk (lenN L.length) (circP (ofs L)) ∧ rtabM (lenN L.length) (circP (ofs L)) = L ∧ (circP (ofs L)).length ≤ (lenN L.length - 1) * 2 ^ lenN L.length + 1 := by
  obtain ⟨hn1, hn3, hn0⟩ := wide_len hL8
  generalize lenN L.length = n at *
  have hI0 : FInv n 0 L := ⟨hn1, fun x hx => by rw [← hn1]; exact hLl x hx, hnd, fun j hj => by omega⟩
  rw [circ_ref hn3 hn1 hI0 h0, hn1]
  obtain ⟨⟨g1, g2⟩, g3⟩ := refW_good hn3 hn0 hI0 (2 ^ n) (Nat.le_refl _)
  have hI := refW_inv hn3 hI0 (2 ^ n) (Nat.le_refl _)
  have hcap : capSum n (2 ^ n) ≤ (n - 1) * 2 ^ n + 1 := by
    have : n = 1 ∨ n = 2 ∨ n = 3 := by omega
    rcases this with rfl | rfl | rfl <;> decide
  have hcap2 : (n - 1) * 2 ^ n + 1 ≤ 17 := by
    have : n = 1 ∨ n = 2 ∨ n = 3 := by omega
    rcases this with rfl | rfl | rfl <;> decide
  refine ⟨⟨hn0, by omega, by rw [List.length_reverse]; omega, fun g hg => (g2 g (List.mem_reverse.1 hg)).1⟩, ?_, by rw [List.length_reverse]; omega⟩
  obtain ⟨_, b2⟩ := run_back (n := n) hI0.2.1 (refW L (2 ^ n)).2 g2
  rw [← g1] at b2
  apply List.ext_getElem?
  intro j
  unfold rtabM
  by_cases hj : j < 2 ^ n
  · rw [List.getElem?_map, List.getElem?_range hj]
    obtain ⟨x, hx⟩ : ∃ x, L[j]? = some x := ⟨_, List.getElem?_eq_getElem (by omega)⟩
    obtain ⟨y, hy, e⟩ := b2 j x hx
    rw [hI.2.2.2 j hj] at hy
    obtain rfl := Option.some.inj hy
    rw [hx, Option.map_some, e]
  · rw [List.getElem?_eq_none (by simp; omega), List.getElem?_eq_none (by omega)]
/-! ### The cycles of a permutation -/
/-- A list goes along a permutation, and on to x. -/
def Chain (p : List Nat) (l : List Nat) (x : Nat) : Prop := (∀ (k a b : Nat), l[k]? = some a → l[k + 1]? = some b → p.getD a 0 = b) ∧ ∀ a, l[l.length - 1]? = some a → 0 < l.length → p.getD a 0 = x
theorem Chain.snoc {p l : List Nat} {x : Nat} (h : Chain p l x) : Chain p (l ++ [x]) (p.getD x 0) := by
  refine ⟨fun k a b ha hb => ?_, fun a ha _ => ?_⟩
  · have hk : k + 1 < (l ++ [x]).length := (List.getElem?_eq_some_iff.1 hb).1
    simp at hk
    rw [List.getElem?_append_left (by omega)] at ha
    by_cases h1 : k + 1 < l.length
    · rw [List.getElem?_append_left h1] at hb
      exact h.1 k a b ha hb
    · rw [List.getElem?_append_right (by omega), show k + 1 - l.length = 0 by omega] at hb
      obtain rfl : x = b := by simpa using hb
      exact h.2 a (by rw [show l.length - 1 = k by omega]; exact ha) (by omega)
  · rw [List.length_append, List.length_singleton, Nat.add_sub_cancel, List.getElem?_append_right (Nat.le_refl _), Nat.sub_self] at ha
    obtain rfl : x = a := by simpa using ha
    rfl
/-- What was met is closed. -/
structure ClosedM (p met : List Nat) : Prop where
  nd : met.Nodup
  lt : ∀ y ∈ met, y < p.length
  pre : ∀ y, y < p.length → p.getD y 0 ∈ met → y ∈ met
theorem perm_inj {p : List Nat} (hnd : p.Nodup) {a b : Nat} (ha : a < p.length) (hb : b < p.length) (h : p.getD a 0 = p.getD b 0) : a = b := by
  rw [List.getD_eq_getElem?_getD, List.getD_eq_getElem?_getD, List.getElem?_eq_getElem ha, List.getElem?_eq_getElem hb] at h
  exact (List.getElem?_inj ha hnd).1 (by rw [List.getElem?_eq_getElem ha, List.getElem?_eq_getElem hb]; exact congrArg some h)
/-- A walk along a permutation comes back to where it began. -/
theorem cycW_spec {p met0 : List Nat} {i : Nat} (hnd : p.Nodup) (hp : ∀ x ∈ p, x < p.length) (h0 : ClosedM p met0) (hi : i < p.length) : ∀ (f : Nat) (l : List Nat) (x : Nat), Chain p l x → (l = [] → x = i) → (∀ a, l[0]? = some a → a = i) → (met0 ++ l).Nodup → (∀ y ∈ l, y < p.length) → x < p.length → p.length < f + (met0 ++ l).length →
    ∃ l', cycW p f (met0 ++ l) l x = (met0 ++ l', l') ∧ (met0 ++ l').Nodup ∧ (∀ y ∈ l', y < p.length) ∧ ((l' = [] ∧ i ∈ met0) ∨ (l'[0]? = some i ∧ Chain p l' i))
  | 0, l, x, hc, hx, hh, hn, hl, hxl, hf => by
    exfalso
    have := nodup_le hn (n := p.length) (fun y hy => by
      rw [List.mem_append] at hy
      exact hy.elim (h0.lt y) (hl y))
    omega
  | f + 1, l, x, hc, hx, hh, hn, hl, hxl, hf => by
    rw [cycW]
    by_cases hm : x ∈ met0 ++ l
    · rw [if_pos hm]
      refine ⟨l, rfl, hn, hl, ?_⟩
      rcases Nat.eq_zero_or_pos l.length with e | e
      · have e2 : l = [] := List.length_eq_zero_iff.1 e
        subst e2
        left
        obtain rfl := hx rfl
        exact ⟨rfl, by simpa using hm⟩
      · right
        obtain ⟨a, ha⟩ : ∃ a, l[0]? = some a := ⟨_, List.getElem?_eq_getElem e⟩
        have hai := hh a ha
        subst hai
        obtain ⟨b, hb⟩ : ∃ b, l[l.length - 1]? = some b := ⟨_, List.getElem?_eq_getElem (by omega)⟩
        have hpb := hc.2 b hb e
        have hbl := hl b (List.mem_of_getElem? hb)
        rw [List.nodup_append] at hn
        have hxi : x = a := by
          rw [List.mem_append] at hm
          rcases hm with hm | hm
          · exfalso
            have := h0.pre b hbl (by rw [hpb]; exact hm)
            exact hn.2.2 b this b (List.mem_of_getElem? hb) rfl
          · obtain ⟨j, hj, ej⟩ := List.getElem_of_mem hm
            rcases Nat.eq_zero_or_pos j with ej0 | ej0
            · subst ej0
              rw [List.getElem?_eq_getElem e] at ha
              rw [← ej]; exact Option.some.inj ha
            · exfalso
              obtain ⟨c, hc'⟩ : ∃ c, l[j - 1]? = some c := ⟨_, List.getElem?_eq_getElem (by omega)⟩
              have h1 := hc.1 (j - 1) c x hc' (by rw [show j - 1 + 1 = j by omega, List.getElem?_eq_getElem hj, ej])
              have h2 := perm_inj hnd (hl c (List.mem_of_getElem? hc')) hbl (h1.trans hpb.symm)
              have h3 := (List.getElem?_inj (show j - 1 < l.length by omega) hn.2.1).1 (hc'.trans ((congrArg some h2).trans hb.symm))
              omega
        rw [hxi] at hc
        exact ⟨ha, hc⟩
    · rw [if_neg hm, List.append_assoc]
      have hxp : p.getD x 0 < p.length := by
        rw [List.getD_eq_getElem?_getD, List.getElem?_eq_getElem hxl]; exact hp _ (List.getElem_mem _)
      refine cycW_spec hnd hp h0 hi f (l ++ [x]) (p.getD x 0) hc.snoc (fun h => by simp at h) (fun a ha => ?_) ?_ (fun y hy => ?_) hxp ?_
      · rcases Nat.eq_zero_or_pos l.length with e | e
        · have e2 : l = [] := List.length_eq_zero_iff.1 e
          subst e2
          obtain rfl := hx rfl
          simpa using ha.symm
        · rw [List.getElem?_append_left e] at ha
          exact hh a ha
      · rw [← List.append_assoc, List.nodup_append]
        exact ⟨hn, by simp, fun y hy z hz e => by rw [List.mem_singleton] at hz; subst hz; subst e; exact hm hy⟩
      · rw [List.mem_append] at hy
        rcases hy with hy | hy
        · exact hl y hy
        · rw [List.mem_singleton] at hy; subst hy; exact hxl
      · rw [← List.append_assoc, List.length_append, List.length_singleton]; omega
/-- What a list of cycles is like. -/
structure CycOk (p : List Nat) (i : Nat) (met : List Nat) (out : List (List Nat)) : Prop where
  cl : ClosedM p met
  all : ∀ j, j < i → j ∈ met
  sub : ∀ c ∈ out, ∀ y ∈ c, y ∈ met
  fix : ∀ y ∈ met, y ∉ out.flatten → p.getD y 0 = y
  nd : out.flatten.Nodup
  ch : ∀ c ∈ out, ∃ a, c[0]? = some a ∧ Chain p c a ∧ ∀ y ∈ c, a ≤ y
  inc : ∀ (k a b : Nat), (out[k]?.bind (·[0]?)) = some a → (out[k + 1]?.bind (·[0]?)) = some b → a < b
  hd : ∀ (k a : Nat), (out[k]?.bind (·[0]?)) = some a → a < i
theorem CycOk.step {p : List Nat} (hnd : p.Nodup) (hp : ∀ x ∈ p, x < p.length) : ∀ i, i ≤ p.length → CycOk p i (cycUp p i).1 (cycUp p i).2
  | 0, _ => ⟨⟨by simp [cycUp], by simp [cycUp], by simp [cycUp]⟩, by omega, by simp [cycUp], by simp [cycUp], by simp [cycUp], by simp [cycUp], by simp [cycUp], by simp [cycUp]⟩
  | i + 1, hi => by
    have h := CycOk.step hnd hp i (by omega)
    obtain ⟨l, h1, h2, h3, h4⟩ := cycW_spec hnd hp h.cl (show i < p.length by omega) (p.length + 1) [] i ⟨by simp, by simp⟩ (fun _ => rfl) (by simp) (by simpa using h.cl.nd) (by simp) (by omega) (by simp; omega)
    rw [List.append_nil] at h1
    simp only [cycUp, h1]
    generalize hmet : (cycUp p i).1 = met at *
    generalize hout : (cycUp p i).2 = out at *
    rw [List.nodup_append] at h2
    obtain ⟨n1, n2, n3⟩ := h2
    have hlm : ∀ y ∈ l, y ∉ met := fun y hy hm => n3 y hm y hy rfl
    have hge : ∀ y ∈ l, i ≤ y := fun y hy => by
      rcases Nat.lt_or_ge y i with h5 | h5
      · exact absurd (h.all y h5) (hlm y hy)
      · exact h5
    have hcl : ClosedM p (met ++ l) := by
      refine ⟨List.nodup_append.2 ⟨n1, n2, n3⟩, fun y hy => ?_, fun y hy hm => ?_⟩
      · rw [List.mem_append] at hy
        exact hy.elim (h.cl.lt y) (h3 y)
      · rw [List.mem_append] at hm ⊢
        rcases hm with hm | hm
        · exact .inl (h.cl.pre y hy hm)
        · rcases h4 with ⟨e, _⟩ | ⟨e, hc⟩
          · rw [e] at hm; cases hm
          · right
            obtain ⟨j, hj, ej⟩ := List.getElem_of_mem hm
            rcases Nat.eq_zero_or_pos j with e0 | e0
            · subst e0
              obtain ⟨b, hb⟩ : ∃ b, l[l.length - 1]? = some b := ⟨_, List.getElem?_eq_getElem (by omega)⟩
              have h5 := hc.2 b hb (by omega)
              have h6 : p.getD y 0 = i := by
                rw [List.getElem?_eq_getElem hj] at e
                rw [← ej]; exact Option.some.inj e
              rw [perm_inj hnd hy (h3 b (List.mem_of_getElem? hb)) (h6.trans h5.symm)]
              exact List.mem_of_getElem? hb
            · obtain ⟨c, hc'⟩ : ∃ c, l[j - 1]? = some c := ⟨_, List.getElem?_eq_getElem (by omega)⟩
              have h5 := hc.1 (j - 1) c _ hc' (by rw [show j - 1 + 1 = j by omega]; exact List.getElem?_eq_getElem hj)
              rw [perm_inj hnd hy (h3 c (List.mem_of_getElem? hc')) (by rw [h5, ej])]
              exact List.mem_of_getElem? hc'
    have hall : ∀ j, j < i + 1 → j ∈ met ++ l := fun j hj => by
      rw [List.mem_append]
      by_cases e : j < i
      · exact .inl (h.all j e)
      · obtain rfl : j = i := by omega
        rcases h4 with ⟨_, hm⟩ | ⟨e1, _⟩
        · exact .inl hm
        · exact .inr (List.mem_of_getElem? e1)
    by_cases hl1 : 1 < l.length
    · rw [if_pos hl1]
      have hci : l[0]? = some i ∧ Chain p l i := by
        rcases h4 with ⟨e, _⟩ | h4
        · rw [e] at hl1; simp at hl1
        · exact h4
      refine ⟨hcl, hall, fun c hc y hy => ?_, fun y hy hn => ?_, ?_, fun c hc => ?_, fun k a b ha hb => ?_, fun k a ha => ?_⟩
      · rw [List.mem_append] at hc ⊢
        rcases hc with hc | hc
        · exact .inl (h.sub c hc y hy)
        · rw [List.mem_singleton] at hc; subst hc; exact .inr hy
      · rw [List.flatten_append] at hn
        simp only [List.flatten_cons, List.flatten_nil, List.append_nil, List.mem_append, not_or] at hn
        rw [List.mem_append] at hy
        rcases hy with hy | hy
        · exact h.fix y hy hn.1
        · exact absurd hy hn.2
      · rw [List.flatten_append]
        simp only [List.flatten_cons, List.flatten_nil, List.append_nil]
        rw [List.nodup_append]
        refine ⟨h.nd, n2, fun a ha b hb e => ?_⟩
        subst e
        rw [List.mem_flatten] at ha
        obtain ⟨c, hc, hac⟩ := ha
        exact hlm a hb (h.sub c hc a hac)
      · rw [List.mem_append] at hc
        rcases hc with hc | hc
        · exact h.ch c hc
        · rw [List.mem_singleton] at hc; subst hc; exact ⟨i, hci.1, hci.2, hge⟩
      · by_cases hk : k + 1 < out.length
        · rw [List.getElem?_append_left (by omega)] at ha hb
          exact h.inc k a b ha hb
        · by_cases hk2 : k < out.length
          · rw [List.getElem?_append_left hk2] at ha
            rw [List.getElem?_append_right (by omega), show k + 1 - out.length = 0 by omega] at hb
            have hb' : i = b := by
              have : l[0]? = some b := by simpa using hb
              rw [hci.1] at this; exact Option.some.inj this
            have := h.hd k a ha
            omega
          · rw [List.getElem?_eq_none (by simp; omega)] at hb; cases hb
      · by_cases hk2 : k < out.length
        · rw [List.getElem?_append_left hk2] at ha
          have := h.hd k a ha; omega
        · by_cases hk3 : k = out.length
          · subst hk3
            rw [List.getElem?_append_right (Nat.le_refl _), Nat.sub_self] at ha
            have : l[0]? = some a := by simpa using ha
            rw [hci.1] at this
            have := Option.some.inj this
            omega
          · rw [List.getElem?_eq_none (by simp; omega)] at ha; cases ha
    · rw [if_neg hl1]
      refine ⟨hcl, hall, fun c hc y hy => List.mem_append_left _ (h.sub c hc y hy), fun y hy hn => ?_, h.nd, h.ch, h.inc, fun k a ha => by have := h.hd k a ha; omega⟩
      rw [List.mem_append] at hy
      rcases hy with hy | hy
      · exact h.fix y hy hn
      · rcases h4 with ⟨e, _⟩ | ⟨e, hc⟩
        · rw [e] at hy; cases hy
        · have hlen : l.length = 1 := by
            have := (List.getElem?_eq_some_iff.1 e).1
            omega
          have h5 := hc.2 i (by rw [hlen]; exact e) (by omega)
          match l, hlen, hy, e with
          | [z], _, hy, e =>
            simp at e hy
            rw [hy, e]; exact h5
end Go.AM

/-! ### R44 -/
namespace Go.AM
open Go.Proofs
set_option maxRecDepth 100000
set_option linter.unusedVariables false
set_option linter.unusedSimpArgs false
theorem sMin {ρ : Env} {m : Mem} {K : Env → Mem → Prop} {ops : Array Oper} {l : List Oper} {d : Option Nat} {ty : TypeId} {pos : String} {af : Array Edge} {x y : Operand} {tys : Array TypeId} {a b : Nat} (hx : evR ρ x = nv a) (hy : evR ρ y = nv b) (hk : wpOps Tryd.prog ops K l (updO ρ d (nv (min a b))) m) :
    wpOps Tryd.prog ops K (⟨d, .call ⟨.builtin .min, ⟨[x, y]⟩, tys⟩, ty, pos, af, none⟩ :: l) ρ m := by
  refine sP (v := nv (min a b)) ?_ hk
  simp only [aPure, List.map_cons, List.map_nil, hx, hy, minNN]
theorem lenN_three {n : Nat} (h : 1 ≤ n ∧ n ≤ 3) : (2 ^ n = 2 ∨ 2 ^ n = 4 ∨ 2 ^ n = 8) := by
  have : n = 1 ∨ n = 2 ∨ n = 3 := by omega
  rcases this with rfl | rfl | rfl <;> simp
theorem wide_ok {L : List Nat} (hLl : ∀ x ∈ L, x < L.length) (hnd : L.Nodup) (h8 : L.length = 2 ∨ L.length = 4 ∨ L.length = 8) : wideE (ofs L) = 0 := by
  rw [wideE, if_pos (by rw [ofs_length]; exact h8), if_neg, if_pos (nodup_ofs.2 hnd)]
  rintro ⟨x, hx, h⟩
  unfold ofs at hx
  rw [List.mem_map] at hx
  obtain ⟨y, hy, rfl⟩ := hx
  have := hLl y hy
  rw [ofs_length] at h
  rcases h with h | h
  · have h' : (y : Int) < 0 := h; omega
  · have h' : (L.length : Int) ≤ (y : Int) := h; omega
theorem flat_split {C : List (List Nat)} {i : Nat} {c : List Nat} (h : C[i]? = some c) : (C.take (i + 1)).flatten = (C.take i).flatten ++ c := by
  rw [List.take_add_one, h]; simp
theorem flat_nodup {C : List (List Nat)} {i k : Nat} {c : List Nat} {x : Nat} (hn : C.flatten.Nodup) (h : C[i]? = some c) (hk : c[k]? = some x) : ¬ x ∈ (C.take i).flatten ++ c.take k := by
  have e : C.flatten = (C.take (i + 1)).flatten ++ (C.drop (i + 1)).flatten := by rw [← List.flatten_append, List.take_append_drop]
  rw [e, flat_split h] at hn
  have h1 := (List.nodup_append.1 hn).1
  have hkl := (List.getElem?_eq_some_iff.1 hk).1
  have e2 : c = c.take k ++ x :: c.drop (k + 1) := by
    conv => lhs; rw [← List.take_append_drop k c]
    rw [List.drop_eq_getElem_cons hkl, (List.getElem?_eq_some_iff.1 hk).2]
  have h2 : ((C.take i).flatten ++ c.take k ++ x :: c.drop (k + 1)).Nodup := by
    rw [List.append_assoc, ← e2]; exact h1
  intro hm
  exact (List.nodup_append.1 h2).2.2 x hm x (by simp) rfl
theorem okf64 : okF Tryd.prog H0 64 8 = true := by kernel_rfl
theorem spec_Shuffled {m : Mem} {N0 N b k : Nat} (h : StoreAt N0 N m b k) (hk : k < 1000) (hN0 : N0 ≤ b) : ∃ v m', ACalls Tryd.prog 64 #[.pointer (some ⟨b, 0, none⟩)] m v m' ∧ (∃ L : List Nat, OwnF m.size m' v (ofs L) ∧ (L.length = 2 ∨ L.length = 4 ∨ L.length = 8) ∧ (∀ x ∈ L, x < L.length) ∧ L.Nodup ∧ LowX m.size b m m') := by
  refine wpF (args := [_]) mixed okf64 (fn := Tryd.f64) rfl rfl rfl (by simp) ?_
  refine cSeq ?_
  refine cRegion ?_
  refine sAs (v := .slice _ _ _) rfl ?_
  refine sNil (kSeqN ?_)
  refine cSeq ?_
  refine cRegion ?_
  refine sMv (v := .pointer _) rfl ?_
  refine sMv (v := .pointer _) rfl ?_
  obtain ⟨v5, m5, h5, ⟨x, rfl, hx1, hx3⟩, hT5, o5⟩ := spec_From (lo := 1) (hi := 3) h (by omega) (by omega) (by decide)
  refine sCall3 rfl call120 rfl rfl rfl h5 ?_
  have h8 := two_pow3 hx3
  refine sBin rfl rfl (aInt_shl (a := 1) (by omega)) ?_
  rw [Nat.shiftLeft_eq, Nat.one_mul]
  obtain ⟨v7, m7, h7, L, oL, hLn, hLl, hLd, hT7, x7⟩ := spec_Order (n := 2 ^ x) hT5 (by omega) hN0 (by omega)
  refine sCall2 rfl call123 rfl rfl h7 ?_
  obtain ⟨q7, c7, rfl⟩ := oL.ints.lenN
  refine sAs (v := .slice _ _ _) rfl ?_
  refine sNil (kSeqN ?_)
  refine cRet ?_
  have h8' := lenN_three ⟨hx1, hx3⟩
  refine ⟨.inr rfl, _, rfl, L, oL.mono (by rw [o5.1]; exact Nat.le_refl _), by rw [hLn]; exact h8', fun y hy => by rw [hLn]; exact hLl y hy, hLd, ?_⟩
  refine ⟨by have := x7.1; rw [o5.1] at this; exact this, fun c h1 h2 => ?_⟩
  rw [x7.2 c (by rw [o5.1]; exact h1) h2]; exact o5.2 c h2
theorem okf65 : okF Tryd.prog H0 65 25 = true := by kernel_rfl
theorem spec_Min {m : Mem} {a : Value} {L : List Nat} (ha : IntsAt m a (ofs L)) (h0 : 0 < L.length) (hl : L.length < 1000000) : ∃ v m', ACalls Tryd.prog 65 #[a] m v m' ∧ ((∃ x, v = nv x ∧ x ∈ L ∧ ∀ y ∈ L, x ≤ y) ∧ m = m') := by
  obtain ⟨b1, o1, p1, r1, cc, rfl, g1, x1⟩ := ha.atN h0
  refine wpF (args := [_]) mixed okf65 (fn := Tryd.f65) rfl rfl rfl (by simp) ?_
  refine cSeq ?_
  refine cRegion ?_
  refine sAs (v := nv 0) rfl ?_
  refine sNil (kSeqN ?_)
  refine cSeq ?_   -- seq 1
  refine cSeq ?_
  refine cRegion ?_
  refine sMv (v := .slice _ _ _) rfl ?_
  refine sLen T22 rfl ?_
  refine sBin (a := L.length) (b := 1) rfl rfl aInt_lss ?_
  refine sNil (kSeqN ?_)
  refine cCondF' rfl (by omega) ?_
  refine cSkip (kSeqN ?_)
  refine cSeq ?_
  refine cRegion ?_
  refine sMv (v := .slice _ _ _) rfl ?_
  refine sIx T22 S3 rfl rfl h0 ?_
  refine sLd (v := nv L[0]) A3 rfl g1 (x1 0 L[0] (by simp)) ?_
  refine sAs (v := nv _) rfl ?_
  refine sNil (kSeqN ?_)
  refine cSeq ?_
  refine cSeq ?_
  refine cRegion ?_
  refine sAs (v := nv 1) rfl ?_
  refine sNil (kSeqN ?_)
  refine cBlock ?_
  refine wpC_loop (fun k ρ m' => ∃ i x, k = L.length - i ∧ 1 ≤ i ∧ i ≤ L.length ∧ x ∈ L ∧ (∀ y ∈ L.take i, x ≤ y) ∧ m = m' ∧ Has ρ [(0, .slice (some ⟨b1, o1, some 1⟩) L.length p1), (3, nv x), (4, nv i)]) ⟨1, L[0], rfl, Nat.le_refl _, by omega, List.getElem_mem _, fun y hy => by
    rw [List.take_succ_eq_append_getElem h0, List.take_zero, List.nil_append, List.mem_singleton] at hy
    rw [hy]; exact Nat.le_refl _, rfl, rfl, rfl, rfl, trivial⟩ ?_
  rintro k ρ _ ⟨i, x, rfl, hi1, hi, hx, hmin, rfl, hh⟩
  rw [hh.env]; clear hh
  refine cSeq ?_   -- seq 6
  refine cSeq ?_
  refine cRegion ?_
  refine sMv (v := nv _) rfl ?_
  refine sMv (v := .slice _ _ _) rfl ?_
  refine sLen T22 rfl ?_
  refine sBin rfl rfl (aInt_lss) ?_
  refine sNil (kSeqN ?_)
  refine cCond rfl (fun c1 => ?_) (fun c1 => ?_)
  ·
    obtain ⟨y, hy⟩ : ∃ y, L[i]? = some y := ⟨_, List.getElem?_eq_getElem c1⟩
    refine cSkip (kSeqN ?_)
    refine cSeq ?_
    refine cBlock ?_
    refine cRegion ?_
    refine sMv (v := nv _) rfl ?_
    refine sMv (v := .slice _ _ _) rfl ?_
    refine sMv (v := nv _) rfl ?_
    refine sIx T22 S3 rfl rfl (by omega) ?_
    refine sLd (v := nv y) A3 rfl g1 (x1 i y hy) ?_
    refine sMin (a := x) (b := y) rfl rfl ?_
    refine sAs (v := nv _) rfl ?_
    refine sNil (kBlkN (kSeqN ?_))
    refine cRegion ?_
    refine sMv (v := nv _) rfl ?_
    refine sBin rfl rfl (aInt_add (b := 1) (by omega)) ?_
    refine sAs (v := nv _) rfl ?_
    refine sNil (kSeqN ?_)
    refine ⟨_, ?_, i + 1, min x y, rfl, by omega, by omega, ?_, fun z hz => ?_, rfl, rfl, rfl, rfl, trivial⟩
    · omega
    · rcases Nat.le_total x y with h | h
      · rw [Nat.min_eq_left h]; exact hx
      · rw [Nat.min_eq_right h]; exact List.mem_of_getElem? hy
    · rw [List.take_add_one, hy, List.mem_append] at hz
      rcases hz with hz | hz
      · have := hmin z hz; have := Nat.min_le_left x y; omega
      · have : z = y := by simpa using hz
        have := Nat.min_le_right x y; omega
  ·
    refine cExit (kSeqE (kSeqE (kBlkS (kSeqN ?_))))
    refine cSeq ?_
    refine cRegion ?_
    refine sMv (v := nv _) rfl ?_
    refine sAs (v := nv _) rfl ?_
    refine sNil (kSeqN ?_)
    refine cRet ?_
    obtain rfl : i = L.length := by omega
    rw [List.take_length] at hmin
    exact ⟨.inr rfl, _, rfl, ⟨x, rfl, hx, hmin⟩, rfl⟩
end Go.AM

/-! ### R45 -/
namespace Go.AM
open Go.Proofs
set_option maxRecDepth 100000
set_option linter.unusedVariables false
set_option linter.unusedSimpArgs false
def strI (L V : List Nat) (x : Nat) : Int := if x ∈ V then -1 else Int.ofNat (L.getD x 0)
theorem evenP_sum {p : List Int} (h0 : wideE p = 0) : evenP p = decide (sumLen (cyclesP p) % 2 = 0) := by
  rw [evenP, if_pos h0, even_sum _ (fun c hc => by have := cyclesP_two c hc; omega)]
/-- What the law asks of cycles. -/
theorem cyc_facts {L : List Nat} (hLl : ∀ x ∈ L, x < L.length) (hnd : L.Nodup) (h0 : wideE (ofs L) = 0) : ∃ C : List (List Nat), cyclesP (ofs L) = C ∧ C.length ≤ L.length ∧ (∀ c ∈ C, 1 < c.length ∧ c.length ≤ 9 ∧ ∀ y ∈ c, y < L.length) ∧ C.flatten.Nodup ∧
    (∀ (i : Nat) c, C[i]? = some c → ∃ a, c[0]? = some a ∧ (∀ y ∈ c, a ≤ y) ∧ (∀ (k x : Nat), c[k]? = some x → c[(k + 1) % c.length]? = some (L.getD x 0)) ∧ ∀ c' a', 0 < i → C[i - 1]? = some c' → c'[0]? = some a' → a' < a) ∧ ∀ x, x < L.length → x ∉ C.flatten → L.getD x 0 = x := by
  have hc := CycOk.step hnd hLl L.length (Nat.le_refl _)
  have e : cyclesP (ofs L) = (cycUp L L.length).2 := by rw [cyclesP, if_pos h0, nats_ofs, ofs_length]
  refine ⟨_, rfl, by have := cyclesP_len (ofs L); rwa [ofs_length] at this, fun c h => ⟨cyclesP_two c h, cyclesP_most c h, fun y hy => ?_⟩, by rw [e]; exact hc.nd, fun i c h => ?_, fun x hx hn => ?_⟩
  · rw [e] at h; exact hc.cl.lt y (hc.sub c h y hy)
  · have hl := cyclesP_two c (List.mem_of_getElem? h)
    rw [e] at h
    obtain ⟨a, h1, h2, h3⟩ := hc.ch c (List.mem_of_getElem? h)
    refine ⟨a, h1, h3, fun k x hx => ?_, fun c' a' hi hc' ha' => ?_⟩
    · have hk := (List.getElem?_eq_some_iff.1 hx).1
      by_cases hk1 : k + 1 < c.length
      · rw [Nat.mod_eq_of_lt hk1, List.getElem?_eq_getElem hk1]
        exact congrArg some (h2.1 k x _ hx (List.getElem?_eq_getElem hk1)).symm
      · rw [show k + 1 = c.length by omega, Nat.mod_self, h1]
        exact congrArg some (h2.2 x (by rw [show c.length - 1 = k by omega]; exact hx) (by omega)).symm
    · rw [e] at hc'
      refine hc.inc (i - 1) a' a (by rw [hc']; exact ha') ?_
      rw [show i - 1 + 1 = i by omega, h]; exact h1
  · rw [e] at hn
    exact hc.fix x (hc.all x hx) hn
def H11 : Nat → List (Nat × Nat) := fun id => if id = 16 then [(1, 9), (6, 9), (19, 0), (21, 0), (24, 0)] else if id = 5 then [(26, 0), (27, 0)] else []
theorem okf11 : okF Tryd.prog H11 11 198 = true := by kernel_rfl
theorem spec_MakesLaw {m : Mem} {a : Value} {l : List Int} (hC : GlobC m) (hW : GlobW m) (ha : BytesAt m a l) : ∃ v m', ACalls Tryd.prog 11 #[a] m v m' ∧ (v = .bool true ∧ Ext m m') := by
  have hasl : ∃ q n c, a = .slice q n c := by rcases ha with ⟨_, rfl | ⟨b, o, rfl⟩⟩ | ⟨b, o, cap, r, c, rfl, _⟩ <;> exact ⟨_, _, _, rfl⟩
  obtain ⟨qa, na, ca, rfl⟩ := hasl
  refine wpF (args := [_]) mixed okf11 (fn := Tryd.f11) rfl rfl rfl (by simp) ?_
  refine cSeq ?_
  refine cRegion ?_
  refine sAs (v := .bool _) rfl ?_
  refine sNil (kSeqN ?_)
  refine cSeq ?_
  refine cRegion ?_
  refine sMv (v := .slice _ _ _) rfl ?_
  obtain ⟨v21, m21, h21, b, rfl, hb, hT21, e21⟩ := spec_Of ha
  refine sCall1 rfl call60 rfl h21 ?_
  obtain ⟨v22, m22, h22, L, o22, hL8, hLl, hnd, x22⟩ := spec_Shuffled hT21 (by omega) hb
  have i22 := o22.ints
  obtain ⟨q22, c22, rfl⟩ := i22.lenN
  refine sCall1 rfl call64 rfl h22 ?_
  have z21 := e21.1
  have z22 := x22.1
  have E22 : Ext m m22 := ⟨by omega, fun c hc => by rw [x22.2 c (by omega) (by omega)]; exact e21.2 c hc⟩
  have h0 := wide_ok hLl hnd hL8
  obtain ⟨hn1, hn3, hn0⟩ := wide_len hL8
  have hWN : wideN (ofs L) = lenN L.length := by rw [wideN, if_pos h0, ofs_length]
  obtain ⟨hcc, hct, hcl⟩ := circ_spec hLl hnd hL8 h0
  obtain ⟨C, hCe, hCl, hCc, hCn, hCi, hCf⟩ := cyc_facts hLl hnd h0
  have hev := evenP_sum h0
  rw [hCe] at hev
  have hl : (ofs L).length < 1000000 := by rw [ofs_length]; omega
  generalize lenN L.length = n at *
  have h8 := two_pow3 hn3
  refine sAs (v := .slice _ _ _) rfl ?_
  refine sNil (kSeqN ?_)
  refine cSeq ?_
  refine cRegion ?_
  refine sMv (v := .slice _ _ _) rfl ?_
  obtain ⟨v25, m25, h25, rfl, e25⟩ := spec_Wide i22 hl
  rw [hWN, h0] at h25
  refine sCall1 rfl call16 rfl h25 ?_
  refine sMv (v := .tuple _) rfl ?_
  refine sP (v := nv _) rfl ?_   -- extract ['t23', '0']
  refine sP (v := nv _) rfl ?_   -- extract ['t23', '1']
  refine sAs (v := nv _) rfl ?_
  refine sAs (v := nv _) rfl ?_
  refine sNil (kSeqN ?_)
  refine cSeq ?_
  refine cRegion ?_
  refine sMv (v := .slice _ _ _) rfl ?_
  obtain ⟨v30, m30, h30, s30, cs30, rfl, o30, e30⟩ := spec_Circuit (i22.ext e25) hl
  rw [hWN, h0] at h30
  obtain ⟨q30, c30, rfl⟩ := o30.1.len
  refine sCall1 rfl call18 rfl h30 ?_
  generalize circP (ofs L) = Gs at *
  refine sMv (v := .tuple _) rfl ?_
  refine sP (v := .agg _) rfl ?_   -- extract ['t28', '0']
  refine sP (v := nv _) rfl ?_   -- extract ['t28', '1']
  refine sAllocB (bl := m30.size) rfl Z30 (by kernel_rfl) ?_
  refine sStNAB rfl S30 rfl rfl rfl rfl (by kernel_rfl) ?_
  have x6 : Ext m30 (m30.push (.cells true #[nv n, nv 0, .slice q30 Gs.length c30])) := .push _ _
  have g6 : Mem.get (m30.push (.cells true #[nv n, nv 0, .slice q30 Gs.length c30])) m30.size = .cells true #[nv n, nv 0, .slice q30 Gs.length c30] := gP rfl
  have o6 := o30.ext x6
  generalize m30.push (.cells true #[nv n, nv 0, .slice q30 Gs.length c30]) = M6 at *
  have E6 : Ext m22 M6 := (e25.trans e30).trans x6
  refine sAs (v := nv _) rfl ?_
  refine sNil (kSeqN ?_)
  refine cSeq ?_
  refine cRegion ?_
  refine sLdAll A30 S30 rfl g6 rfl ?_
  obtain ⟨v35, m35, h35, w35, rfl, o35, y35⟩ := spec_Table (hC.ext (E22.trans E6)) o6 hcc
  rw [hct] at o35
  obtain ⟨q35, c35, rfl⟩ := o35.ints.lenN
  refine sCall1 rfl call41 rfl h35 ?_
  have g35 := y35.cells g6
  refine sMv (v := .tuple _) rfl ?_
  refine sP (v := .slice _ _ _) rfl ?_   -- extract ['t33', '0']
  refine sP (v := nv _) rfl ?_   -- extract ['t33', '1']
  refine sAs (v := .slice _ _ _) rfl ?_
  refine sAs (v := nv _) rfl ?_
  refine sNil (kSeqN ?_)
  refine cSeq ?_   -- seq 5
  refine cSeq ?_
  refine cDrawH (hs := [(26, 0), (27, 0)]) rfl (by decide) ?_
  refine lStepO (sMv (v := nv _) rfl (sNil fun e0 hm0 => ?_))
  refine lStepO (sBin (v := .bool false) (a := 0) (b := 0) rfl rfl (neqF rfl) (sNil fun e1 hm1 => ?_))
  refine lStepO (sMv (v := .bool false) rfl (sNil fun e2 hm2 => ?_))
  refine lG rfl rfl ?_
  refine lStepO (sMv (v := nv _) rfl (sNil fun e3 hm3 => ?_))
  refine lG rfl rfl ?_
  refine lStepO (sBin (v := .bool false) (a := 0) (b := 0) rfl rfl (neqF rfl) (sNil fun e4 hm4 => ?_))
  refine lStepO (sP (v := .bool false) rfl (sNil fun e5 hm5 => ?_))
  refine lStepO (sMv (v := .bool false) rfl (sNil fun e6 hm6 => ?_))
  refine lG rfl rfl ?_
  refine lStepO (sMv (v := nv _) rfl (sNil fun e7 hm7 => ?_))
  refine lG rfl rfl ?_
  refine lStepO (sBin (v := .bool false) (a := 0) (b := 0) rfl rfl (neqF rfl) (sNil fun e8 hm8 => ?_))
  refine lStepO (sP (v := .bool false) rfl (sNil fun e9 hm9 => ?_))
  refine lStepO (sMv (v := .bool false) rfl (sNil fun e10 hm10 => ?_))
  refine lG rfl rfl ?_
  refine lStepO (sMv (v := .slice _ _ _) rfl (sNil fun e11 hm11 => ?_))
  refine lG rfl rfl ?_
  refine lStepO (sMv (v := .slice _ _ _) rfl (sNil fun e12 hm12 => ?_))
  refine lG rfl rfl ?_
  have h51 := spec_Equal o35.ints (i22.ext (E6.trans y35)) (by rw [ofs_length]; omega)
  rw [decide_eq_true rfl] at h51
  refine lStepO (sCall2 rfl call28 rfl rfl h51 (sNil fun e13 hm13 => ?_))
  refine lG rfl rfl ?_
  refine lStepO (sP (v := .bool false) rfl (sNil fun e14 hm14 => ?_))
  refine lStepO (sP (v := .bool false) rfl (sNil fun e15 hm15 => ?_))
  refine lStepO (sMv (v := .bool false) rfl (sNil fun e16 hm16 => ?_))
  refine lG rfl rfl ?_
  refine lStepO (sMv (v := nv _) rfl (sNil fun e17 hm17 => ?_))
  refine lG rfl rfl ?_
  refine lStepO (sBin (v := .bool false) (a := n) (b := 1) rfl rfl (by rw [aInt_lss, decide_eq_false (by omega)]) (sNil fun e18 hm18 => ?_))
  refine lStepO (sP (v := .bool false) rfl (sNil fun e19 hm19 => ?_))
  refine lStepO (sMv (v := .bool false) rfl (sNil fun e20 hm20 => ?_))
  refine lG rfl rfl ?_
  refine lStepO (sMv (v := nv _) rfl (sNil fun e21 hm21 => ?_))
  refine lG rfl rfl ?_
  refine lStepO (sBin (v := .bool false) (a := n) (b := 3) rfl rfl (by rw [aInt_gtr, decide_eq_false (by omega)]) (sNil fun e22 hm22 => ?_))
  refine lStepO (sP (v := .bool false) rfl (sNil fun e23 hm23 => ?_))
  refine lStepO (sMv (v := .bool false) rfl (sNil fun e24 hm24 => ?_))
  refine lG rfl rfl ?_
  refine lStepO (sFA F30_2 rfl (sNil fun e25 hm25 => ?_))
  refine lG rfl rfl ?_
  refine lStepLd (v := .slice q30 Gs.length c30) A28 rfl g35 rfl fun e26 hm26 hv26 hr26 => ?_
  refine lG rfl rfl ?_
  refine lStepLen T28 rfl fun e27 hm27 hv27 hr27 => ?_
  refine lG rfl rfl ?_
  refine lStepO (sMv (v := nv _) rfl (sNil fun e28 hm28 => ?_))
  refine lG rfl rfl ?_
  refine lStepO (sBin (v := nv (n - 1)) rfl rfl (aInt_sub (a := n) (b := 1) (by omega)) (sNil fun e29 hm29 => ?_))
  refine lG rfl rfl ?_
  refine lStepO (sMv (v := nv _) rfl (sNil fun e30 hm30 => ?_))
  refine lG rfl rfl ?_
  refine lStepO (sBin (v := nv ((n - 1) * 2 ^ n)) rfl rfl (by rw [aInt_shl (a := n - 1) (b := n) ⟨by omega, by have : (n - 1) * 2 ^ n ≤ 2 * 8 := Nat.mul_le_mul (by omega) h8; omega⟩, Nat.shiftLeft_eq]) (sNil fun e31 hm31 => ?_))
  refine lG rfl rfl ?_
  refine lStepO (sBin (a := (n - 1) * 2 ^ n) (b := 1) rfl rfl (aInt_add (by have : (n - 1) * 2 ^ n ≤ 2 * 8 := Nat.mul_le_mul (by omega) h8; omega)) (sNil fun e32 hm32 => ?_))
  refine lG rfl rfl ?_
  refine lStepO (sMv (v := nv _) rfl (sNil fun e33 hm33 => ?_))
  refine lG rfl rfl ?_
  refine lStepO (sMax (a := (n - 1) * 2 ^ n + 1) (b := n) rfl rfl (sNil fun e34 hm34 => ?_))
  refine lG rfl rfl ?_
  refine lStepO (sBin (v := .bool false) (a := Gs.length) (b := max ((n - 1) * 2 ^ n + 1) n) rfl rfl (by rw [aInt_gtr, decide_eq_false (by have := Nat.le_max_left ((n - 1) * 2 ^ n + 1) n; omega)]) (sNil fun e35 hm35 => ?_))
  refine lStepO (sP (v := .bool false) rfl (sNil fun e36 hm36 => ?_))
  refine ⟨?_, (kSeqN ?_)⟩
  ·
    refine obl_atE (e := e26) (e' := e0) (by simp) (by rfl) (by simp) ((hr26 e0.m _ _ (by rw [hm0]; exact g35) (by rfl)).trans (congrArg some hv26.symm)) ?_
    refine obl_pure (e := e27) (by simp) (by rfl) (by rw [hv27]; exact hr27) ?_
    trivial
  refine cCondF rfl ?_
  refine cSkip (kSeqN ?_)
  refine cSeq ?_
  refine cRegion ?_
  refine sMv (v := .slice _ _ _) rfl ?_
  obtain ⟨v77, m77, h77, s77, cs77, rfl, o77, e77⟩ := spec_Cycles (i22.ext (E6.trans y35)) hl
  rw [h0] at h77
  rw [hCe] at o77
  obtain ⟨q77, c77, rfl⟩ := o77.rows.len
  rw [ofs2_length] at *
  refine sCall1 rfl call21 rfl h77 ?_
  refine sMv (v := .tuple _) rfl ?_
  refine sP (v := .slice _ _ _) rfl ?_   -- extract ['t75', '0']
  refine sP (v := nv _) rfl ?_   -- extract ['t75', '1']
  refine sAs (v := .slice _ _ _) rfl ?_
  refine sAs (v := nv _) rfl ?_
  refine sNil (kSeqN ?_)
  refine cSeq ?_
  refine cRegion ?_
  refine sMv (v := .slice _ _ _) rfl ?_
  obtain ⟨v82, m82, h82, rfl, e82⟩ := spec_Even (i22.ext ((E6.trans y35).trans e77)) hl
  rw [h0, hev] at h82
  refine sCall1 rfl call23 rfl h82 ?_
  refine sMv (v := .tuple _) rfl ?_
  refine sP (v := .bool _) rfl ?_   -- extract ['t80', '0']
  refine sP (v := nv _) rfl ?_   -- extract ['t80', '1']
  refine sAs (v := .bool _) rfl ?_
  refine sAs (v := nv _) rfl ?_
  refine sNil (kSeqN ?_)
  refine cSeq ?_   -- seq 9
  refine cSeq ?_
  refine cRegion ?_
  refine sMv (v := nv _) rfl ?_
  refine sBin (v := .bool false) (a := 0) (b := 0) rfl rfl (neqF rfl) ?_
  refine sMv (v := .bool false) rfl ?_
  refine sG rfl rfl ?_
  refine sMv (v := nv _) rfl ?_
  refine sG rfl rfl ?_
  refine sBin (v := .bool false) (a := 0) (b := 0) rfl rfl (neqF rfl) ?_
  refine sP (v := .bool false) rfl ?_
  refine sNil (kSeqN ?_)
  refine cCondF rfl ?_
  refine cSkip (kSeqN ?_)
  refine cSeq ?_
  refine cRegion ?_
  refine sMv (v := .slice _ _ _) rfl ?_
  have E82 : Ext m22 m82 := ((E6.trans y35).trans e77).trans e82
  obtain ⟨v92, m92, h92, o92, e92⟩ := spec_Clone (i22.ext E82) (by rw [ofs_length]; omega)
  obtain ⟨rb, cap, cF, rfl, hrb, gr, hcs0, hcF⟩ : ∃ rb cap cF, v92 = .slice (some ⟨rb, 0, some 1⟩) L.length cap ∧ m82.size ≤ rb ∧ Mem.get m92 rb = .cells true cF ∧ L.length ≤ cF.size ∧ ∀ (i x : Nat), L[i]? = some x → cF[i]? = some (nv x) := by
    rcases o92 with ⟨h, _⟩ | ⟨b, cap, c, h1, h2, h3, h4, h5, h6⟩
    · exfalso; have := congrArg List.length h; rw [ofs_length] at this; simp at this; subst this; simp at hL8
    · rw [ofs_length] at h1 h4
      refine ⟨b, cap, c, h1, h2, h3, by omega, fun i x hx => h6 i x ?_⟩
      simp only [ofs, List.getElem?_map, hx]; rfl
  refine sCall1 rfl call15 rfl h92 ?_
  have hsl : sumLen (C.take 0) = 0 := by simp [sumLen]
  have hst0 : ∀ x, x < L.length → cF[x]? = some (.int .i64 (strI L [] x)) := fun x hx => by
    rw [hcF x L[x] (List.getElem?_eq_getElem hx), strI, if_neg (by simp), List.getD_eq_getElem?_getD, List.getElem?_eq_getElem hx]; rfl
  refine sAs (v := .slice _ _ _) rfl ?_
  refine sNil (kSeqN ?_)
  refine cSeq ?_
  refine cRegion ?_
  refine sAs (v := nv 0) rfl ?_
  refine sNil (kSeqN ?_)
  refine cSeq ?_
  refine cSeq ?_
  refine cRegion ?_
  refine sMv (v := .slice _ _ _) rfl ?_
  refine sLen T34 rfl ?_
  refine sMv (v := nv 0) rfl ?_
  refine sNil (kSeqN ?_)
  refine cBlock ?_
  refine wpC_loop (fun k ρ m' => ∃ i cQ, k = C.length - i ∧ i ≤ C.length ∧ Ext m82 m' ∧ Mem.get m' rb = .cells true cQ ∧ L.length ≤ cQ.size ∧ (∀ x, x < L.length → cQ[x]? = some (.int .i64 (strI L (C.take i).flatten x))) ∧ sumLen (C.take i) ≤ 9 * i ∧ Has ρ [(3, .slice q22 L.length c22), (10, .slice q77 C.length c77), (11, .bool (decide (sumLen C % 2 = 0))), (12, .slice (some ⟨rb, 0, some 1⟩) L.length cap), (13, nv (sumLen (C.take i))), (93, .slice q77 C.length c77), (94, nv C.length), (95, nv i)]) ⟨0, cF, rfl, Nat.zero_le _, e92, gr, hcs0, hst0, by rw [hsl]; exact Nat.zero_le _, rfl, rfl, rfl, rfl, by rw [hsl]; rfl, rfl, rfl, rfl, trivial⟩ ?_
  rintro k ρ m' ⟨i, cQ, rfl, hi, hE, gQ, hQs, hQv, hsb, hh⟩
  rw [hh.env]; clear hh
  refine cSeq ?_
  refine cRegion ?_
  refine sBin rfl rfl (aInt_lss) ?_
  refine sNil (kSeqN ?_)
  refine cSeq ?_   -- seq 16
  refine cCond rfl (fun c2 => ?_) (fun c2 => ?_)
  ·
    obtain ⟨c, hc⟩ : ∃ c, C[i]? = some c := ⟨_, List.getElem?_eq_getElem c2⟩
    obtain ⟨hc2, hc9, hcL⟩ := hCc c (List.mem_of_getElem? hc)
    obtain ⟨a, ha0, hamin, hnext, hprev⟩ := hCi i c hc
    have o77' := o77.ext (e82.trans hE)
    obtain ⟨b2, p2, cd, e2, hb2, g2, hcd, x2⟩ := o77'.1.at (by rw [ofs2_length]; omega)
    rw [ofs2_length] at e2 x2
    cases e2
    obtain ⟨s1, hs1, hF1, _⟩ := o77.2 i _ (ofs2_get hc)
    have ha1 := (hF1.ext (e82.trans hE)).ints
    obtain ⟨bc, oc, pc, rc, cdc, ec, gc, xc⟩ := ha1.atN (by omega)
    subst ec
    have hbcl : bc < m77.size := (hF1.lt rfl).2
    refine cSkip (kSeqN ?_)
    refine cSeq ?_
    refine cBlock ?_
    refine cSeq ?_
    refine cRegion ?_
    refine sMv (v := nv _) rfl ?_
    refine sIx T34 S22 rfl rfl (by omega) ?_
    refine sLd (v := .slice (some ⟨bc, oc, some 1⟩) c.length pc) A22 rfl g2 (by rw [Nat.zero_add, Nat.mul_one, x2 i (by omega)]; exact hs1) ?_
    refine sAs (v := nv _) rfl ?_
    refine sAs (v := .slice _ _ _) rfl ?_
    refine sNil (kSeqN ?_)
    refine cCut (fun ρ M => m' = M ∧ Has ρ [(3, .slice q22 L.length c22), (10, .slice (some ⟨b2, 0, some 1⟩) C.length c77), (11, .bool (decide (sumLen C % 2 = 0))), (12, .slice (some ⟨rb, 0, some 1⟩) L.length cap), (13, nv (sumLen (C.take i))), (15, .slice (some ⟨bc, oc, some 1⟩) c.length pc), (93, .slice (some ⟨b2, 0, some 1⟩) C.length c77), (94, nv C.length), (95, nv i)]) ?_ ?_
    ·
      refine cSeq ?_
      refine cDrawH (hs := [(1, 9), (6, 9), (19, 0), (21, 0), (24, 0)]) rfl (by decide) ?_
      refine lStepO (sMv (v := .slice _ _ _) rfl (sNil fun e0 hm0 => ?_))
      refine lStepLen T22 rfl fun e1 hm1 hv1 hr1 => ?_
      refine lStepO (sBin (v := .bool false) (a := c.length) (b := 2) rfl rfl (by rw [aInt_lss, decide_eq_false (by omega)]) (sNil fun e2 hm2 => ?_))
      refine lStepO (sMv (v := .bool false) rfl (sNil fun e3 hm3 => ?_))
      refine lG rfl rfl ?_
      refine lStepO (sMv (v := .slice _ _ _) rfl (sNil fun e4 hm4 => ?_))
      refine lG rfl rfl ?_
      refine lStepO (sIx T22 S3 rfl rfl (show 0 < c.length by omega) (sNil fun e5 hm5 => ?_))
      refine lG rfl rfl ?_
      refine lStepLd (v := nv a) A3 rfl gc (xc 0 a ha0) fun e6 hm6 hv6 hr6 => ?_
      refine lG rfl rfl ?_
      refine lStepO (sMv (v := .slice _ _ _) rfl (sNil fun e7 hm7 => ?_))
      refine lG rfl rfl ?_
      obtain ⟨v108, m108, h108, ⟨x, rfl, hx1, hx2⟩, rfl⟩ := spec_Min ha1 (by omega) (by omega)
      have hxa : x = a := Nat.le_antisymm (hx2 a (List.mem_of_getElem? ha0)) (hamin x hx1)
      subst hxa
      refine lStepO (sCall1 rfl call65 rfl h108 (sNil fun e8 hm8 => ?_))
      refine lG rfl rfl ?_
      refine lStepO (sBin (v := .bool false) (a := x) (b := x) rfl rfl (neqF rfl) (sNil fun e9 hm9 => ?_))
      refine lStepO (sP (v := .bool false) rfl (sNil fun e10 hm10 => ?_))
      refine lStepO (sMv (v := .bool false) rfl (sNil fun e11 hm11 => ?_))
      refine lG rfl rfl ?_
      refine lStepO (sMv (v := nv _) rfl (sNil fun e12 hm12 => ?_))
      refine lG rfl rfl ?_
      refine lStepO (sBin (a := i) (b := 0) rfl rfl aInt_gtr (sNil fun e13 hm13 => ?_))
      refine lG rfl rfl ?_
      refine lStepO (sMv (v := .bool (decide (0 < i))) rfl (sNil fun e14 hm14 => ?_))
      by_cases hi0 : 0 < i
      ·
        rw [decide_eq_true hi0]
        obtain ⟨c', hc'⟩ : ∃ c', C[i - 1]? = some c' := ⟨_, List.getElem?_eq_getElem (by omega)⟩
        have hc2' := (hCc c' (List.mem_of_getElem? hc')).1
        obtain ⟨s3, hs3, hF3, _⟩ := o77.2 (i - 1) _ (ofs2_get hc')
        have ha3 := (hF3.ext (e82.trans hE)).ints
        obtain ⟨b3, o3, p3, r3, cd3, e3, g3, x3⟩ := ha3.atN (by omega)
        subst e3
        obtain ⟨a', ha'⟩ : ∃ a', c'[0]? = some a' := ⟨_, List.getElem?_eq_getElem (by omega)⟩
        have hlt := hprev c' a' hi0 hc' ha'
        refine lG rfl rfl ?_
        refine lStepO (sMv (v := .slice _ _ _) rfl (sNil fun e15 hm15 => ?_))
        refine lG rfl rfl ?_
        refine lStepO (sMv (v := nv _) rfl (sNil fun e16 hm16 => ?_))
        refine lG rfl rfl ?_
        refine lStepO (sBin (v := nv (i - 1)) rfl rfl (aInt_sub (a := i) (b := 1) (by omega)) (sNil fun e17 hm17 => ?_))
        refine lG rfl rfl ?_
        refine lStepO (sIx T34 S22 rfl rfl (show i - 1 < C.length by omega) (sNil fun e18 hm18 => ?_))
        refine lG rfl rfl ?_
        refine lStepLd (v := .slice (some ⟨b3, o3, some 1⟩) c'.length p3) A22 rfl g2 (by rw [Nat.zero_add, Nat.mul_one, x2 (i - 1) (by omega)]; exact hs3) fun e19 hm19 hv19 hr19 => ?_
        refine lG rfl rfl ?_
        refine lStepO (sIx T22 S3 rfl rfl (show 0 < c'.length by omega) (sNil fun e20 hm20 => ?_))
        refine lG rfl rfl ?_
        refine lStepLd (v := nv a') A3 rfl g3 (x3 0 a' ha') fun e21 hm21 hv21 hr21 => ?_
        refine lG rfl rfl ?_
        refine lStepO (sMv (v := .slice _ _ _) rfl (sNil fun e22 hm22 => ?_))
        refine lG rfl rfl ?_
        refine lStepO (sIx T22 S3 rfl rfl (show 0 < c.length by omega) (sNil fun e23 hm23 => ?_))
        refine lG rfl rfl ?_
        refine lStepLd (v := nv x) A3 rfl gc (xc 0 x ha0) fun e24 hm24 hv24 hr24 => ?_
        refine lG rfl rfl ?_
        refine lStepO (sBin (v := .bool false) (a := a') (b := x) rfl rfl (by rw [aInt_geq, decide_eq_false (by omega)]) (sNil fun e25 hm25 => ?_))
        refine lG rfl rfl ?_
        refine lStepO (sP (v := .bool false) rfl (sNil fun e26 hm26 => ?_))
        refine lStepO (sP (v := .bool false) rfl (sNil fun e27 hm27 => ?_))
        refine ⟨?_, (kSeqN ?_)⟩
        ·
          refine obl_pure (e := e1) (by simp) (by rfl) (by rw [hv1]; exact hr1) ?_
          refine obl_atE (e := e6) (e' := e9) (by simp) (by rfl) (by simp) ((hr6 e9.m _ _ (by rw [hm9]; exact gc) (xc 0 x ha0)).trans (congrArg some hv6.symm)) ?_
          refine obl_atE (e := e19) (e' := e0) (by simp) (by rfl) (by simp) ((hr19 e0.m _ _ (by rw [hm0]; exact g2) (by rw [Nat.zero_add, Nat.mul_one, x2 (i - 1) (by omega)]; exact hs3)).trans (congrArg some hv19.symm)) ?_
          refine obl_atE (e := e21) (e' := e0) (by simp) (by rfl) (by simp) ((hr21 e0.m _ _ (by rw [hm0]; exact g3) (x3 0 a' ha')).trans (congrArg some hv21.symm)) ?_
          refine obl_atE (e := e24) (e' := e0) (by simp) (by rfl) (by simp) ((hr24 e0.m _ _ (by rw [hm0]; exact gc) (xc 0 x ha0)).trans (congrArg some hv24.symm)) ?_
          trivial
        refine cCondF rfl ?_
        refine cSkip (kSeqN ?_)
        exact ⟨rfl, rfl, rfl, rfl, rfl, rfl, rfl, rfl, rfl, rfl, trivial⟩
      ·
        rw [decide_eq_false hi0]
        refine lGno (q' := false) rfl rfl (by simp) fun e15 hm15 hq15 => ?_
        refine lGno (q' := false) rfl rfl (by simp) fun e16 hm16 hq16 => ?_
        refine lGno (q' := false) rfl rfl (by simp) fun e17 hm17 hq17 => ?_
        refine lGno (q' := false) rfl rfl (by simp) fun e18 hm18 hq18 => ?_
        refine lGno (q' := false) rfl rfl (by simp) fun e19 hm19 hq19 => ?_
        refine lGno (q' := false) rfl rfl (by simp) fun e20 hm20 hq20 => ?_
        refine lGno (q' := false) rfl rfl (by simp) fun e21 hm21 hq21 => ?_
        refine lGno (q' := false) rfl rfl (by simp) fun e22 hm22 hq22 => ?_
        refine lGno (q' := false) rfl rfl (by simp) fun e23 hm23 hq23 => ?_
        refine lGno (q' := false) rfl rfl (by simp) fun e24 hm24 hq24 => ?_
        refine lGno (q' := false) rfl rfl (by simp) fun e25 hm25 hq25 => ?_
        refine lG rfl rfl ?_
        refine lStepO (sP (v := .bool false) rfl (sNil fun e26 hm26 => ?_))
        refine lStepO (sP (v := .bool false) rfl (sNil fun e27 hm27 => ?_))
        refine ⟨?_, (kSeqN ?_)⟩
        ·
          refine obl_pure (e := e1) (by simp) (by rfl) (by rw [hv1]; exact hr1) ?_
          refine obl_atE (e := e6) (e' := e9) (by simp) (by rfl) (by simp) ((hr6 e9.m _ _ (by rw [hm9]; exact gc) (xc 0 x ha0)).trans (congrArg some hv6.symm)) ?_
          refine obl_no (e := e19) (by simp) (by rfl) rfl rfl hq19 (by simp) ?_
          refine obl_no (e := e21) (by simp) (by rfl) rfl rfl hq21 (by simp) ?_
          refine obl_no (e := e24) (by simp) (by rfl) rfl rfl hq24 (by simp) ?_
          trivial
        refine cCondF rfl ?_
        refine cSkip (kSeqN ?_)
        exact ⟨rfl, rfl, rfl, rfl, rfl, rfl, rfl, rfl, rfl, rfl, trivial⟩
    rintro ρ _ ⟨rfl, hh⟩
    rw [hh.env]; clear hh
    refine cSeq ?_
    refine cSeq ?_
    refine cRegion ?_
    refine sMv (v := .slice _ _ _) rfl ?_
    refine sLen T22 rfl ?_
    refine sMv (v := nv 0) rfl ?_
    refine sNil (kSeqN ?_)
    refine cBlock ?_
    refine wpC_loop (fun kk ρ m2 => ∃ k cQ, kk = c.length - k ∧ k ≤ c.length ∧ Ext m82 m2 ∧ Mem.get m2 bc = Mem.get m' bc ∧ Mem.get m2 rb = .cells true cQ ∧ L.length ≤ cQ.size ∧ (∀ x, x < L.length → cQ[x]? = some (.int .i64 (strI L ((C.take i).flatten ++ c.take k) x))) ∧ Has ρ [(3, .slice q22 L.length c22), (10, .slice (some ⟨b2, 0, some 1⟩) C.length c77), (11, .bool (decide (sumLen C % 2 = 0))), (12, .slice (some ⟨rb, 0, some 1⟩) L.length cap), (13, nv (sumLen (C.take i))), (15, .slice (some ⟨bc, oc, some 1⟩) c.length pc), (93, .slice (some ⟨b2, 0, some 1⟩) C.length c77), (94, nv C.length), (95, nv i), (128, .slice (some ⟨bc, oc, some 1⟩) c.length pc), (129, nv c.length), (130, nv k)]) ⟨0, cQ, rfl, Nat.zero_le _, hE, rfl, gQ, hQs, by rw [List.take_zero, List.append_nil]; exact hQv, rfl, rfl, rfl, rfl, rfl, rfl, rfl, rfl, rfl, rfl, rfl, rfl, trivial⟩ ?_
    rintro kk ρ m2 ⟨k, cQ, rfl, hk, hE2, hbc, gQ, hQs, hQv, hh⟩
    rw [hh.env]; clear hh
    refine cSeq ?_
    refine cRegion ?_
    refine sBin rfl rfl (aInt_lss) ?_
    refine sNil (kSeqN ?_)
    refine cSeq ?_   -- seq 24
    refine cCond rfl (fun c5 => ?_) (fun c5 => ?_)
    ·
      obtain ⟨x, hx⟩ : ∃ x, c[k]? = some x := ⟨_, List.getElem?_eq_getElem c5⟩
      have hxL := hcL x (List.mem_of_getElem? hx)
      have hnx := hnext k x hx
      have hnv := flat_nodup hCn hc hx
      have hqx := hQv x hxL
      rw [strI, if_neg hnv] at hqx
      have gc2 := hbc.trans gc
      obtain ⟨bp, op, pp, rp, cp, ep, gp, xp⟩ := (i22.ext (E82.trans hE2)).atN (show 0 < L.length by omega)
      cases ep
      have hpx : L[x]? = some (L.getD x 0) := by rw [List.getD_eq_getElem?_getD, List.getElem?_eq_getElem hxL]; rfl
      refine cSkip (kSeqN ?_)
      refine cSeq ?_
      refine cBlock ?_
      refine cSeq ?_
      refine cRegion ?_
      refine sMv (v := nv _) rfl ?_
      refine sIx T22 S3 rfl rfl (by omega) ?_
      refine sLd (v := nv x) A3 rfl gc2 (xc k x hx) ?_
      refine sAs (v := nv _) rfl ?_
      refine sAs (v := nv _) rfl ?_
      refine sNil (kSeqN ?_)
      refine cSeq ?_   -- seq 27
      refine cSeq ?_
      refine cDraw rfl ?_
      refine sMv (v := nv _) rfl ?_
      refine sBin (v := .bool false) (a := x) (b := 0) rfl rfl (by rw [aInt_lss, decide_eq_false (by omega)]) ?_
      refine sMv (v := .bool false) rfl ?_
      refine sG rfl rfl ?_
      refine sMv (v := nv _) rfl ?_
      refine sG rfl rfl ?_
      refine sMv (v := .slice _ _ _) rfl ?_
      refine sG rfl rfl ?_
      refine sLen T22 rfl ?_
      refine sG rfl rfl ?_
      refine sBin (v := .bool false) (a := x) (b := L.length) rfl rfl (by rw [aInt_geq, decide_eq_false (by omega)]) ?_
      refine sP (v := .bool false) rfl ?_
      refine sMv (v := .bool false) rfl ?_
      refine sG rfl rfl ?_
      refine sMv (v := .slice _ _ _) rfl ?_
      refine sG rfl rfl ?_
      refine sMv (v := nv _) rfl ?_
      refine sG rfl rfl ?_
      refine sIx T22 S3 rfl rfl (by omega) ?_
      refine sG rfl rfl ?_
      refine sLd (v := nv (L.getD x 0)) A3 rfl gp (xp x _ hpx) ?_
      refine sG rfl rfl ?_
      refine sMv (v := .slice _ _ _) rfl ?_
      refine sG rfl rfl ?_
      refine sMv (v := nv _) rfl ?_
      refine sG rfl rfl ?_
      refine sBin rfl rfl (aInt_add (b := 1) (by omega)) ?_
      refine sG rfl rfl ?_
      refine sMv (v := .slice _ _ _) rfl ?_
      refine sG rfl rfl ?_
      refine sLen T22 rfl ?_
      refine sG rfl rfl ?_
      refine sBin (a := k + 1) (b := c.length) rfl rfl (aInt_rem (by omega)) ?_
      refine sG rfl rfl ?_
      refine sIx T22 S3 rfl rfl (show (k + 1) % c.length < c.length from Nat.mod_lt _ (by omega)) ?_
      refine sG rfl rfl ?_
      refine sLd (v := nv (L.getD x 0)) A3 rfl gc2 (xc _ _ hnx) ?_
      refine sG rfl rfl ?_
      refine sBin (v := .bool false) (a := L.getD x 0) (b := L.getD x 0) rfl rfl (neqF rfl) ?_
      refine sP (v := .bool false) rfl ?_
      refine sMv (v := .bool false) rfl ?_
      refine sG rfl rfl ?_
      refine sMv (v := .slice _ _ _) rfl ?_
      refine sG rfl rfl ?_
      refine sMv (v := nv _) rfl ?_
      refine sG rfl rfl ?_
      refine sIx T22 S3 rfl rfl (by omega) ?_
      refine sG rfl rfl ?_
      refine sLd (v := nv (L.getD x 0)) A3 rfl gQ (by rw [Nat.zero_add, Nat.mul_one]; exact hqx) ?_
      refine sG rfl rfl ?_
      refine sBin (v := .bool false) (a := L.getD x 0) (b := 0) rfl rfl (by rw [aInt_lss, decide_eq_false (by omega)]) ?_
      refine sP (v := .bool false) rfl ?_
      refine sNil (kSeqN ?_)
      refine cCondF rfl ?_
      refine cSkip (kSeqN ?_)
      refine cRegion ?_
      refine sMv (v := .slice _ _ _) rfl ?_
      refine sMv (v := nv _) rfl ?_
      refine sIx T22 S3 rfl rfl (by omega) ?_
      refine sSt (v := .int .i64 (-1)) S3 rfl rfl gQ (by simp; omega) rfl rfl ?_
      refine sNil (kBlkN (kSeqN ?_))
      refine cRegion ?_
      refine sBin rfl rfl (aInt_add (b := 1) (by omega)) ?_
      refine sMv (v := nv _) rfl ?_
      refine sNil (kSeqN ?_)
      have hrbc : rb ≠ bc := by have := e82.1; omega
      refine ⟨_, ?_, k + 1, _, rfl, by omega, hE2.set hrb _, (gSn hrbc).trans hbc, gS rfl (live gQ), by simpa using hQs, fun y hy => ?_, rfl, rfl, rfl, rfl, rfl, rfl, rfl, rfl, rfl, rfl, rfl, rfl, trivial⟩
      · omega
      · rw [Array.getElem?_setIfInBounds]
        have hstep : ∀ z, z ∈ (C.take i).flatten ++ c.take (k + 1) ↔ z ∈ (C.take i).flatten ++ c.take k ∨ z = x := fun z => by
          rw [List.take_add_one, hx]; simp [or_assoc]
        by_cases h : x = y
        · subst h
          rw [if_pos (by simp), if_pos (by simp; omega), strI, if_pos ((hstep x).2 (.inr rfl))]
        · rw [if_neg (by simpa using h), hQv y hy]
          congr 2
          unfold strI
          by_cases h2 : y ∈ (C.take i).flatten ++ c.take k
          · rw [if_pos h2, if_pos ((hstep y).2 (.inl h2))]
          · rw [if_neg h2, if_neg (fun h3 => ((hstep y).1 h3).elim h2 (fun e => h e.symm))]
    ·
      obtain rfl : k = c.length := by omega
      rw [List.take_length] at hQv
      refine cExit (kSeqE (kSeqE (kBlkS (kSeqN ?_))))
      refine cRegion ?_
      refine sMv (v := nv _) rfl ?_
      refine sMv (v := .slice _ _ _) rfl ?_
      refine sLen T22 rfl ?_
      refine sBin (v := nv (c.length - 1)) rfl rfl (aInt_sub (a := c.length) (b := 1) (by omega)) ?_
      refine sBin (a := sumLen (C.take i)) (b := c.length - 1) rfl rfl (aInt_add (by omega)) ?_
      refine sAs (v := nv _) rfl ?_
      refine sNil (kBlkN (kSeqN ?_))
      refine cRegion ?_
      refine sBin rfl rfl (aInt_add (b := 1) (by omega)) ?_
      refine sMv (v := nv _) rfl ?_
      refine sNil (kSeqN ?_)
      have hsn : sumLen (C.take (i + 1)) = sumLen (C.take i) + (c.length - 1) := by
        rw [List.take_add_one, hc]
        exact sumLen_snoc _ _
      refine ⟨_, ?_, i + 1, cQ, rfl, by omega, hE2, gQ, hQs, by rw [flat_split hc]; exact hQv, by rw [hsn]; omega, rfl, rfl, rfl, rfl, by rw [hsn]; rfl, rfl, rfl, rfl, trivial⟩
      omega
  ·
    obtain rfl : i = C.length := by omega
    rw [List.take_length] at *
    refine cExit (kSeqE (kSeqE (kBlkS (kSeqN ?_))))
    refine cSeq ?_
    refine cSeq ?_
    refine cRegion ?_
    refine sMv (v := .slice _ _ _) rfl ?_
    refine sLen T22 rfl ?_
    refine sMv (v := nv 0) rfl ?_
    refine sNil (kSeqN ?_)
    refine cBlock ?_
    refine wpC_loop (fun k ρ m2 => ∃ x, k = L.length - x ∧ x ≤ L.length ∧ m' = m2 ∧ Has ρ [(11, .bool (decide (sumLen C % 2 = 0))), (13, nv (sumLen C)), (175, .slice (some ⟨rb, 0, some 1⟩) L.length cap), (176, nv L.length), (177, nv x)]) ⟨0, rfl, Nat.zero_le _, rfl, rfl, rfl, rfl, rfl, rfl, trivial⟩ ?_
    rintro k ρ _ ⟨x, rfl, hx, rfl, hh⟩
    rw [hh.env]; clear hh
    refine cSeq ?_
    refine cRegion ?_
    refine sBin rfl rfl (aInt_lss) ?_
    refine sNil (kSeqN ?_)
    refine cSeq ?_   -- seq 32
    refine cCond rfl (fun c7 => ?_) (fun c7 => ?_)
    ·
      have hqx := hQv x c7
      have hfx := hCf x c7
      refine cSkip (kSeqN ?_)
      refine cSeq ?_
      refine cBlock ?_
      refine cSeq ?_
      refine cRegion ?_
      refine sMv (v := nv _) rfl ?_
      refine sIx T22 S3 rfl rfl (by omega) ?_
      refine sLd (v := .int .i64 (strI L C.flatten x)) A3 rfl gQ (by simpa using hqx) ?_
      refine sAs (v := nv _) rfl ?_
      refine sAs (v := .int .i64 (strI L C.flatten x)) rfl ?_
      refine sNil (kSeqN ?_)
      refine cSeq ?_
      refine cRegion ?_
      refine sMv (v := .int .i64 (strI L C.flatten x)) rfl ?_
      refine sBinI (b := 0) (v := .bool (decide ((0 : Int) ≤ strI L C.flatten x))) rfl rfl aInt_geqI ?_
      refine sMv (v := .bool (decide ((0 : Int) ≤ strI L C.flatten x))) rfl ?_
      by_cases h5 : (0 : Int) ≤ strI L C.flatten x
      ·
        rw [decide_eq_true h5]
        have hsx : strI L C.flatten x = Int.ofNat x := by
          unfold strI at h5 ⊢
          by_cases hm : x ∈ C.flatten
          · rw [if_pos hm] at h5; omega
          · rw [if_neg hm, hfx hm]
        refine sG rfl rfl ?_
        refine sMv (v := .int .i64 (strI L C.flatten x)) rfl ?_
        refine sG rfl rfl ?_
        refine sMv (v := nv _) rfl ?_
        refine sG rfl rfl ?_
        refine sBinI (b := Int.ofNat x) (v := .bool false) rfl rfl (by rw [aInt_neqI, hsx, decide_eq_false (by simp)]) ?_
        refine sP (v := .bool false) rfl ?_
        refine sNil (kSeqN ?_)
        refine cCondF rfl ?_
        refine cSkip (kBlkN (kSeqN ?_))
        refine cRegion ?_
        refine sBin rfl rfl (aInt_add (b := 1) (by omega)) ?_
        refine sMv (v := nv _) rfl ?_
        refine sNil (kSeqN ?_)
        refine ⟨_, ?_, x + 1, rfl, by omega, rfl, rfl, rfl, rfl, rfl, rfl, trivial⟩
        omega
      ·
        rw [decide_eq_false h5]
        refine sGno (q' := false) rfl rfl (by simp) ?_
        refine sGno (q' := false) rfl rfl (by simp) ?_
        refine sGno (q' := false) rfl rfl (by simp) ?_
        refine sP (v := .bool false) rfl ?_
        refine sNil (kSeqN ?_)
        refine cCondF rfl ?_
        refine cSkip (kBlkN (kSeqN ?_))
        refine cRegion ?_
        refine sBin rfl rfl (aInt_add (b := 1) (by omega)) ?_
        refine sMv (v := nv _) rfl ?_
        refine sNil (kSeqN ?_)
        refine ⟨_, ?_, x + 1, rfl, by omega, rfl, rfl, rfl, rfl, rfl, rfl, trivial⟩
        omega
    ·
      skip
      refine cExit (kSeqE (kSeqE (kBlkS (kSeqN ?_))))
      refine cSeq ?_
      refine cRegion ?_
      refine sMv (v := .bool _) rfl ?_
      refine sMv (v := nv _) rfl ?_
      refine sBin (a := sumLen C) (b := 2) rfl rfl (aInt_rem (by decide)) ?_
      refine sBin (a := sumLen C % 2) (b := 0) rfl rfl aInt_eql ?_
      refine sP (v := .bool true) (eqlBool _) ?_
      refine sMv (v := .bool true) rfl ?_
      refine sG rfl rfl ?_
      obtain ⟨v196, m196, h196, rfl, e196⟩ := spec_awake (hC.ext ((E22.trans E82).trans hE)) (hW.ext ((E22.trans E82).trans hE))
      refine sCall0 rfl call14 h196 ?_
      refine sP (v := .bool true) rfl ?_
      refine sAs (v := .bool _) rfl ?_
      refine sNil (kSeqN ?_)
      refine cRet ?_
      exact ⟨.inr rfl, _, rfl, rfl, ((E22.trans E82).trans hE).trans e196⟩
end Go.AM

/-! ### F50 -/
namespace Go.AM
open Go.Proofs Go.Proofs.YtdokoekgdeebpaaDoor Go.ChangeShapes
set_option maxRecDepth 100000
set_option linter.unusedVariables false
set_option linter.unusedSimpArgs false
theorem gSize : Tryd.prog.globals.size = 3 := by kernel_rfl
theorem u4 : Tryd.prog.underlying 4 = some .bool := by kernel_rfl
theorem u5 : Tryd.prog.underlying 5 = some (.int .u8) := by kernel_rfl
theorem var_block {P : Program} {w : World} {n : String} {g : Nat} {cs : Array Value} (hg : P.globalNamed n = some g) (h : w.var? P n = some cs) : ∃ t fz, w.heap[g]? = some (.cells cs t fz) := by
  simp only [World.var?, hg, Option.bind_some] at h
  split at h
  · rename_i c t fz e
    injection h with h; subst h
    exact ⟨t, fz, e⟩
  · cases h
theorem gCla : Tryd.prog.globalNamed "spoondrift/rev.classical" = some 1 := by kernel_rfl
theorem tCla : (Tryd.prog.globals[1]?).map (·.type) = some 129 := by kernel_rfl
theorem u3 : Tryd.prog.underlying 3 = some (.int .i64) := by kernel_rfl
theorem u98 : Tryd.prog.underlying 98 = some (.func #[3, 22] #[3] false) := by kernel_rfl
theorem u127 : Tryd.prog.underlying 127 = some (.struct #[{ name := "controls", type := 3, offset := 0, embedded := false, tag := "", pkgPath := "spoondrift/rev", byteOffset := 0 }, { name := "does", type := 98, offset := 1, embedded := false, tag := "", pkgPath := "spoondrift/rev", byteOffset := 8 }]) := by kernel_rfl
theorem u129 : Tryd.prog.underlying 129 = some (.map 3 127) := by kernel_rfl
theorem hc3 : Tryd.prog.cellsOf 3 = 1 := by kernel_rfl
theorem hc98 : Tryd.prog.cellsOf 98 = 1 := by kernel_rfl
theorem hc127 : Tryd.prog.cellsOf 127 = 2 := by kernel_rfl
def tokT : List UInt8 := [115, 112, 111, 111, 110, 100, 114, 105, 102, 116, 47, 114, 101, 118, 46, 116, 117, 114, 110, 101, 100]
def tokS : List UInt8 := [115, 112, 111, 111, 110, 100, 114, 105, 102, 116, 47, 114, 101, 118, 46, 115, 119, 97, 112, 112, 101, 100]
theorem oneT : ((List.range Tryd.prog.funcs.size).filter fun f => (Tryd.prog.funcs[f]?).any (·.name.toUTF8.data.toList == tokT)) = [76] := by kernel_rfl
theorem oneS : ((List.range Tryd.prog.funcs.size).filter fun f => (Tryd.prog.funcs[f]?).any (·.name.toUTF8.data.toList == tokS)) = [181] := by kernel_rfl
/-- A kind's entry: how many controls, what it does. -/
theorem entry_kind {w : World} {n : Nat} {c : Int} {q : FuncId} {tk : List UInt8} (ht : (tk = tokT ∧ q = 76) ∨ (tk = tokS ∧ q = 181)) {cs : List Value} {y : DataW (List UInt8) × List MemPlace}
    (h : DataW.trod (funcToken Tryd.prog) Tryd.prog w 0 (fun _ => true) true n 127 cs = some y) (hy : y.1 = .agg [.lit (.int .i64 c), .held tk]) : cs = [.int .i64 c, .func (.func q) #[] #[]] := by
  obtain ⟨xs, m, rfl, hx, hl, hn, hel⟩ := DataW.trod_struct u127 h
  have h0 := hel 0 _ rfl
  have h1 := hel 1 _ rfl
  rw [hx] at hy
  simp only [DataW.agg.injEq] at hy
  rw [hc127] at hl
  match cs, hl with
  | [a, b], _ =>
    match xs, hn, hy, h0, h1 with
    | [e0, e1], _, hy, h0, h1 =>
      simp only [List.map_cons, List.map_nil, List.cons.injEq, and_true] at hy
      have h2 : DataW.trod (funcToken Tryd.prog) Tryd.prog w 0 (fun _ => true) true m 3 [a] = some (.lit (.int .i64 c), e0.2) := by
        rw [← hy.1]; simpa [hc3] using h0
      have h3 : DataW.trod (funcToken Tryd.prog) Tryd.prog w 0 (fun _ => true) true m 98 [b] = some (.held tk, e1.2) := by
        rw [← hy.2]; simpa [hc98] using h1
      have hb : b = .func (.func q) #[] #[] := by
        rcases ht with ⟨rfl, rfl⟩ | ⟨rfl, rfl⟩
        · exact func_of_trod u98 oneT h3
        · exact func_of_trod u98 oneS h3
      subst hb
      cases m with
      | zero => simp [DataW.trod] at h2
      | succ m =>
        rw [DataW.trod_step] at h2
        unfold DataW.trodStep at h2
        rw [u3] at h2
        cases a <;> simp at h2
        simp_all
def claD : DataW Unit := .map [(.int .i64 1, .agg [.lit (.int .i64 0), .iface "func" (.lit (.string tokT))]), (.int .i64 9, .agg [.lit (.int .i64 1), .iface "func" (.lit (.string tokT))]), (.int .i64 11, .agg [.lit (.int .i64 0), .iface "func" (.lit (.string tokS))]), (.int .i64 12, .agg [.lit (.int .i64 2), .iface "func" (.lit (.string tokT))])]
/-- One of the table's entries. -/
def IsKind (k v : Value) : Prop := (k = .int .i64 1 ∧ v = .agg #[.int .i64 0, .func (.func 76) #[] #[]]) ∨ (k = .int .i64 9 ∧ v = .agg #[.int .i64 1, .func (.func 76) #[] #[]]) ∨ (k = .int .i64 11 ∧ v = .agg #[.int .i64 0, .func (.func 181) #[] #[]]) ∨ (k = .int .i64 12 ∧ v = .agg #[.int .i64 2, .func (.func 76) #[] #[]])
theorem mem_fold {x : Lit × DataW (List UInt8)} : ∀ {l : List (Lit × DataW (List UInt8))}, x ∈ l.foldr DataW.insert [] ↔ x ∈ l
  | [] => by simp
  | y :: l => by
    rw [List.foldr_cons, Go.ChangeMaps.mem_insert_iff, mem_fold, List.mem_cons]
theorem open_kinds {w : World} (h : funcsAt Tryd.prog w "spoondrift/rev.classical" claD) :
    ∃ c t fz b es clk, w.heap[1]? = some (.cells c t fz) ∧ c[0]? = some (.map (some b)) ∧ w.heap[b]? = some (.map es clk) ∧ (∀ x ∈ es.toList, IsKind x.key x.val) ∧ ∀ k, (k = 1 ∨ k = 9 ∨ k = 12) → ∃ x ∈ es.toList, x.key = .int .i64 k := by
  obtain ⟨g, t, cs, fuel, p, hg, ht, hc, hd⟩ := h
  obtain rfl := Option.some.inj (gCla.symm.trans hg)
  obtain rfl := Option.some.inj (tCla.symm.trans ht)
  obtain ⟨ty, fz, hb0⟩ := var_block hg hc
  have hout : claD.funcsOut = .map [(.int .i64 1, .agg [.lit (.int .i64 0), .held tokT]), (.int .i64 9, .agg [.lit (.int .i64 1), .held tokT]), (.int .i64 11, .agg [.lit (.int .i64 0), .held tokS]), (.int .i64 12, .agg [.lit (.int .i64 2), .held tokT])] := by rfl
  rw [hout] at hd
  rcases Go.WideElems.open_map u129 hd with ⟨_, h2⟩ | ⟨b, es, clk, n, _, hcs, hb, _, F, hx⟩
  · simp at h2
  simp only [Prod.mk.injEq, DataW.map.injEq] at hx
  have hx1 := hx.1
  have hmem : ∀ z, z ∈ es.toList.map (Go.WideElems.rg Tryd.prog 3 (Go.WideElems.elemAt (funcToken Tryd.prog) Tryd.prog w 0 (fun _ => true) true n 127)) ↔ z ∈ [((.int .i64 1 : Lit), (.agg [.lit (.int .i64 0), .held tokT] : DataW (List UInt8))), (.int .i64 9, .agg [.lit (.int .i64 1), .held tokT]), (.int .i64 11, .agg [.lit (.int .i64 0), .held tokS]), (.int .i64 12, .agg [.lit (.int .i64 2), .held tokT])] := fun z => by
    rw [hx1, mem_fold]
  have key : ∀ x ∈ es.toList, ∀ (k c : Int) (tk : List UInt8) (q : FuncId), ((tk = tokT ∧ q = 76) ∨ (tk = tokS ∧ q = 181)) → Go.WideElems.rg Tryd.prog 3 (Go.WideElems.elemAt (funcToken Tryd.prog) Tryd.prog w 0 (fun _ => true) true n 127) x = (.int .i64 k, .agg [.lit (.int .i64 c), .held tk]) → x.key = .int .i64 k ∧ x.val = .agg #[.int .i64 c, .func (.func q) #[] #[]] := by
    intro x hx k c tk q htk hr
    obtain ⟨y, hy⟩ := F.reads x hx
    rw [Go.WideElems.rg_of hy] at hr
    subst hr
    have h1 := Go.WideElems.rd_key hy
    obtain ⟨z, hz, h2⟩ := Go.WideElems.rd_val hy
    refine ⟨?_, ?_⟩
    · simp only [keyOf, u3, mapKey] at h1
      split at h1 <;> simp_all
    · simp only [Go.WideElems.elemAt] at hz
      split at hz
      · rename_i hf
        have := entry_kind htk hz h2.symm
        cases hv : x.val with
        | agg cs2 =>
          rw [hv] at this
          have e : cs2.toList = [.int .i64 c, .func (.func q) #[] #[]] := this
          obtain ⟨l⟩ := cs2
          simp only at e
          subst e; rfl
        | _ => rw [hv] at hf; simp [Value.formed, u127] at hf
      · cases hz
  have hcs0 : cs[0]? = some (.map (some b)) := by
    have := congrArg (·[0]?) hcs
    simpa using this
  refine ⟨cs, ty, fz, b, es, clk, hb0, hcs0, hb, fun x hx => ?_, fun k hk => ?_⟩
  · have h1 := (hmem _).1 (List.mem_map.2 ⟨x, hx, rfl⟩)
    simp only [List.mem_cons, List.not_mem_nil, or_false] at h1
    rcases h1 with h1 | h1 | h1 | h1
    · exact .inl (key x hx _ _ _ 76 (.inl ⟨rfl, rfl⟩) h1)
    · exact .inr (.inl (key x hx _ _ _ 76 (.inl ⟨rfl, rfl⟩) h1))
    · exact .inr (.inr (.inl (key x hx _ _ _ 181 (.inr ⟨rfl, rfl⟩) h1)))
    · exact .inr (.inr (.inr (key x hx _ _ _ 76 (.inl ⟨rfl, rfl⟩) h1)))
  · have : ∃ c : Int, ((.int .i64 k : Lit), (.agg [.lit (.int .i64 c), .held tokT] : DataW (List UInt8))) ∈ [((.int .i64 1 : Lit), (.agg [.lit (.int .i64 0), .held tokT] : DataW (List UInt8))), (.int .i64 9, .agg [.lit (.int .i64 1), .held tokT]), (.int .i64 11, .agg [.lit (.int .i64 0), .held tokS]), (.int .i64 12, .agg [.lit (.int .i64 2), .held tokT])] := by
      rcases hk with rfl | rfl | rfl
      · exact ⟨0, by simp⟩
      · exact ⟨1, by simp⟩
      · exact ⟨2, by simp⟩
    obtain ⟨c, hm⟩ := this
    obtain ⟨x, hx, hr⟩ := List.mem_map.1 ((hmem _).2 hm)
    exact ⟨x, hx, (key x hx _ _ _ 76 (.inl ⟨rfl, rfl⟩) hr).1⟩
theorem cla_data : (Rows.laid_spoondrift_rev_classical : DataW Unit) = .iface "func table" claD := by rfl
/-- An array of numbers that is read. -/
theorem open_nums {H : Type} {enc : TypeId × Value → H} {P : Program} {w : World} {sp : Nat → Bool} {held : Bool} {t e n fuel : Nat} {k : IntKind} {cs : List Value} {ds : List (DataW H)} {p : List MemPlace}
    (ht : P.underlying t = some (.array n e)) (he : P.underlying e = some (.int k)) (hc : P.cellsOf e = 1) (h : DataW.trod enc P w 0 sp held fuel t cs = some (.agg ds, p)) {i : Nat} {v : Int} (hi : ds[i]? = some (.lit (.int k v))) :
    cs[i]? = some (.int k v) := by
  obtain ⟨xs, m, rfl, hx, hl, hn, hel⟩ := DataW.trod_array ht h
  simp only [Prod.mk.injEq, DataW.agg.injEq] at hx
  obtain ⟨rfl, _⟩ := hx
  rw [List.getElem?_map, Option.map_eq_some_iff] at hi
  obtain ⟨y, hy, hy1⟩ := hi
  have hin : i < n := by rw [← hn]; exact (List.getElem?_eq_some_iff.1 hy).1
  have h0 := hel i hin
  rw [hy, hc, Nat.mul_one] at h0
  obtain ⟨q, e1, e2, _⟩ := DataW.trod_int he h0
  have e3 : q = v := by
    rw [e2] at hy1
    simpa using hy1
  subst e3
  have := congrArg (·[0]?) e1
  simpa [List.getElem?_take, List.getElem?_drop] using this
theorem gWan : Tryd.prog.globalNamed "spoondrift/rev.wants" = some 2 := by kernel_rfl
theorem tWan : (Tryd.prog.globals[2]?).map (·.type) = some 108 := by kernel_rfl
theorem u108 : Tryd.prog.underlying 108 = some (.array 8 3) := by kernel_rfl
def wanL : List Nat := [0, 0, 1, 2, 2, 2, 0, 0]
def laid1 : List (String × DataW Unit) := [("spoondrift/rev.classical", Rows.laid_spoondrift_rev_classical), ("spoondrift/rev.wants", Rows.laid_spoondrift_rev_wants)]
theorem wan_data : (Rows.laid_spoondrift_rev_wants : DataW Unit) = .agg (wanL.map fun x => .lit (.int .i64 (Int.ofNat x))) := by rfl
theorem of_laid0 {w : World} (h : laidMetH Tryd.prog laid1 w) : ∃ c t fz b es clk, w.heap[1]? = some (.cells c t fz) ∧ c[0]? = some (.map (some b)) ∧ w.heap[b]? = some (.map es clk) ∧ (∀ x ∈ es.toList, IsKind x.key x.val) ∧ ∀ k, (k = 1 ∨ k = 9 ∨ k = 12) → ∃ x ∈ es.toList, x.key = .int .i64 k :=
  open_kinds (h.funcs (n := "spoondrift/rev.classical") (by rw [← cla_data]; simp [laid1]))
theorem of_laid {w : World} (h : laidMetH Tryd.prog laid1 w) : ∃ c t fz, w.heap[2]? = some (.cells c t fz) ∧ ∀ (i x : Nat), wanL[i]? = some x → c[i]? = some (Value.int .i64 (Int.ofNat x)) := by
  have h1 : laidMet Tryd.prog [("spoondrift/rev.wants", Rows.laid_spoondrift_rev_wants)] w := by
    have e1 : laid1.filter (fun x => x.2.handleName?.isSome) = [("spoondrift/rev.classical", Rows.laid_spoondrift_rev_classical)] := by rfl
    have e2 : laid1.filter (fun x => x.2.handleName?.isNone) = [("spoondrift/rev.wants", Rows.laid_spoondrift_rev_wants)] := by rfl
    unfold laidMetH at h
    rw [e1, e2] at h
    exact h.1
  obtain ⟨ps, ⟨g1, t1, cs1, f1, p1, q1, hg1, ht1, hv1, hd1, _, _⟩, _, _⟩ := h1
  obtain rfl := Option.some.inj (gWan.symm.trans hg1)
  obtain rfl := Option.some.inj (tWan.symm.trans ht1)
  obtain ⟨ty, fz, hb⟩ := var_block hg1 hv1
  refine ⟨cs1, ty, fz, hb, fun i x hx => ?_⟩
  rw [wan_data] at hd1
  have := open_nums (i := i) (v := Int.ofNat x) u108 u3 hc3 hd1 (by rw [List.getElem?_map, hx]; rfl)
  simpa using this
end Go.AM

/-! ### F51 -/
namespace Go.AM
open Go.Proofs Go.Proofs.YtdokoekgdeebpaaDoor Go.RowKit
set_option maxRecDepth 100000
set_option linter.unusedVariables false
/-- An argument's block: where it lies, and its abstract cells (each stands for the machine's cell at the same place), or the entries of a map. -/
structure Arg0 where
  blk : Nat
  off : Nat
  cap : Nat
  cs : Array Value
  es : Option (List (Value × Value))
def arg0 : Arg0 := ⟨0, 0, 0, #[], none⟩
def Arg0.obj (a : Arg0) : AObj := match a.es with
  | none => .cells false a.cs
  | some es => .map false es
theorem Arg0.obj_rw (a : Arg0) : a.obj.rw = false := by
  unfold Arg0.obj; split <;> rfl
def wanCs : Array Value := #[nv 0, nv 0, nv 1, nv 2, nv 2, nv 2, nv 0, nv 0]
def mem0 (A : List Arg0) : Mem := (AObj.dead :: AObj.cells false #[.map (some 3)] :: AObj.cells false wanCs :: A.map Arg0.obj).toArray
def beta0 (A : List Arg0) : Beta where
  blk i := if i < 3 then i else (A.getD (i - 3) arg0).blk
  sh i := if i < 3 then 0 else (A.getD (i - 3) arg0).off
  cap i := if i < 3 then 1000000 else (A.getD (i - 3) arg0).off + max (A.getD (i - 3) arg0).cs.size (A.getD (i - 3) arg0).cap
/-- What is known of an argument's cells, all arguments' places being known. -/
def Arg0.ok (W : World) (A : List Arg0) (a : Arg0) : Prop :=
  (a.es = none → ∃ c t fz, W.heap[a.blk]? = some (.cells c t fz) ∧ ∀ (i : Nat) v, a.cs[i]? = some v → ∃ v', c[a.off + i]? = some v' ∧ VRel (beta0 A) (3 + A.length) v v') ∧
  ∀ es, a.es = some es → ∃ es' clk, W.heap[a.blk]? = some (.map es' clk) ∧ es'.size = es.length ∧ ∀ (i : Nat) x e', es[i]? = some x → es'[i]? = some e' → VRel (beta0 A) (3 + A.length) x.1 e'.key ∧ VRel (beta0 A) (3 + A.length) x.2 e'.val
theorem mem0_size (A : List Arg0) : (mem0 A).size = 3 + A.length := by simp [mem0]; omega
theorem mem0_get (A : List Arg0) (i : Nat) : Mem.get (mem0 A) i = if i = 0 then .dead else if i = 1 then .cells false #[.map (some 3)] else if i = 2 then .cells false wanCs else if h : i - 3 < A.length then (A[i - 3]).obj else .dead := by
  unfold Mem.get mem0
  rw [Array.getD_eq_getD_getElem?, List.getElem?_toArray]
  match i with
  | 0 => rfl
  | 1 => rfl
  | 2 => rfl
  | i + 3 =>
    rw [if_neg (by omega), if_neg (by omega), if_neg (by omega)]
    simp only [List.getElem?_cons_succ, Nat.add_sub_cancel, List.getElem?_map]
    by_cases h : i < A.length
    · rw [dif_pos h, List.getElem?_eq_getElem h]; rfl
    · rw [dif_neg h, List.getElem?_eq_none (by omega)]; rfl
theorem globW0 (A : List Arg0) : GlobW (mem0 A) := ⟨false, by rw [mem0_get]; rfl⟩
/-- The table of kinds: its block, its entries. -/
structure Kinds (W : World) (a : Arg0) : Prop where
  glob : ∃ c t fz, W.heap[1]? = some (.cells c t fz) ∧ c[0]? = some (.map (some a.blk))
  es : ∃ es, a.es = some es ∧ (∀ x ∈ es, IsKind x.1 x.2) ∧ ∀ k, (k = 1 ∨ k = 9 ∨ k = 12) → ∃ x ∈ es, x.1 = .int .i64 k
  ok : ∀ A, a.ok W A
theorem flat_kind {β : Beta} {N : Nat} {c : Int} {q : FuncId} : VRel β N (.agg #[.int .i64 c, .func (.func q) #[] #[]]) (.agg #[.int .i64 c, .func (.func q) #[] #[]]) := by
  refine .agg _ _ rfl fun i v v' h h' => ?_
  match i with
  | 0 => simp at h h'; subst h h'; exact .int _ _
  | 1 => simp at h h'; subst h h'; exact .func _ _ _ _ _ rfl (fun i v v' h => by simp at h) rfl (fun i v v' h => by simp at h)
  | i + 2 => simp at h
theorem kinds_ex {W : World} (hL : laidMetH Tryd.prog laid1 W) : ∃ a, Kinds W a := by
  obtain ⟨c, t, fz, b, es, clk, h0, h1, h2, h3, h4⟩ := of_laid0 hL
  refine ⟨⟨b, 0, 0, #[], some (es.toList.map fun x => (x.key, x.val))⟩, ⟨c, t, fz, h0, h1⟩, ⟨_, rfl, fun x hx => ?_, fun k hk => ?_⟩, fun A => ⟨fun h => (by cases h), fun es2 he => ?_⟩⟩
  · obtain ⟨y, hy, rfl⟩ := List.mem_map.1 hx
    exact h3 y hy
  · obtain ⟨y, hy, e⟩ := h4 k hk
    exact ⟨_, List.mem_map.2 ⟨y, hy, rfl⟩, e⟩
  · cases he
    refine ⟨es, clk, h2, by simp, fun i x e' hx he' => ?_⟩
    rw [List.getElem?_map, Array.getElem?_toList, he'] at hx
    cases hx
    have := h3 e' (by rw [← Array.mem_def]; exact Array.mem_of_getElem? he')
    rcases this with ⟨e1, e2⟩ | ⟨e1, e2⟩ | ⟨e1, e2⟩ | ⟨e1, e2⟩ <;> (simp only [e1, e2]; exact ⟨.int _ _, flat_kind⟩)
theorem sameI (a b : Int) : Instr.sameNow (.int .i64) (.int .i64 a) (.int .i64 b) = some (decide (a = b)) := by
  by_cases h : a = b
  · subst h; simp [Instr.sameNow]
  · simp [Instr.sameNow, h]
theorem find_kind {k : Nat} (hk : k = 1 ∨ k = 9 ∨ k = 12) : ∀ {es : List (Value × Value)} (i : Nat), (∀ x ∈ es, IsKind x.1 x.2) → (∃ x ∈ es, x.1 = .int .i64 (Int.ofNat k)) → ∃ j c, aFindNow (.int .i64) (nv k) es i = some (some (j, .agg #[nv c, .func (.func 76) #[] #[]]))
  | [], i, _, ⟨x, hx, _⟩ => by cases hx
  | e :: es, i, h1, h2 => by
    have hk1 := h1 e (by simp)
    obtain ⟨z, hz⟩ : ∃ z, e.1 = .int .i64 z := by rcases hk1 with h | h | h | h <;> exact ⟨_, h.1⟩
    rw [aFindNow, hz, nv, sameI]
    by_cases e1 : Int.ofNat k = z
    · subst e1
      rw [decide_eq_true rfl]
      rcases hk1 with ⟨a, b⟩ | ⟨a, b⟩ | ⟨a, b⟩ | ⟨a, b⟩
      · exact ⟨i, 0, by rw [b]; rfl⟩
      · exact ⟨i, 1, by rw [b]; rfl⟩
      · rw [hz] at a
        have := (Value.int.inj a).2
        simp at this; omega
      · exact ⟨i, 2, by rw [b]; rfl⟩
    · rw [decide_eq_false e1]
      refine find_kind hk (i + 1) (fun x hx => h1 x (by simp [hx])) ?_
      obtain ⟨x, hx, e2⟩ := h2
      rcases List.mem_cons.1 hx with rfl | hx
      · rw [hz] at e2; exact absurd (Value.int.inj e2).2.symm e1
      · exact ⟨x, hx, e2⟩
theorem globC0 {W : World} {a : Arg0} (h : Kinds W a) {A : List Arg0} (hA : A[0]? = some a) : GlobC (mem0 A) := by
  obtain ⟨es, he, h1, h2⟩ := h.es
  obtain ⟨hl, e0⟩ := List.getElem?_eq_some_iff.1 hA
  refine ⟨false, 3, false, es, by rw [mem0_get]; rfl, ?_, fun k hk => find_kind hk 0 h1 ?_⟩
  · rw [mem0_get, if_neg (by omega), if_neg (by omega), if_neg (by omega), dif_pos (by omega)]
    rw [show A[3 - 3] = a from e0, Arg0.obj, he]
  · exact h2 (Int.ofNat k) (by rcases hk with rfl | rfl | rfl <;> simp)
theorem rel0 {W : World} (hL : laidMetH Tryd.prog laid1 W) {A : List Arg0} {a0 : Arg0} (hK : Kinds W a0) (hA0 : A[0]? = some a0) (hA : ∀ a ∈ A, a.ok W A) : Rel Tryd.prog (beta0 A) (mem0 A) W := by
  obtain ⟨c, t, fz, h0, hc0⟩ := of_laid hL
  obtain ⟨ck, tk, fk, k0, k1⟩ := hK.glob
  obtain ⟨hl0, e0⟩ := List.getElem?_eq_some_iff.1 hA0
  refine ⟨by rw [mem0_size, gSize]; omega, fun g hg => ?_, fun i hi => ?_, fun i j _ hr _ => ?_⟩
  · rw [gSize] at hg
    exact ⟨if_pos hg, if_pos hg⟩
  · rw [mem0_get] at hi ⊢
    by_cases ez : i = 0
    · rw [if_pos ez] at hi; cases hi
    rw [if_neg ez] at hi ⊢
    by_cases ei : i = 1
    · subst ei
      rw [if_pos rfl] at hi ⊢
      refine ⟨_, k0, ck, tk, fk, rfl, by simp [beta0], fun j v hj => ?_, fun h => by cases h⟩
      match j with
      | 0 =>
        simp at hj; subst hj
        refine ⟨_, by simpa [beta0] using k1, ?_⟩
        have hb : (beta0 A).blk 3 = a0.blk := by
          simp only [beta0]; rw [if_neg (by omega), List.getD_eq_getElem?_getD, hA0]; rfl
        rw [← hb]
        exact .map _ (by rw [mem0_size]; omega)
      | j + 1 => simp at hj
    rw [if_neg ei] at hi ⊢
    by_cases e1 : i = 2
    · subst e1
      rw [if_pos rfl] at hi ⊢
      refine ⟨_, h0, c, t, fz, rfl, by simp [beta0, wanCs], fun j v hj => ?_, fun h => by cases h⟩
      have hj8 := (Array.getElem?_eq_some_iff.1 hj).1
      have hj8' : j < 8 := hj8
      obtain ⟨x, hx⟩ : ∃ x, wanL[j]? = some x := ⟨_, List.getElem?_eq_getElem hj8'⟩
      have hv : v = nv x := by
        have hall : ∀ j < 8, wanCs[j]? = (wanL[j]?).map fun x => nv x := by
          intro j hj
          match j, hj with
          | 0, _ => rfl
          | 1, _ => rfl
          | 2, _ => rfl
          | 3, _ => rfl
          | 4, _ => rfl
          | 5, _ => rfl
          | 6, _ => rfl
          | 7, _ => rfl
        rw [hall j hj8', hx] at hj
        exact (Option.some.inj hj).symm
      subst hv
      exact ⟨_, by simpa [beta0] using hc0 j x hx, .int _ _⟩
    rw [if_neg e1] at hi ⊢
    by_cases e4 : i - 3 < A.length
    · rw [dif_pos e4] at hi ⊢
      obtain ⟨o1, o2⟩ := hA _ (List.getElem_mem e4)
      have hb : (beta0 A).blk i = (A[i - 3]).blk := by
        simp only [beta0]; rw [if_neg (by omega), List.getD_eq_getElem?_getD, List.getElem?_eq_getElem e4]; rfl
      have hsh : (beta0 A).sh i = (A[i - 3]).off := by
        simp only [beta0]; rw [if_neg (by omega), List.getD_eq_getElem?_getD, List.getElem?_eq_getElem e4]; rfl
      have hcp : (beta0 A).cap i = (A[i - 3]).off + max (A[i - 3]).cs.size (A[i - 3]).cap := by
        simp only [beta0]; rw [if_neg (by omega), List.getD_eq_getElem?_getD, List.getElem?_eq_getElem e4]; rfl
      cases hes : (A[i - 3]).es with
      | none =>
        obtain ⟨c, t, fz, g1, g2⟩ := o1 hes
        rw [Arg0.obj, hes]
        refine ⟨_, by rw [hb]; exact g1, c, t, fz, rfl, by rw [hsh, hcp]; omega, fun j v hj => ?_, fun h => by cases h⟩
        obtain ⟨v', q1, q2⟩ := g2 j v hj
        exact ⟨v', by rw [hsh]; exact q1, by rw [mem0_size]; exact q2⟩
      | some es =>
        obtain ⟨es', clk, g1, g2, g3⟩ := o2 es hes
        rw [Arg0.obj, hes]
        exact ⟨_, by rw [hb]; exact g1, es', clk, rfl, g2, fun i x e' hx he => by rw [mem0_size]; exact g3 i x e' hx he, fun h => by cases h⟩
    · rw [dif_neg e4] at hi; cases hi
  · rw [mem0_get] at hr
    split at hr
    · cases hr
    split at hr
    · cases hr
    split at hr
    · cases hr
    split at hr
    · rw [Arg0.obj_rw] at hr; cases hr
    · cases hr
theorem arel_nil {β : Beta} {N : Nat} : ARel β N #[] #[] := ⟨rfl, fun i v v' h => by simp at h⟩
theorem arel_cons {β : Beta} {N : Nat} {v v' : Value} {l l' : List Value} (hv : VRel β N v v') (h : ARel β N l.toArray l'.toArray) : ARel β N (v :: l).toArray (v' :: l').toArray := by
  refine ⟨by have := h.1; simp at this ⊢; exact this, fun i x x' h1 h2 => ?_⟩
  cases i with
  | zero => simp at h1 h2; subst h1 h2; exact hv
  | succ i => exact h.2 i x x' (by simpa using h1) (by simpa using h2)
/-- From the abstract call to the machine's. -/
theorem entry {f : FuncId} {args args' : Array Value} {W : World} {A : List Arg0} (hL : laidMetH Tryd.prog laid1 W) {a0 : Arg0} (hK : Kinds W a0) (hA0 : A[0]? = some a0) (hA : ∀ a ∈ A, a.ok W A)
    (hargs : ARel (beta0 A) (3 + A.length) args args') (hc : ∃ v m', ACalls Tryd.prog f args (mem0 A) v m' ∧ v = .bool true) :
    Calls Tryd.prog f args' W fun e W' => e = .returned (.bool true) ∧ Below W.heap.size W W' := by
  have hR := rel0 hL hK hA0 hA
  obtain ⟨v, m', hcall, rfl⟩ := hc
  refine (hcall.2 _ W args' hR (by rw [mem0_size]; exact hargs)).mono ?_
  rintro e W' ⟨v', rfl, β', hv, _, hS⟩
  cases hv
  refine ⟨rfl, hS.os, hS.tape, hS.output, hS.wsz, fun k hk => hS.keep k hk fun i hi => ?_⟩
  rw [mem0_get] at hi
  split at hi
  · cases hi
  split at hi
  · cases hi
  split at hi
  · cases hi
  split at hi
  · rw [Arg0.obj_rw] at hi; cases hi
  · cases hi
end Go.AM

/-! ### F52 -/
namespace Go.AM
open Go Go.Proofs Go.Proofs.YtdokoekgdeebpaaDoor Go.RowKit Go.ChangeShapes Go.WideShapes
set_option maxRecDepth 100000
set_option linter.unusedVariables false
/-- A slice of whole numbers of a kind, readable. -/
def KAt (k : IntKind) (m : Mem) (v : Value) (l : List Int) : Prop :=
  (l = [] ∧ (v = .slice none 0 0 ∨ ∃ b o, v = .slice (some ⟨b, o, none⟩) 0 0)) ∨
  ∃ b o cap r c, v = .slice (some ⟨b, o, some 1⟩) l.length cap ∧ l.length ≤ cap ∧ Mem.get m b = .cells r c ∧ ∀ i x, l[i]? = some x → c[o + i]? = some (.int k x)
theorem KAt.ints {m : Mem} {v : Value} {l : List Int} (h : KAt .i64 m v l) : IntsAt m v l := by
  rcases h with h | ⟨b, o, cap, r, c, h1, _, h2, h3⟩
  · exact .inl h
  · exact .inr ⟨b, o, cap, r, c, h1, h2, h3⟩
theorem KAt.bytes {m : Mem} {v : Value} {l : List Int} (h : KAt .u8 m v l) : BytesAt m v l := h
theorem cell_heap {W : World} {a : Addr} {v : Value} (h : W.cell? a = some v) : a.spot = none ∧ ∃ c t fz, W.heap[a.block]? = some (.cells c t fz) ∧ c[a.off]? = some v := by
  unfold World.cell? at h
  split at h
  · rename_i c t fz e
    split at h
    · cases h
    · rename_i hs
      exact ⟨by simpa using hs, c, t, fz, e, h⟩
  · cases h
theorem add_block (a : Addr) (n : Nat) : (a.add n).block = a.block := by unfold Addr.add; split <;> rfl
theorem add0 (a : Addr) : a.add 0 = a := if_pos rfl
theorem add_off {a : Addr} {n : Nat} (h : a.spot = none) : (a.add n).off = a.off + n := by
  unfold Addr.add
  split <;> simp_all
theorem mem0_arg {A : List Arg0} {i : Nat} {a : Arg0} (h : A[i]? = some a) (hn : a.es = none) : Mem.get (mem0 A) (3 + i) = .cells false a.cs := by
  obtain ⟨hi, e⟩ := List.getElem?_eq_some_iff.1 h
  rw [mem0_get, if_neg (by omega), if_neg (by omega), if_neg (by omega), dif_pos (by omega)]
  simp only [Nat.add_sub_cancel_left, e, Arg0.obj, hn]
theorem beta0_arg {A : List Arg0} {i : Nat} {a : Arg0} (h : A[i]? = some a) : (beta0 A).blk (3 + i) = a.blk ∧ (beta0 A).sh (3 + i) = a.off ∧ (beta0 A).cap (3 + i) = a.off + max a.cs.size a.cap := by
  have e : A.getD (3 + i - 3) arg0 = a := by rw [Nat.add_sub_cancel_left, List.getD_eq_getElem?_getD, h]; rfl
  refine ⟨?_, ?_, ?_⟩
  · simp only [beta0]; rw [if_neg (by omega), e]
  · simp only [beta0]; rw [if_neg (by omega), e]
  · simp only [beta0]; rw [if_neg (by omega), e]
/-- The blocks of an argument lie from a place on. -/
def PartAt (A : List Arg0) (pos : Nat) (B : List Arg0) : Prop := ∀ (j : Nat) a, B[j]? = some a → A[pos + j]? = some a
theorem part_right {X Y : List Arg0} {pos : Nat} (h : X.length = pos) : PartAt (X ++ Y) pos Y := fun j a hj => by
  subst h
  rw [List.getElem?_append_right (by omega), Nat.add_sub_cancel_left]; exact hj
/-- A slice of whole numbers that is read: its block, what it holds, its abstract value by the place of its block. -/
structure RowP (W : World) (k : IntKind) (s : Value) where
  a : Arg0
  l : List Int
  f : Nat → Value
  ok : ∀ A : List Arg0, a.ok W A
  wf : ∀ n ∈ l, (Lit.int k n).wf = true
  rel : ∀ (A : List Arg0) (i : Nat), A[i]? = some a → KAt k (mem0 A) (f i) l ∧ VRel (beta0 A) (3 + A.length) (f i) s
theorem ok0 {W : World} (hL : laidMetH Tryd.prog laid1 W) (A : List Arg0) : Arg0.ok W A ⟨1, 0, 0, #[], none⟩ := by
  obtain ⟨c0, t0, fz0, _, _, _, h0, _⟩ := of_laid0 hL
  exact ⟨fun _ => ⟨c0, t0, fz0, h0, fun i v h => by simp at h⟩, fun es h => by cases h⟩
theorem row_of {H : Type} {enc : TypeId × Value → H} {W : World} {k : IntKind} {t e : TypeId} {s : Value} {fuel : Nat} {x : DataW H × List MemPlace} (hL : laidMetH Tryd.prog laid1 W)
    (ht : Tryd.prog.underlying t = some (.slice e)) (he : Tryd.prog.underlying e = some (.int k)) (hc : Tryd.prog.cellsOf e = 1)
    (hd : DataW.trod enc Tryd.prog W 0 (fun _ => true) true fuel t [s] = some x) : Nonempty (RowP W k s) := by
  rcases open_ints ht he hc hd with ⟨hcs, _⟩ | ⟨x, ln, cp, zs, hcs, _, hl, hm, hz, _, hcell, hwz⟩
  · simp at hcs
    subst hcs
    exact ⟨⟨_, [], fun _ => .slice none 0 0, ok0 hL, by simp, fun A i _ => ⟨.inl ⟨rfl, .inl rfl⟩, .sliceNil⟩⟩⟩
  · simp at hcs
    subst hcs
    rw [if_pos rfl] at hz
    by_cases h0 : ln = 0
    · subst h0
      exact ⟨⟨_, [], fun _ => .slice (some ⟨0, 0, none⟩) 0 0, ok0 hL, by simp, fun A i _ => ⟨.inl ⟨rfl, .inr ⟨_, _, rfl⟩⟩, .lost _ _ _ trivial⟩⟩⟩
    · obtain ⟨hsp, c, t1, fz, hh, _⟩ := cell_heap (hcell 0 (by omega))
      rw [add0] at hsp
      rw [add_block] at hh
      have hcs : ∀ j, j < ln → c[x.off + j]? = some (.int k (zs.getD j 0)) := fun j hj => by
        obtain ⟨_, c', t2, fz2, h2, h3⟩ := cell_heap (hcell j (by omega))
        rw [add_block, hh] at h2
        obtain ⟨rfl, rfl, rfl⟩ : c = c' ∧ t1 = t2 ∧ fz = fz2 := by injection h2 with h2; injection h2 with a b c; exact ⟨a, b, c⟩
        rwa [add_off hsp] at h3
      have hlz : (zs.take ln).length = ln := by rw [List.length_take]; omega
      refine ⟨⟨⟨x.block, x.off, cp, ((zs.take ln).map fun n => Value.int k n).toArray, none⟩, zs.take ln, fun i => .slice (some ⟨3 + i, 0, some 1⟩) ln cp, fun A => ⟨fun _ => ⟨c, t1, fz, hh, fun j y hy => ?_⟩, fun es h => by cases h⟩, fun n hn => hwz n (List.mem_of_mem_take hn), fun A i hA => ⟨?_, ?_⟩⟩⟩
      · simp only [List.getElem?_toArray, List.getElem?_map, Option.map_eq_some_iff] at hy
        obtain ⟨n, hn, rfl⟩ := hy
        rw [List.getElem?_take] at hn
        split at hn
        · refine ⟨_, ?_, .int _ _⟩
          rw [hcs j (by assumption), List.getD_eq_getElem?_getD, hn]; rfl
        · cases hn
      · refine .inr ⟨3 + i, 0, cp, false, _, by rw [hlz], by rw [hlz]; exact hl, mem0_arg hA rfl, fun j n hn => ?_⟩
        simp only [List.getElem?_toArray, List.getElem?_map, hn, Option.map_some, Nat.zero_add]
      · obtain ⟨e1, e2, e3⟩ := beta0_arg hA
        have hi := (List.getElem?_eq_some_iff.1 hA).1
        have := VRel.slice (β := beta0 A) (N := 3 + A.length) (3 + i) 0 1 ln cp cp (by omega) (by omega) hl (Nat.le_refl _) (by rw [e2, e3]; simp only; omega) (by unfold maxLen at hm; omega)
        rw [e1, e2] at this
        obtain ⟨xb, xo, xs⟩ := x
        obtain rfl : xs = none := hsp
        exact this
/-- An argument that is a slice of whole numbers. -/
theorem ints_arg {H : Type} {enc : TypeId × Value → H} {W : World} {k : IntKind} {t e : TypeId} {r : Reach} {base : Nat} {v : Value} {d : DataW H} {p : List MemPlace} (hL : laidMetH Tryd.prog laid1 W)
    (ht : Tryd.prog.underlying t = some (.slice e)) (he : Tryd.prog.underlying e = some (.int k)) (hc : Tryd.prog.cellsOf e = 1)
    (hval : Value.okWide Tryd.prog W r base t v) (hd : DataW.Trod enc Tryd.prog W 0 (fun _ => true) true t v d p) :
    ∃ (L : Nat) (B : Nat → List Arg0) (l : List Int) (f : Nat → Value), (∀ pos, (B pos).length = L) ∧ (∀ n ∈ l, (Lit.int k n).wf = true) ∧
      ∀ (A : List Arg0) (pos : Nat), PartAt A pos (B pos) → (∀ a ∈ B pos, a.ok W A) ∧ KAt k (mem0 A) (f pos) l ∧ VRel (beta0 A) (3 + A.length) (f pos) v := by
  obtain ⟨q, len, cap, rfl⟩ := okWide_slice ht hval
  obtain ⟨fuel, hf⟩ := hd
  obtain ⟨R⟩ := row_of hL ht he hc hf
  refine ⟨1, fun _ => [R.a], R.l, R.f, fun _ => rfl, R.wf, fun A pos hp => ⟨fun a ha => ?_, R.rel A pos (hp 0 _ rfl)⟩⟩
  rw [List.mem_singleton.1 ha]; exact R.ok A
theorem u72 : Tryd.prog.underlying 72 = some (.slice 5) := by kernel_rfl
theorem c3 : Tryd.prog.cellsOf 3 = 1 := by kernel_rfl
theorem c5 : Tryd.prog.cellsOf 5 = 1 := by kernel_rfl
theorem laidOut : laidOutB Tryd.prog = true := by kernel_rfl
end Go.AM
namespace Go.AM
end Go.AM
