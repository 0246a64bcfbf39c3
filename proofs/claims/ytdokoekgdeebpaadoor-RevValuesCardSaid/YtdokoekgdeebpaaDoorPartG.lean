/- Part 7 of the proof: Plain laws, and contracts of the program's functions. -/
import Derived.Test.YtdokoekgdeebpaaDoorPartF
import Derived.WideKeyElems2
import Derived.ChangeMaps
import Derived.Test.YtdokoekgdeebpaaDoorRows
import Derived.ProofKit
import Derived.LaidMore
import Derived.LaidHandle
import Derived.OpenShut
import Derived.Stop.Joined
import Derived.Below
import Derived.Carry
import Derived.ChangeSlices
import Derived.WideShapes
set_option linter.unusedVariables false
set_option linter.unusedSimpArgs false
/-! ### R31 -/
namespace Go.AM
open Go.Proofs
set_option maxRecDepth 100000
set_option linter.unusedVariables false
set_option linter.unusedSimpArgs false
theorem awT : rtabM 2 [(9, [0, 1])] = [0, 3, 2, 1] := by decide +kernel
theorem awA : runM [(12, [0, 1, 2])] 3 = 7 := by decide +kernel
theorem awC : circP (ofs [0, 2, 1, 3]) = [(9, [1, 0]), (9, [0, 1]), (9, [1, 0])] := by decide +kernel
theorem awY : cyclesP (ofs [0, 2, 1, 3]) = [[1, 2]] := by decide +kernel
theorem awEv : evenP (ofs [0, 2, 1, 3]) = false := by decide +kernel
theorem awWE : wideE (ofs [0, 2, 1, 3]) = 0 := by decide +kernel
theorem awWN : wideN (ofs [0, 2, 1, 3]) = 2 := by decide +kernel
theorem awCn : countV 3 2 = 102 ∧ countE 3 2 = 0 := by decide +kernel
theorem awS2 : shortE (ofs [0, 2, 1, 3]) 2 = 6 := by decide +kernel
theorem awS2n : shortN (ofs [0, 2, 1, 3]) 2 = 0 := by decide +kernel
theorem awS3 : shortE (ofs [0, 2, 1, 3]) 3 = 0 := by decide +kernel
theorem awS3n : shortN (ofs [0, 2, 1, 3]) 3 = 2 := by decide +kernel
theorem awS3l : (shortP (ofs [0, 2, 1, 3]) 3).length = 3 := by decide +kernel
theorem awF1n : foundN 2 (cleanS [(9, [0, 1])] (posM [1])) = 1 := by decide +kernel
theorem awF1e : foundE 2 (cleanS [(9, [0, 1])] (posM [1])) = 0 := by decide +kernel
theorem awF2n : foundN 2 (borrS [(9, [0, 1])] (posM [0])) = 1 := by decide +kernel
theorem awF2e : foundE 2 (borrS [(9, [0, 1])] (posM [0])) = 0 := by decide +kernel
theorem awF3n : foundN 2 (borrS [(9, [0, 1]), (9, [0, 1])] (posM [0])) = 0 := by decide +kernel
theorem awF3e : foundE 2 (borrS [(9, [0, 1]), (9, [0, 1])] (posM [0])) = 6 := by decide +kernel
def orX : BX := .mk 5 0 [.mk 1 0 [], .mk 1 1 []]
theorem awPE : cpE 2 2 orX = 0 := by decide +kernel
theorem awPN : cpN 2 2 orX = 5 := by decide +kernel
theorem awPG : cpG 2 2 orX = [(9, [0, 3]), (1, [3]), (9, [1, 4]), (1, [4]), (12, [3, 4, 2]), (1, [4]), (9, [1, 4]), (1, [3]), (9, [0, 3]), (1, [2])] := by decide +kernel
theorem c21 : CircOk 2 [(9, [0, 1])] := .of (by decide)
theorem c31 : CircOk 3 [(12, [0, 1, 2])] := .of (by decide)
theorem c174 : CircOk 2 [(9, [0, 1]), (9, [0, 1])] := .of (by decide)
theorem allS {α : Type} {p : α → Prop} {a : α} {l : List α} (hl : ∀ t ∈ l, p t) (h : p a) : ∀ t ∈ l ++ [a], p t := fun t ht => by
  rcases List.mem_append.1 ht with ht | ht
  · exact hl t ht
  · rw [List.mem_singleton.1 ht]; exact h
theorem obl3 {P : Program} {l : List Oper} {log : List Ent} {m' m0 : Mem} {hs : List (Nat × Nat)} {e17 e36 e42 : Ent} {o17 o36 o42 : Oper} (hE : ∀ e ∈ log, Ext m0 e.m) (hE' : Ext m0 m')
    (h17 : log[17]? = some e17) (l17 : l[17]? = some o17) (h36 : log[36]? = some e36) (l36 : l[36]? = some o36) (h42 : log[42]? = some e42) (l42 : l[42]? = some o42)
    (f17 : ∀ M, Ext m0 M → aRead P M (evR e17.ρ) o17.op = some e17.v) (f36 : aPure P (evR e36.ρ) o36.op = some e36.v) (f42 : ∀ M, Ext m0 M → aRead P M (evR e42.ρ) o42.op = some e42.v)
    (hh : ∀ p ∈ hs, p.1 = 17 ∨ p.1 = 36 ∨ p.1 = 42) : obl P ⟨l⟩ log m' hs := by
  refine obl_ext hE hE' fun p hp e o he ho M hM => ?_
  rcases hh p hp with h | h | h <;> rw [h] at he ho
  · rw [h17] at he; rw [l17] at ho; cases he; cases ho; exact .inl (f17 M hM)
  · rw [h36] at he; rw [l36] at ho; cases he; cases ho; exact .inr f36
  · rw [h42] at he; rw [l42] at ho; cases he; cases ho; exact .inl (f42 M hM)
theorem mem_nil {α : Type} {p : α → Prop} : ∀ t ∈ ([] : List α), p t := fun t h => by cases h
theorem mem_cons {α : Type} {p : α → Prop} {a : α} {l : List α} (h : p a) (hl : ∀ t ∈ l, p t) : ∀ t ∈ a :: l, p t := fun t ht => by
  rcases List.mem_cons.1 ht with rfl | ht
  · exact h
  · exact hl t ht
theorem orAt {m : Mem} {b : Nat} (hg : Mem.get m b = .cells true #[nv 1, nv 0, .slice none 0 0, nv 1, nv 1, .slice none 0 0]) : BAt (fun b => b < m.size) m 2 (.agg #[nv 5, nv 0, .slice (some ⟨b, 0, some 3⟩) 2 2]) orX := by
  refine ⟨_, rfl, .inr ⟨b, 0, 2, true, _, rfl, live hg, hg, fun i a hi => ?_⟩⟩
  have h1 := (List.getElem?_eq_some_iff.1 hi).1
  have hi' : i = 0 ∨ i = 1 := by have : orX.args.length = 2 := rfl; omega
  rcases hi' with rfl | rfl
  · obtain rfl : BX.mk 1 0 [] = a := by injection hi
    exact ⟨by simp, _, rfl, .inl ⟨rfl, _, _, rfl⟩⟩
  · obtain rfl : BX.mk 1 1 [] = a := by injection hi
    exact ⟨by simp, _, rfl, .inl ⟨rfl, _, _, rfl⟩⟩
def H14r : Nat → List (Nat × Nat) := fun id => if id = 8 then [(999999, 0), (17, 0), (17, 5), (17, 20), (17, 21), (17, 23), (17, 25), (17, 26), (17, 27), (17, 28), (17, 44), (17, 45), (36, 0), (36, 5), (36, 6), (36, 20), (36, 21), (36, 23), (36, 25), (36, 26), (36, 27), (36, 44), (36, 45), (42, 0), (42, 5), (42, 6), (42, 20), (42, 21), (42, 23), (42, 25), (42, 26), (42, 27), (42, 44), (42, 45)] else []
theorem okf14 : okF Tryd.prog H14r 14 218 = true := by kernel_rfl
set_option maxHeartbeats 8000000 in
theorem spec_awake {m : Mem} (hC : GlobC m) (hW : GlobW m) : ∃ v m', ACalls Tryd.prog 14 #[] m v m' ∧ (v = .bool true ∧ Ext m m') := by
  refine wpF (args := []) mixed okf14 (fn := Tryd.f14) rfl rfl rfl (by simp) ?_
  refine cSeq ?_
  refine cRegion ?_
  refine sAs (v := .bool _) rfl ?_
  refine sNil (kSeqN ?_)
  refine cSeq ?_
  refine cRegion ?_
  refine sRow [0, 1] rfl (by decide) (by kernel_rfl) fun q19 m19 o19 x19 => ?_
  obtain ⟨v20, m20, h20, rfl, x20⟩ := spec_lgate (m := m19) (k := 9) (q := q19) (n := [0, 1].length) (c := [0, 1].length)
  refine sCall2 rfl call69 rfl rfl h20 ?_
  refine sGates [(9, .slice q19 [0, 1].length [0, 1].length, [0, 1])] (mem_cons (o19.ext x20) (mem_nil)) rfl (by decide) (by kernel_rfl) fun q21 m21 cs21 o21 x21 => ?_
  replace o21 : OwnG 0 m21 (.slice q21 1 1) cs21 [(9, [0, 1])] := o21
  obtain ⟨v22, m22, h22, rfl, x22⟩ := spec_lof (m := m21) (k := 2) (q := q21) (n := 1) (c := 1)
  refine sCall2 rfl call68 rfl rfl h22 ?_
  refine sAllocB (bl := m22.size) rfl Z30 (by kernel_rfl) ?_
  refine sStNAB rfl S30 rfl rfl rfl rfl (by kernel_rfl) ?_
  have xs1 : Ext m22 (m22.push (.cells true #[nv 2, nv 0, .slice q21 1 1])) := .push _ _
  have gs1 : Mem.get (m22.push (.cells true #[nv 2, nv 0, .slice q21 1 1])) m22.size = .cells true #[nv 2, nv 0, .slice q21 1 1] := gP rfl
  generalize m22.push (.cells true #[nv 2, nv 0, .slice q21 1 1]) = ms1 at *
  refine sNil (kSeqN ?_)
  refine cSeq ?_
  refine cRegion ?_
  refine sLdAll A30 S30 rfl gs1 rfl ?_
  obtain ⟨v25, m25, h25, w25, rfl, o25, x25⟩ := spec_Table (hC.ext ((((x19.trans x20).trans x21).trans x22).trans xs1)) (o21.ext (x22.trans xs1)) c21
  rw [awT] at o25
  replace o25 := o25.mono (Nat.zero_le _)
  obtain ⟨q25, c25, rfl⟩ := o25.ints.lenN
  refine sCall1 rfl call41 rfl h25 ?_
  refine sMv (v := .tuple _) rfl ?_
  refine sP (v := .slice _ _ _) rfl ?_   -- extract ['t23', '0']
  refine sP (v := nv _) rfl ?_   -- extract ['t23', '1']
  refine sAs (v := .slice _ _ _) rfl ?_
  refine sAs (v := nv _) rfl ?_
  refine sNil (kSeqN ?_)
  refine cSeq ?_
  refine cRegion ?_
  refine sRow [0, 1, 2] rfl (by decide) (by kernel_rfl) fun q29 m29 o29 x29 => ?_
  obtain ⟨v30, m30, h30, rfl, x30⟩ := spec_lgate (m := m29) (k := 12) (q := q29) (n := [0, 1, 2].length) (c := [0, 1, 2].length)
  refine sCall2 rfl call69 rfl rfl h30 ?_
  refine sGates [(12, .slice q29 [0, 1, 2].length [0, 1, 2].length, [0, 1, 2])] (mem_cons (o29.ext x30) (mem_nil)) rfl (by decide) (by kernel_rfl) fun q31 m31 cs31 o31 x31 => ?_
  replace o31 : OwnG 0 m31 (.slice q31 1 1) cs31 [(12, [0, 1, 2])] := o31
  obtain ⟨v32, m32, h32, rfl, x32⟩ := spec_lof (m := m31) (k := 3) (q := q31) (n := 1) (c := 1)
  refine sCall2 rfl call68 rfl rfl h32 ?_
  obtain ⟨v33, m33, h33, rfl, x33⟩ := spec_Apply (hC.ext (((((((((x19.trans x20).trans x21).trans x22).trans xs1).trans x25).trans x29).trans x30).trans x31).trans x32)) (o31.ext x32) c31 (x := 3) (by decide)
  rw [awA] at h33
  refine sCall2 rfl call39 rfl rfl h33 ?_
  refine sMv (v := .tuple _) rfl ?_
  refine sP (v := nv _) rfl ?_   -- extract ['t28', '0']
  refine sP (v := nv _) rfl ?_   -- extract ['t28', '1']
  refine sAs (v := nv _) rfl ?_
  refine sAs (v := nv _) rfl ?_
  refine sNil (kSeqN ?_)
  refine cSeq ?_
  refine cRegion ?_
  refine sRow [0, 2, 1, 3] rfl (by decide) (by kernel_rfl) fun q37 m37 o37 x37 => ?_
  obtain ⟨v38, m38, h38, s38, cs38, rfl, o38, x38⟩ := spec_Circuit (p := (ofs [0, 2, 1, 3])) o37.ints (by decide)
  rw [awWE, awWN] at h38
  rw [awC] at o38
  replace o38 := o38.mono (Nat.zero_le _)
  obtain ⟨q38, c38, rfl⟩ := o38.1.len
  refine sCall1 rfl call18 rfl h38 ?_
  refine sMv (v := .tuple _) rfl ?_
  refine sP (v := .agg _) rfl ?_   -- extract ['t36', '0']
  refine sP (v := nv _) rfl ?_   -- extract ['t36', '1']
  refine sAllocB (bl := m38.size) rfl Z30 (by kernel_rfl) ?_
  refine sStNAB rfl S30 rfl rfl rfl rfl (by kernel_rfl) ?_
  have xs6 : Ext m38 (m38.push (.cells true #[nv 2, nv 0, .slice q38 3 c38])) := .push _ _
  have gs6 : Mem.get (m38.push (.cells true #[nv 2, nv 0, .slice q38 3 c38])) m38.size = .cells true #[nv 2, nv 0, .slice q38 3 c38] := gP rfl
  generalize m38.push (.cells true #[nv 2, nv 0, .slice q38 3 c38]) = ms6 at *
  refine sAs (v := nv _) rfl ?_
  refine sNil (kSeqN ?_)
  refine cSeq ?_
  refine cRegion ?_
  refine sRow [0, 2, 1, 3] rfl (by decide) (by kernel_rfl) fun q42 m42 o42 x42 => ?_
  obtain ⟨v43, m43, h43, w43, cs43, rfl, o43, x43⟩ := spec_Cycles (p := (ofs [0, 2, 1, 3])) o42.ints (by decide)
  rw [awWE] at h43
  rw [awY] at o43
  have r43 := o43.rows
  obtain ⟨b43, oo43, cp43, rr43, cd43, ee43, g43, xx43⟩ := r43.at (by decide)
  obtain ⟨s43, hs43, ha43⟩ := xx43 0 (ofs [1, 2]) rfl
  obtain ⟨q43, c43, rfl⟩ := ha43.lenN
  subst ee43
  refine sCall1 rfl call21 rfl h43 ?_
  refine sMv (v := .tuple _) rfl ?_
  refine sP (v := .slice _ _ _) rfl ?_   -- extract ['t41', '0']
  refine sP (v := nv _) rfl ?_   -- extract ['t41', '1']
  refine sAs (v := .slice _ _ _) rfl ?_
  refine sAs (v := nv _) rfl ?_
  refine sNil (kSeqN ?_)
  refine cSeq ?_
  refine cRegion ?_
  refine sRow [0, 2, 1, 3] rfl (by decide) (by kernel_rfl) fun q47 m47 o47 x47 => ?_
  obtain ⟨v48, m48, h48, rfl, x48⟩ := spec_Even (p := (ofs [0, 2, 1, 3])) o47.ints (by decide)
  rw [awEv, awWE] at h48
  refine sCall1 rfl call23 rfl h48 ?_
  refine sMv (v := .tuple _) rfl ?_
  refine sP (v := .bool _) rfl ?_   -- extract ['t46', '0']
  refine sP (v := nv _) rfl ?_   -- extract ['t46', '1']
  refine sAs (v := .bool _) rfl ?_
  refine sAs (v := nv _) rfl ?_
  refine sNil (kSeqN ?_)
  refine cSeq ?_
  refine cRegion ?_
  obtain ⟨v52, m52, h52, rfl, x52⟩ := spec_Count (m := m48) (w := 3) (g := 2)
  rw [awCn.1, awCn.2] at h52
  refine sCall2 rfl call35 rfl rfl h52 ?_
  refine sMv (v := .tuple _) rfl ?_
  refine sP (v := nv _) rfl ?_   -- extract ['t51', '0']
  refine sP (v := nv _) rfl ?_   -- extract ['t51', '1']
  refine sAs (v := nv _) rfl ?_
  refine sAs (v := nv _) rfl ?_
  refine sNil (kSeqN ?_)
  refine cSeq ?_   -- seq 8
  refine cSeq ?_
  refine cDrawH (hs := [(999999, 0), (17, 0), (17, 5), (17, 20), (17, 21), (17, 23), (17, 25), (17, 26), (17, 27), (17, 28), (17, 44), (17, 45), (36, 0), (36, 5), (36, 6), (36, 20), (36, 21), (36, 23), (36, 25), (36, 26), (36, 27), (36, 44), (36, 45), (42, 0), (42, 5), (42, 6), (42, 20), (42, 21), (42, 23), (42, 25), (42, 26), (42, 27), (42, 44), (42, 45)]) rfl (by decide) ?_
  refine lStepO (sMv (v := nv _) rfl (sNil fun e0 hm0 => ?_))
  refine lStepO (sBin (v := .bool false) (a := 0) (b := 0) rfl rfl (neqF rfl) (sNil fun e1 hm1 => ?_))
  refine lStepO (sMv (v := .bool false) rfl (sNil fun e2 hm2 => ?_))
  refine lG rfl rfl ?_
  refine lStepO (sMv (v := .slice _ _ _) rfl (sNil fun e3 hm3 => ?_))
  refine lG rfl rfl ?_
  refine lStepO (sRow [0, 3, 2, 1] rfl (by decide) (by kernel_rfl) fun q59 m59 o59 x59 => (sNil fun e4 hm4 => ?_))
  refine lG rfl rfl ?_
  have h60 := spec_Equal (o25.ints.ext (((((((((((((x29.trans x30).trans x31).trans x32).trans x33).trans x37).trans x38).trans xs6).trans x42).trans x43).trans x47).trans x48).trans x52).trans x59)) o59.ints (by decide)
  rw [decide_eq_true rfl] at h60
  refine lStepO (sCall2 rfl call28 rfl rfl h60 (sNil fun e5 hm5 => ?_))
  refine lG rfl rfl ?_
  refine lStepO (sP (v := .bool false) rfl (sNil fun e6 hm6 => ?_))
  refine lStepO (sP (v := .bool false) rfl (sNil fun e7 hm7 => ?_))
  refine lStepO (sMv (v := .bool false) rfl (sNil fun e8 hm8 => ?_))
  refine lG rfl rfl ?_
  refine lStepO (sMv (v := nv _) rfl (sNil fun e9 hm9 => ?_))
  refine lG rfl rfl ?_
  refine lStepO (sBin (v := .bool false) (a := 0) (b := 0) rfl rfl (neqF rfl) (sNil fun e10 hm10 => ?_))
  refine lStepO (sP (v := .bool false) rfl (sNil fun e11 hm11 => ?_))
  refine lStepO (sMv (v := .bool false) rfl (sNil fun e12 hm12 => ?_))
  refine lG rfl rfl ?_
  refine lStepO (sMv (v := nv _) rfl (sNil fun e13 hm13 => ?_))
  refine lG rfl rfl ?_
  refine lStepO (sBin (v := .bool false) (a := 7) (b := 7) rfl rfl (neqF rfl) (sNil fun e14 hm14 => ?_))
  refine lStepO (sP (v := .bool false) rfl (sNil fun e15 hm15 => ?_))
  refine lStepO (sMv (v := .bool false) rfl (sNil fun e16 hm16 => ?_))
  refine lG rfl rfl ?_
  refine lStepLdA A30 S30 rfl ((((((x42.trans x43).trans x47).trans x48).trans x52).trans x59).cells gs6) rfl fun e17 hm17 hv17 hr17 => ?_
  refine lG rfl rfl ?_
  refine lStepO (sMv (v := nv _) rfl (sNil fun e18 hm18 => ?_))
  refine lG rfl rfl ?_
  refine lStepO (sRow [1, 0] rfl (by decide) (by kernel_rfl) fun q74 m74 o74 x74 => (sNil fun e19 hm19 => ?_))
  refine lG rfl rfl ?_
  obtain ⟨v75, m75, h75, rfl, x75⟩ := spec_lgate (m := m74) (k := 9) (q := q74) (n := [1, 0].length) (c := [1, 0].length)
  refine lStepO (sCall2 rfl call69 rfl rfl h75 (sNil fun e20 hm20 => ?_))
  refine lG rfl rfl ?_
  refine lStepO (sRow [0, 1] rfl (by decide) (by kernel_rfl) fun q76 m76 o76 x76 => (sNil fun e21 hm21 => ?_))
  refine lG rfl rfl ?_
  obtain ⟨v77, m77, h77, rfl, x77⟩ := spec_lgate (m := m76) (k := 9) (q := q76) (n := [0, 1].length) (c := [0, 1].length)
  refine lStepO (sCall2 rfl call69 rfl rfl h77 (sNil fun e22 hm22 => ?_))
  refine lG rfl rfl ?_
  refine lStepO (sRow [1, 0] rfl (by decide) (by kernel_rfl) fun q78 m78 o78 x78 => (sNil fun e23 hm23 => ?_))
  refine lG rfl rfl ?_
  obtain ⟨v79, m79, h79, rfl, x79⟩ := spec_lgate (m := m78) (k := 9) (q := q78) (n := [1, 0].length) (c := [1, 0].length)
  refine lStepO (sCall2 rfl call69 rfl rfl h79 (sNil fun e24 hm24 => ?_))
  refine lG rfl rfl ?_
  refine lStepO (sGates [(9, .slice q74 [1, 0].length [1, 0].length, [1, 0]), (9, .slice q76 [0, 1].length [0, 1].length, [0, 1]), (9, .slice q78 [1, 0].length [1, 0].length, [1, 0])] (mem_cons (o74.ext ((((x75.trans x76).trans x77).trans x78).trans x79)) (mem_cons (o76.ext ((x77.trans x78).trans x79)) (mem_cons (o78.ext x79) (mem_nil)))) rfl (by decide) (by kernel_rfl) fun q80 m80 cs80 o80 x80 => (sNil fun e25 hm25 => ?_))
  replace o80 : OwnG 0 m80 (.slice q80 3 3) cs80 [(9, [1, 0]), (9, [0, 1]), (9, [1, 0])] := o80
  refine lG rfl rfl ?_
  obtain ⟨v81, m81, h81, rfl, x81⟩ := spec_lof (m := m80) (k := 2) (q := q80) (n := 3) (c := 3)
  refine lStepO (sCall2 rfl call68 rfl rfl h81 (sNil fun e26 hm26 => ?_))
  refine lG rfl rfl ?_
  obtain ⟨v82, m82, h82, rfl, x82⟩ := spec_known (W := 2) (B := 0) (W' := 2) (B' := 0) (er := 0) (o38.gates.ext ((((((((((((((xs6.trans x42).trans x43).trans x47).trans x48).trans x52).trans x59).trans x74).trans x75).trans x76).trans x77).trans x78).trans x79).trans x80).trans x81)) (o80.gates.ext x81) (by decide) (by decide)
  rw [show (decide ((0 : Nat) = 0) && decide (2 = 2 ∧ 0 = 0 ∧ [(9, [1, 0]), (9, [0, 1]), (9, [1, 0])].map gvM = [(9, [1, 0]), (9, [0, 1]), (9, [1, 0])].map gvM)) = true by simp] at h82
  refine lStepO (sCall3 rfl call70 rfl rfl rfl h82 (sNil fun e27 hm27 => ?_))
  refine lG rfl rfl ?_
  refine lStepO (sP (v := .bool false) rfl (sNil fun e28 hm28 => ?_))
  refine lStepO (sP (v := .bool false) rfl (sNil fun e29 hm29 => ?_))
  refine lStepO (sMv (v := .bool false) rfl (sNil fun e30 hm30 => ?_))
  refine lG rfl rfl ?_
  refine lStepO (sMv (v := nv _) rfl (sNil fun e31 hm31 => ?_))
  refine lG rfl rfl ?_
  refine lStepO (sBin (v := .bool false) (a := 0) (b := 0) rfl rfl (neqF rfl) (sNil fun e32 hm32 => ?_))
  refine lStepO (sP (v := .bool false) rfl (sNil fun e33 hm33 => ?_))
  refine lStepO (sMv (v := .bool false) rfl (sNil fun e34 hm34 => ?_))
  refine lG rfl rfl ?_
  refine lStepO (sMv (v := .slice _ _ _) rfl (sNil fun e35 hm35 => ?_))
  refine lG rfl rfl ?_
  refine lStepLen T34 rfl fun e36 hm36 hv36 hr36 => ?_
  refine lG rfl rfl ?_
  refine lStepO (sBin (v := .bool false) (a := 1) (b := 1) rfl rfl (neqF rfl) (sNil fun e37 hm37 => ?_))
  refine lStepO (sP (v := .bool false) rfl (sNil fun e38 hm38 => ?_))
  refine lStepO (sMv (v := .bool false) rfl (sNil fun e39 hm39 => ?_))
  refine lG rfl rfl ?_
  refine lStepO (sMv (v := .slice _ _ _) rfl (sNil fun e40 hm40 => ?_))
  refine lG rfl rfl ?_
  refine lStepO (sIx T34 S22 rfl rfl (show 0 < (ofs2 [[1, 2]]).length by decide) (sNil fun e41 hm41 => ?_))
  refine lG rfl rfl ?_
  refine lStepLd (v := .slice q43 [1, 2].length c43) A22 rfl (((((((((((((x47.trans x48).trans x52).trans x59).trans x74).trans x75).trans x76).trans x77).trans x78).trans x79).trans x80).trans x81).trans x82).cells g43) hs43 fun e42 hm42 hv42 hr42 => ?_
  refine lG rfl rfl ?_
  refine lStepO (sRow [1, 2] rfl (by decide) (by kernel_rfl) fun q98 m98 o98 x98 => (sNil fun e43 hm43 => ?_))
  refine lG rfl rfl ?_
  have h99 := spec_Equal (ha43.ext (((((((((((((x47.trans x48).trans x52).trans x59).trans x74).trans x75).trans x76).trans x77).trans x78).trans x79).trans x80).trans x81).trans x82).trans x98)) o98.ints (by decide)
  rw [decide_eq_true rfl] at h99
  refine lStepO (sCall2 rfl call28 rfl rfl h99 (sNil fun e44 hm44 => ?_))
  refine lG rfl rfl ?_
  refine lStepO (sP (v := .bool false) rfl (sNil fun e45 hm45 => ?_))
  refine lStepO (sP (v := .bool false) rfl (sNil fun e46 hm46 => ?_))
  refine lStepO (sMv (v := .bool false) rfl (sNil fun e47 hm47 => ?_))
  refine lG rfl rfl ?_
  refine lStepO (sMv (v := nv _) rfl (sNil fun e48 hm48 => ?_))
  refine lG rfl rfl ?_
  refine lStepO (sBin (v := .bool false) (a := 0) (b := 0) rfl rfl (neqF rfl) (sNil fun e49 hm49 => ?_))
  refine lStepO (sP (v := .bool false) rfl (sNil fun e50 hm50 => ?_))
  refine lStepO (sMv (v := .bool false) rfl (sNil fun e51 hm51 => ?_))
  refine lG rfl rfl ?_
  refine lStepO (sMv (v := .bool false) rfl (sNil fun e52 hm52 => ?_))
  refine lStepO (sP (v := .bool false) rfl (sNil fun e53 hm53 => ?_))
  refine lStepO (sMv (v := .bool false) rfl (sNil fun e54 hm54 => ?_))
  refine lG rfl rfl ?_
  refine lStepO (sMv (v := nv _) rfl (sNil fun e55 hm55 => ?_))
  refine lG rfl rfl ?_
  refine lStepO (sBin (v := .bool false) (a := 0) (b := 0) rfl rfl (neqF rfl) (sNil fun e56 hm56 => ?_))
  refine lStepO (sP (v := .bool false) rfl (sNil fun e57 hm57 => ?_))
  refine lStepO (sMv (v := .bool false) rfl (sNil fun e58 hm58 => ?_))
  refine lG rfl rfl ?_
  refine lStepO (sMv (v := nv _) rfl (sNil fun e59 hm59 => ?_))
  refine lG rfl rfl ?_
  refine lStepO (sBin (v := .bool false) (a := 102) (b := 102) rfl rfl (neqF rfl) (sNil fun e60 hm60 => ?_))
  refine lStepO (sP (v := .bool false) rfl (sNil fun e61 hm61 => ?_))
  refine ⟨?_, (kSeqN ?_)⟩
  ·
    refine obl_fl (by simp) ?_
    refine obl3 (m0 := m52) (e17 := e17) (e36 := e36) (e42 := e42) ?_ ((((((((((x59.trans x74).trans x75).trans x76).trans x77).trans x78).trans x79).trans x80).trans x81).trans x82).trans x98) (by kernel_rfl) rfl (by kernel_rfl) rfl (by kernel_rfl) rfl (fun M hM => (hr17 M _ (hM.cells (((((x42.trans x43).trans x47).trans x48).trans x52).cells gs6))).trans (congrArg some hv17.symm)) (by rw [hv36]; exact hr36) (fun M hM => (hr42 M _ _ (hM.cells (((x47.trans x48).trans x52).cells g43)) hs43).trans (congrArg some hv42.symm)) (by decide)
    refine allS ?_ (by rw [hm61]; exact ((((((((((x59.trans x74).trans x75).trans x76).trans x77).trans x78).trans x79).trans x80).trans x81).trans x82).trans x98))
    refine allS ?_ (by rw [hm60]; exact ((((((((((x59.trans x74).trans x75).trans x76).trans x77).trans x78).trans x79).trans x80).trans x81).trans x82).trans x98))
    refine allS ?_ (by rw [hm59]; exact ((((((((((x59.trans x74).trans x75).trans x76).trans x77).trans x78).trans x79).trans x80).trans x81).trans x82).trans x98))
    refine allS ?_ (by rw [hm58]; exact ((((((((((x59.trans x74).trans x75).trans x76).trans x77).trans x78).trans x79).trans x80).trans x81).trans x82).trans x98))
    refine allS ?_ (by rw [hm57]; exact ((((((((((x59.trans x74).trans x75).trans x76).trans x77).trans x78).trans x79).trans x80).trans x81).trans x82).trans x98))
    refine allS ?_ (by rw [hm56]; exact ((((((((((x59.trans x74).trans x75).trans x76).trans x77).trans x78).trans x79).trans x80).trans x81).trans x82).trans x98))
    refine allS ?_ (by rw [hm55]; exact ((((((((((x59.trans x74).trans x75).trans x76).trans x77).trans x78).trans x79).trans x80).trans x81).trans x82).trans x98))
    refine allS ?_ (by rw [hm54]; exact ((((((((((x59.trans x74).trans x75).trans x76).trans x77).trans x78).trans x79).trans x80).trans x81).trans x82).trans x98))
    refine allS ?_ (by rw [hm53]; exact ((((((((((x59.trans x74).trans x75).trans x76).trans x77).trans x78).trans x79).trans x80).trans x81).trans x82).trans x98))
    refine allS ?_ (by rw [hm52]; exact ((((((((((x59.trans x74).trans x75).trans x76).trans x77).trans x78).trans x79).trans x80).trans x81).trans x82).trans x98))
    refine allS ?_ (by rw [hm51]; exact ((((((((((x59.trans x74).trans x75).trans x76).trans x77).trans x78).trans x79).trans x80).trans x81).trans x82).trans x98))
    refine allS ?_ (by rw [hm50]; exact ((((((((((x59.trans x74).trans x75).trans x76).trans x77).trans x78).trans x79).trans x80).trans x81).trans x82).trans x98))
    refine allS ?_ (by rw [hm49]; exact ((((((((((x59.trans x74).trans x75).trans x76).trans x77).trans x78).trans x79).trans x80).trans x81).trans x82).trans x98))
    refine allS ?_ (by rw [hm48]; exact ((((((((((x59.trans x74).trans x75).trans x76).trans x77).trans x78).trans x79).trans x80).trans x81).trans x82).trans x98))
    refine allS ?_ (by rw [hm47]; exact ((((((((((x59.trans x74).trans x75).trans x76).trans x77).trans x78).trans x79).trans x80).trans x81).trans x82).trans x98))
    refine allS ?_ (by rw [hm46]; exact ((((((((((x59.trans x74).trans x75).trans x76).trans x77).trans x78).trans x79).trans x80).trans x81).trans x82).trans x98))
    refine allS ?_ (by rw [hm45]; exact ((((((((((x59.trans x74).trans x75).trans x76).trans x77).trans x78).trans x79).trans x80).trans x81).trans x82).trans x98))
    refine allS ?_ (by rw [hm44]; exact ((((((((((x59.trans x74).trans x75).trans x76).trans x77).trans x78).trans x79).trans x80).trans x81).trans x82).trans x98))
    refine allS ?_ (by rw [hm43]; exact (((((((((x59.trans x74).trans x75).trans x76).trans x77).trans x78).trans x79).trans x80).trans x81).trans x82))
    refine allS ?_ (by rw [hm42]; exact (((((((((x59.trans x74).trans x75).trans x76).trans x77).trans x78).trans x79).trans x80).trans x81).trans x82))
    refine allS ?_ (by rw [hm41]; exact (((((((((x59.trans x74).trans x75).trans x76).trans x77).trans x78).trans x79).trans x80).trans x81).trans x82))
    refine allS ?_ (by rw [hm40]; exact (((((((((x59.trans x74).trans x75).trans x76).trans x77).trans x78).trans x79).trans x80).trans x81).trans x82))
    refine allS ?_ (by rw [hm39]; exact (((((((((x59.trans x74).trans x75).trans x76).trans x77).trans x78).trans x79).trans x80).trans x81).trans x82))
    refine allS ?_ (by rw [hm38]; exact (((((((((x59.trans x74).trans x75).trans x76).trans x77).trans x78).trans x79).trans x80).trans x81).trans x82))
    refine allS ?_ (by rw [hm37]; exact (((((((((x59.trans x74).trans x75).trans x76).trans x77).trans x78).trans x79).trans x80).trans x81).trans x82))
    refine allS ?_ (by rw [hm36]; exact (((((((((x59.trans x74).trans x75).trans x76).trans x77).trans x78).trans x79).trans x80).trans x81).trans x82))
    refine allS ?_ (by rw [hm35]; exact (((((((((x59.trans x74).trans x75).trans x76).trans x77).trans x78).trans x79).trans x80).trans x81).trans x82))
    refine allS ?_ (by rw [hm34]; exact (((((((((x59.trans x74).trans x75).trans x76).trans x77).trans x78).trans x79).trans x80).trans x81).trans x82))
    refine allS ?_ (by rw [hm33]; exact (((((((((x59.trans x74).trans x75).trans x76).trans x77).trans x78).trans x79).trans x80).trans x81).trans x82))
    refine allS ?_ (by rw [hm32]; exact (((((((((x59.trans x74).trans x75).trans x76).trans x77).trans x78).trans x79).trans x80).trans x81).trans x82))
    refine allS ?_ (by rw [hm31]; exact (((((((((x59.trans x74).trans x75).trans x76).trans x77).trans x78).trans x79).trans x80).trans x81).trans x82))
    refine allS ?_ (by rw [hm30]; exact (((((((((x59.trans x74).trans x75).trans x76).trans x77).trans x78).trans x79).trans x80).trans x81).trans x82))
    refine allS ?_ (by rw [hm29]; exact (((((((((x59.trans x74).trans x75).trans x76).trans x77).trans x78).trans x79).trans x80).trans x81).trans x82))
    refine allS ?_ (by rw [hm28]; exact (((((((((x59.trans x74).trans x75).trans x76).trans x77).trans x78).trans x79).trans x80).trans x81).trans x82))
    refine allS ?_ (by rw [hm27]; exact ((((((((x59.trans x74).trans x75).trans x76).trans x77).trans x78).trans x79).trans x80).trans x81))
    refine allS ?_ (by rw [hm26]; exact (((((((x59.trans x74).trans x75).trans x76).trans x77).trans x78).trans x79).trans x80))
    refine allS ?_ (by rw [hm25]; exact ((((((x59.trans x74).trans x75).trans x76).trans x77).trans x78).trans x79))
    refine allS ?_ (by rw [hm24]; exact (((((x59.trans x74).trans x75).trans x76).trans x77).trans x78))
    refine allS ?_ (by rw [hm23]; exact ((((x59.trans x74).trans x75).trans x76).trans x77))
    refine allS ?_ (by rw [hm22]; exact (((x59.trans x74).trans x75).trans x76))
    refine allS ?_ (by rw [hm21]; exact ((x59.trans x74).trans x75))
    refine allS ?_ (by rw [hm20]; exact (x59.trans x74))
    refine allS ?_ (by rw [hm19]; exact x59)
    refine allS ?_ (by rw [hm18]; exact x59)
    refine allS ?_ (by rw [hm17]; exact x59)
    refine allS ?_ (by rw [hm16]; exact x59)
    refine allS ?_ (by rw [hm15]; exact x59)
    refine allS ?_ (by rw [hm14]; exact x59)
    refine allS ?_ (by rw [hm13]; exact x59)
    refine allS ?_ (by rw [hm12]; exact x59)
    refine allS ?_ (by rw [hm11]; exact x59)
    refine allS ?_ (by rw [hm10]; exact x59)
    refine allS ?_ (by rw [hm9]; exact x59)
    refine allS ?_ (by rw [hm8]; exact x59)
    refine allS ?_ (by rw [hm7]; exact x59)
    refine allS ?_ (by rw [hm6]; exact x59)
    refine allS ?_ (by rw [hm5]; exact x59)
    refine allS ?_ (by rw [hm4]; exact .refl _)
    refine allS ?_ (by rw [hm3]; exact .refl _)
    refine allS ?_ (by rw [hm2]; exact .refl _)
    refine allS ?_ (by rw [hm1]; exact .refl _)
    refine allS ?_ (by rw [hm0]; exact .refl _)
    exact fun e h => by cases h
  refine cCondF rfl ?_
  refine cSkip (kSeqN ?_)
  refine cSeq ?_
  refine cRegion ?_
  refine sRow [0, 2, 1, 3] rfl (by decide) (by kernel_rfl) fun q118 m118 o118 x118 => ?_
  obtain ⟨v119, m119, h119, s119, cs119, rfl, o119, x119⟩ := spec_Shortest (p := (ofs [0, 2, 1, 3])) (most := 2) o118.ints (by decide)
  rw [awS2, awS2n] at h119
  obtain ⟨q119, c119, rfl⟩ := o119.1.len
  refine sCall2 rfl call29 rfl rfl h119 ?_
  refine sMv (v := .tuple _) rfl ?_
  refine sP (v := .agg _) rfl ?_   -- extract ['t117', '0']
  refine sP (v := nv _) rfl ?_   -- extract ['t117', '1']
  refine sAs (v := nv _) rfl ?_
  refine sNil (kSeqN ?_)
  refine cSeq ?_
  refine cRegion ?_
  refine sRow [0, 2, 1, 3] rfl (by decide) (by kernel_rfl) fun q123 m123 o123 x123 => ?_
  obtain ⟨v124, m124, h124, s124, cs124, rfl, o124, x124⟩ := spec_Shortest (p := (ofs [0, 2, 1, 3])) (most := 3) o123.ints (by decide)
  rw [awS3, awS3n] at h124
  obtain ⟨q124, c124, rfl⟩ := o124.1.len
  rw [awS3l] at h124
  refine sCall2 rfl call29 rfl rfl h124 ?_
  refine sMv (v := .tuple _) rfl ?_
  refine sP (v := .agg _) rfl ?_   -- extract ['t122', '0']
  refine sP (v := nv _) rfl ?_   -- extract ['t122', '1']
  refine sAllocB (bl := m124.size) rfl Z30 (by kernel_rfl) ?_
  refine sStNAB rfl S30 rfl rfl rfl rfl (by kernel_rfl) ?_
  have xs14 : Ext m124 (m124.push (.cells true #[nv 2, nv 0, .slice q124 3 c124])) := .push _ _
  have gs14 : Mem.get (m124.push (.cells true #[nv 2, nv 0, .slice q124 3 c124])) m124.size = .cells true #[nv 2, nv 0, .slice q124 3 c124] := gP rfl
  generalize m124.push (.cells true #[nv 2, nv 0, .slice q124 3 c124]) = ms14 at *
  refine sAs (v := nv _) rfl ?_
  refine sNil (kSeqN ?_)
  refine cSeq ?_
  refine cRegion ?_
  obtain ⟨v128, m128, h128, rfl, x128⟩ := spec_lvar (m := ms14) (k := 0)
  refine sCall1 rfl call72 rfl h128 ?_
  obtain ⟨v129, m129, h129, rfl, x129⟩ := spec_lvar (m := m128) (k := 1)
  refine sCall1 rfl call72 rfl h129 ?_
  refine sBuildS (c := #[nv 1, nv 0, .slice none 0 0, nv 1, nv 1, .slice none 0 0]) T64 S66 Z66 (by decide) (by decide) (by decide) (by kernel_rfl) (by kernel_rfl) rfl ?_
  have x130 : Ext m129 (m129.push (.cells true #[nv 1, nv 0, .slice none 0 0, nv 1, nv 1, .slice none 0 0])) := .push _ _
  have g130 : Mem.get (m129.push (.cells true #[nv 1, nv 0, .slice none 0 0, nv 1, nv 1, .slice none 0 0])) m129.size = .cells true #[nv 1, nv 0, .slice none 0 0, nv 1, nv 1, .slice none 0 0] := gP rfl
  generalize m129.push (.cells true #[nv 1, nv 0, .slice none 0 0, nv 1, nv 1, .slice none 0 0]) = m130 at *
  obtain ⟨v131, m131, h131, rfl, x131⟩ := spec_lmade (m := m130) (k := 5) (q := some ⟨m129.size, 0, some 3⟩) (n := 2) (c := 2)
  refine sCall2 rfl call71 rfl rfl h131 ?_
  obtain ⟨v132, m132, h132, s132, cs132, rfl, o132, x132⟩ := spec_Compile 2 2 (hW.ext ((((((((((((((((((((((((((((((((((((((x19.trans x20).trans x21).trans x22).trans xs1).trans x25).trans x29).trans x30).trans x31).trans x32).trans x33).trans x37).trans x38).trans xs6).trans x42).trans x43).trans x47).trans x48).trans x52).trans x59).trans x74).trans x75).trans x76).trans x77).trans x78).trans x79).trans x80).trans x81).trans x82).trans x98).trans x118).trans x119).trans x123).trans x124).trans xs14).trans x128).trans x129).trans x130).trans x131)) (orAt (x131.cells g130)) (by decide)
  rw [awPE, awPN] at h132
  rw [awPG] at o132
  replace o132 := o132.mono (Nat.zero_le _)
  obtain ⟨q132, c132, rfl⟩ := o132.1.len
  refine sCall2 rfl call55 rfl rfl h132 ?_
  refine sMv (v := .tuple _) rfl ?_
  refine sP (v := .agg _) rfl ?_   -- extract ['t127', '0']
  refine sP (v := nv _) rfl ?_   -- extract ['t127', '1']
  refine sAllocB (bl := m132.size) rfl Z30 (by kernel_rfl) ?_
  refine sStNAB rfl S30 rfl rfl rfl rfl (by kernel_rfl) ?_
  have xs15 : Ext m132 (m132.push (.cells true #[nv 5, nv 0, .slice q132 10 c132])) := .push _ _
  have gs15 : Mem.get (m132.push (.cells true #[nv 5, nv 0, .slice q132 10 c132])) m132.size = .cells true #[nv 5, nv 0, .slice q132 10 c132] := gP rfl
  generalize m132.push (.cells true #[nv 5, nv 0, .slice q132 10 c132]) = ms15 at *
  refine sAs (v := nv _) rfl ?_
  refine sNil (kSeqN ?_)
  refine cSeq ?_
  refine cRegion ?_
  refine sRow [0, 3] rfl (by decide) (by kernel_rfl) fun q135 m135 o135 x135 => ?_
  obtain ⟨v136, m136, h136, rfl, x136⟩ := spec_lgate (m := m135) (k := 9) (q := q135) (n := [0, 3].length) (c := [0, 3].length)
  refine sCall2 rfl call69 rfl rfl h136 ?_
  refine sRow [3] rfl (by decide) (by kernel_rfl) fun q137 m137 o137 x137 => ?_
  obtain ⟨v138, m138, h138, rfl, x138⟩ := spec_lgate (m := m137) (k := 1) (q := q137) (n := [3].length) (c := [3].length)
  refine sCall2 rfl call69 rfl rfl h138 ?_
  refine sRow [1, 4] rfl (by decide) (by kernel_rfl) fun q139 m139 o139 x139 => ?_
  obtain ⟨v140, m140, h140, rfl, x140⟩ := spec_lgate (m := m139) (k := 9) (q := q139) (n := [1, 4].length) (c := [1, 4].length)
  refine sCall2 rfl call69 rfl rfl h140 ?_
  refine sRow [4] rfl (by decide) (by kernel_rfl) fun q141 m141 o141 x141 => ?_
  obtain ⟨v142, m142, h142, rfl, x142⟩ := spec_lgate (m := m141) (k := 1) (q := q141) (n := [4].length) (c := [4].length)
  refine sCall2 rfl call69 rfl rfl h142 ?_
  refine sRow [3, 4, 2] rfl (by decide) (by kernel_rfl) fun q143 m143 o143 x143 => ?_
  obtain ⟨v144, m144, h144, rfl, x144⟩ := spec_lgate (m := m143) (k := 12) (q := q143) (n := [3, 4, 2].length) (c := [3, 4, 2].length)
  refine sCall2 rfl call69 rfl rfl h144 ?_
  refine sRow [4] rfl (by decide) (by kernel_rfl) fun q145 m145 o145 x145 => ?_
  obtain ⟨v146, m146, h146, rfl, x146⟩ := spec_lgate (m := m145) (k := 1) (q := q145) (n := [4].length) (c := [4].length)
  refine sCall2 rfl call69 rfl rfl h146 ?_
  refine sRow [1, 4] rfl (by decide) (by kernel_rfl) fun q147 m147 o147 x147 => ?_
  obtain ⟨v148, m148, h148, rfl, x148⟩ := spec_lgate (m := m147) (k := 9) (q := q147) (n := [1, 4].length) (c := [1, 4].length)
  refine sCall2 rfl call69 rfl rfl h148 ?_
  refine sRow [3] rfl (by decide) (by kernel_rfl) fun q149 m149 o149 x149 => ?_
  obtain ⟨v150, m150, h150, rfl, x150⟩ := spec_lgate (m := m149) (k := 1) (q := q149) (n := [3].length) (c := [3].length)
  refine sCall2 rfl call69 rfl rfl h150 ?_
  refine sRow [0, 3] rfl (by decide) (by kernel_rfl) fun q151 m151 o151 x151 => ?_
  obtain ⟨v152, m152, h152, rfl, x152⟩ := spec_lgate (m := m151) (k := 9) (q := q151) (n := [0, 3].length) (c := [0, 3].length)
  refine sCall2 rfl call69 rfl rfl h152 ?_
  refine sRow [2] rfl (by decide) (by kernel_rfl) fun q153 m153 o153 x153 => ?_
  obtain ⟨v154, m154, h154, rfl, x154⟩ := spec_lgate (m := m153) (k := 1) (q := q153) (n := [2].length) (c := [2].length)
  refine sCall2 rfl call69 rfl rfl h154 ?_
  refine sGates [(9, .slice q135 [0, 3].length [0, 3].length, [0, 3]), (1, .slice q137 [3].length [3].length, [3]), (9, .slice q139 [1, 4].length [1, 4].length, [1, 4]), (1, .slice q141 [4].length [4].length, [4]), (12, .slice q143 [3, 4, 2].length [3, 4, 2].length, [3, 4, 2]), (1, .slice q145 [4].length [4].length, [4]), (9, .slice q147 [1, 4].length [1, 4].length, [1, 4]), (1, .slice q149 [3].length [3].length, [3]), (9, .slice q151 [0, 3].length [0, 3].length, [0, 3]), (1, .slice q153 [2].length [2].length, [2])] (mem_cons (o135.ext ((((((((((((((((((x136.trans x137).trans x138).trans x139).trans x140).trans x141).trans x142).trans x143).trans x144).trans x145).trans x146).trans x147).trans x148).trans x149).trans x150).trans x151).trans x152).trans x153).trans x154)) (mem_cons (o137.ext ((((((((((((((((x138.trans x139).trans x140).trans x141).trans x142).trans x143).trans x144).trans x145).trans x146).trans x147).trans x148).trans x149).trans x150).trans x151).trans x152).trans x153).trans x154)) (mem_cons (o139.ext ((((((((((((((x140.trans x141).trans x142).trans x143).trans x144).trans x145).trans x146).trans x147).trans x148).trans x149).trans x150).trans x151).trans x152).trans x153).trans x154)) (mem_cons (o141.ext ((((((((((((x142.trans x143).trans x144).trans x145).trans x146).trans x147).trans x148).trans x149).trans x150).trans x151).trans x152).trans x153).trans x154)) (mem_cons (o143.ext ((((((((((x144.trans x145).trans x146).trans x147).trans x148).trans x149).trans x150).trans x151).trans x152).trans x153).trans x154)) (mem_cons (o145.ext ((((((((x146.trans x147).trans x148).trans x149).trans x150).trans x151).trans x152).trans x153).trans x154)) (mem_cons (o147.ext ((((((x148.trans x149).trans x150).trans x151).trans x152).trans x153).trans x154)) (mem_cons (o149.ext ((((x150.trans x151).trans x152).trans x153).trans x154)) (mem_cons (o151.ext ((x152.trans x153).trans x154)) (mem_cons (o153.ext x154) (mem_nil))))))))))) rfl (by decide) (by kernel_rfl) fun q155 m155 cs155 o155 x155 => ?_
  replace o155 : OwnG 0 m155 (.slice q155 10 10) cs155 [(9, [0, 3]), (1, [3]), (9, [1, 4]), (1, [4]), (12, [3, 4, 2]), (1, [4]), (9, [1, 4]), (1, [3]), (9, [0, 3]), (1, [2])] := o155
  obtain ⟨v156, m156, h156, rfl, x156⟩ := spec_lof (m := m155) (k := 5) (q := q155) (n := 10) (c := 10)
  refine sCall2 rfl call68 rfl rfl h156 ?_
  refine sAllocB (bl := m156.size) rfl Z30 (by kernel_rfl) ?_
  refine sStNAB rfl S30 rfl rfl rfl rfl (by kernel_rfl) ?_
  have xs16 : Ext m156 (m156.push (.cells true #[nv 5, nv 0, .slice q155 10 10])) := .push _ _
  have gs16 : Mem.get (m156.push (.cells true #[nv 5, nv 0, .slice q155 10 10])) m156.size = .cells true #[nv 5, nv 0, .slice q155 10 10] := gP rfl
  generalize m156.push (.cells true #[nv 5, nv 0, .slice q155 10 10]) = ms16 at *
  refine sNil (kSeqN ?_)
  refine cSeq ?_
  refine cRegion ?_
  refine sLdAll A30 S30 rfl (((((((((((((((((((((((((((((((((((((((((((((((((((((((((((x25.trans x29).trans x30).trans x31).trans x32).trans x33).trans x37).trans x38).trans xs6).trans x42).trans x43).trans x47).trans x48).trans x52).trans x59).trans x74).trans x75).trans x76).trans x77).trans x78).trans x79).trans x80).trans x81).trans x82).trans x98).trans x118).trans x119).trans x123).trans x124).trans xs14).trans x128).trans x129).trans x130).trans x131).trans x132).trans xs15).trans x135).trans x136).trans x137).trans x138).trans x139).trans x140).trans x141).trans x142).trans x143).trans x144).trans x145).trans x146).trans x147).trans x148).trans x149).trans x150).trans x151).trans x152).trans x153).trans x154).trans x155).trans x156).trans xs16).cells gs1) rfl ?_
  refine sRow [1] rfl (by decide) (by kernel_rfl) fun q159 m159 o159 x159 => ?_
  obtain ⟨v160, m160, h160, rfl, x160⟩ := spec_CleanX (hC.ext ((((((((((((((((((((((((((((((((((((((((((((((((((((((((((((((((x19.trans x20).trans x21).trans x22).trans xs1).trans x25).trans x29).trans x30).trans x31).trans x32).trans x33).trans x37).trans x38).trans xs6).trans x42).trans x43).trans x47).trans x48).trans x52).trans x59).trans x74).trans x75).trans x76).trans x77).trans x78).trans x79).trans x80).trans x81).trans x82).trans x98).trans x118).trans x119).trans x123).trans x124).trans xs14).trans x128).trans x129).trans x130).trans x131).trans x132).trans xs15).trans x135).trans x136).trans x137).trans x138).trans x139).trans x140).trans x141).trans x142).trans x143).trans x144).trans x145).trans x146).trans x147).trans x148).trans x149).trans x150).trans x151).trans x152).trans x153).trans x154).trans x155).trans x156).trans xs16).trans x159)) (o21.ext (((((((((((((((((((((((((((((((((((((((((((((((((((((((((((((x22.trans xs1).trans x25).trans x29).trans x30).trans x31).trans x32).trans x33).trans x37).trans x38).trans xs6).trans x42).trans x43).trans x47).trans x48).trans x52).trans x59).trans x74).trans x75).trans x76).trans x77).trans x78).trans x79).trans x80).trans x81).trans x82).trans x98).trans x118).trans x119).trans x123).trans x124).trans xs14).trans x128).trans x129).trans x130).trans x131).trans x132).trans xs15).trans x135).trans x136).trans x137).trans x138).trans x139).trans x140).trans x141).trans x142).trans x143).trans x144).trans x145).trans x146).trans x147).trans x148).trans x149).trans x150).trans x151).trans x152).trans x153).trans x154).trans x155).trans x156).trans xs16).trans x159)) c21 o159.ints (by decide) (by decide)
  rw [awF1n, awF1e] at h160
  refine sCall2 rfl call46 rfl rfl h160 ?_
  refine sMv (v := .tuple _) rfl ?_
  refine sP (v := nv _) rfl ?_   -- extract ['t157', '0']
  refine sP (v := nv _) rfl ?_   -- extract ['t157', '1']
  refine sAs (v := nv _) rfl ?_
  refine sAs (v := nv _) rfl ?_
  refine sNil (kSeqN ?_)
  refine cSeq ?_
  refine cRegion ?_
  refine sLdAll A30 S30 rfl (((((((((((((((((((((((((((((((((((((((((((((((((((((((((((((x25.trans x29).trans x30).trans x31).trans x32).trans x33).trans x37).trans x38).trans xs6).trans x42).trans x43).trans x47).trans x48).trans x52).trans x59).trans x74).trans x75).trans x76).trans x77).trans x78).trans x79).trans x80).trans x81).trans x82).trans x98).trans x118).trans x119).trans x123).trans x124).trans xs14).trans x128).trans x129).trans x130).trans x131).trans x132).trans xs15).trans x135).trans x136).trans x137).trans x138).trans x139).trans x140).trans x141).trans x142).trans x143).trans x144).trans x145).trans x146).trans x147).trans x148).trans x149).trans x150).trans x151).trans x152).trans x153).trans x154).trans x155).trans x156).trans xs16).trans x159).trans x160).cells gs1) rfl ?_
  refine sRow [0] rfl (by decide) (by kernel_rfl) fun q165 m165 o165 x165 => ?_
  obtain ⟨v166, m166, h166, rfl, x166⟩ := spec_BorrX (hC.ext ((((((((((((((((((((((((((((((((((((((((((((((((((((((((((((((((((x19.trans x20).trans x21).trans x22).trans xs1).trans x25).trans x29).trans x30).trans x31).trans x32).trans x33).trans x37).trans x38).trans xs6).trans x42).trans x43).trans x47).trans x48).trans x52).trans x59).trans x74).trans x75).trans x76).trans x77).trans x78).trans x79).trans x80).trans x81).trans x82).trans x98).trans x118).trans x119).trans x123).trans x124).trans xs14).trans x128).trans x129).trans x130).trans x131).trans x132).trans xs15).trans x135).trans x136).trans x137).trans x138).trans x139).trans x140).trans x141).trans x142).trans x143).trans x144).trans x145).trans x146).trans x147).trans x148).trans x149).trans x150).trans x151).trans x152).trans x153).trans x154).trans x155).trans x156).trans xs16).trans x159).trans x160).trans x165)) (o21.ext (((((((((((((((((((((((((((((((((((((((((((((((((((((((((((((((x22.trans xs1).trans x25).trans x29).trans x30).trans x31).trans x32).trans x33).trans x37).trans x38).trans xs6).trans x42).trans x43).trans x47).trans x48).trans x52).trans x59).trans x74).trans x75).trans x76).trans x77).trans x78).trans x79).trans x80).trans x81).trans x82).trans x98).trans x118).trans x119).trans x123).trans x124).trans xs14).trans x128).trans x129).trans x130).trans x131).trans x132).trans xs15).trans x135).trans x136).trans x137).trans x138).trans x139).trans x140).trans x141).trans x142).trans x143).trans x144).trans x145).trans x146).trans x147).trans x148).trans x149).trans x150).trans x151).trans x152).trans x153).trans x154).trans x155).trans x156).trans xs16).trans x159).trans x160).trans x165)) c21 o165.ints (by decide) (by decide)
  rw [awF2n, awF2e] at h166
  refine sCall2 rfl call48 rfl rfl h166 ?_
  refine sMv (v := .tuple _) rfl ?_
  refine sP (v := nv _) rfl ?_   -- extract ['t163', '0']
  refine sP (v := nv _) rfl ?_   -- extract ['t163', '1']
  refine sAs (v := nv _) rfl ?_
  refine sAs (v := nv _) rfl ?_
  refine sNil (kSeqN ?_)
  refine cSeq ?_
  refine cRegion ?_
  refine sRow [0, 1] rfl (by decide) (by kernel_rfl) fun q170 m170 o170 x170 => ?_
  obtain ⟨v171, m171, h171, rfl, x171⟩ := spec_lgate (m := m170) (k := 9) (q := q170) (n := [0, 1].length) (c := [0, 1].length)
  refine sCall2 rfl call69 rfl rfl h171 ?_
  refine sRow [0, 1] rfl (by decide) (by kernel_rfl) fun q172 m172 o172 x172 => ?_
  obtain ⟨v173, m173, h173, rfl, x173⟩ := spec_lgate (m := m172) (k := 9) (q := q172) (n := [0, 1].length) (c := [0, 1].length)
  refine sCall2 rfl call69 rfl rfl h173 ?_
  refine sGates [(9, .slice q170 [0, 1].length [0, 1].length, [0, 1]), (9, .slice q172 [0, 1].length [0, 1].length, [0, 1])] (mem_cons (o170.ext ((x171.trans x172).trans x173)) (mem_cons (o172.ext x173) (mem_nil))) rfl (by decide) (by kernel_rfl) fun q174 m174 cs174 o174 x174 => ?_
  replace o174 : OwnG 0 m174 (.slice q174 2 2) cs174 [(9, [0, 1]), (9, [0, 1])] := o174
  obtain ⟨v175, m175, h175, rfl, x175⟩ := spec_lof (m := m174) (k := 2) (q := q174) (n := 2) (c := 2)
  refine sCall2 rfl call68 rfl rfl h175 ?_
  refine sRow [0] rfl (by decide) (by kernel_rfl) fun q176 m176 o176 x176 => ?_
  obtain ⟨v177, m177, h177, rfl, x177⟩ := spec_BorrX (hC.ext ((((((((((((((((((((((((((((((((((((((((((((((((((((((((((((((((((((((((((x19.trans x20).trans x21).trans x22).trans xs1).trans x25).trans x29).trans x30).trans x31).trans x32).trans x33).trans x37).trans x38).trans xs6).trans x42).trans x43).trans x47).trans x48).trans x52).trans x59).trans x74).trans x75).trans x76).trans x77).trans x78).trans x79).trans x80).trans x81).trans x82).trans x98).trans x118).trans x119).trans x123).trans x124).trans xs14).trans x128).trans x129).trans x130).trans x131).trans x132).trans xs15).trans x135).trans x136).trans x137).trans x138).trans x139).trans x140).trans x141).trans x142).trans x143).trans x144).trans x145).trans x146).trans x147).trans x148).trans x149).trans x150).trans x151).trans x152).trans x153).trans x154).trans x155).trans x156).trans xs16).trans x159).trans x160).trans x165).trans x166).trans x170).trans x171).trans x172).trans x173).trans x174).trans x175).trans x176)) (o174.ext (x175.trans x176)) c174 o176.ints (by decide) (by decide)
  rw [awF3n, awF3e] at h177
  refine sCall2 rfl call48 rfl rfl h177 ?_
  refine sMv (v := .tuple _) rfl ?_
  refine sP (v := nv _) rfl ?_   -- extract ['t169', '0']
  refine sP (v := nv _) rfl ?_   -- extract ['t169', '1']
  refine sAs (v := nv _) rfl ?_
  refine sNil (kSeqN ?_)
  refine cSeq ?_
  refine cRegion ?_
  refine sMv (v := nv _) rfl ?_
  refine sBin (v := .bool true) (a := 6) (b := 6) rfl rfl (eqlT rfl) ?_
  refine sMv (v := .bool true) rfl ?_
  refine sG rfl rfl ?_
  refine sMv (v := nv _) rfl ?_
  refine sG rfl rfl ?_
  refine sBin (v := .bool true) (a := 0) (b := 0) rfl rfl (eqlT rfl) ?_
  refine sP (v := .bool true) rfl ?_
  refine sMv (v := .bool true) rfl ?_
  refine sG rfl rfl ?_
  refine sFA F30_2 rfl ?_
  refine sG rfl rfl ?_
  refine sLd (v := .slice q124 3 c124) A28 rfl (((((((((((((((((((((((((((((((((((((((((x128.trans x129).trans x130).trans x131).trans x132).trans xs15).trans x135).trans x136).trans x137).trans x138).trans x139).trans x140).trans x141).trans x142).trans x143).trans x144).trans x145).trans x146).trans x147).trans x148).trans x149).trans x150).trans x151).trans x152).trans x153).trans x154).trans x155).trans x156).trans xs16).trans x159).trans x160).trans x165).trans x166).trans x170).trans x171).trans x172).trans x173).trans x174).trans x175).trans x176).trans x177).cells gs14) rfl ?_
  refine sG rfl rfl ?_
  refine sLen T28 rfl ?_
  refine sG rfl rfl ?_
  refine sBin (v := .bool true) (a := 3) (b := 3) rfl rfl (eqlT rfl) ?_
  refine sP (v := .bool true) rfl ?_
  refine sMv (v := .bool true) rfl ?_
  refine sG rfl rfl ?_
  refine sLdAll A30 S30 rfl (((((((((((((((((((((((((((((((((((x135.trans x136).trans x137).trans x138).trans x139).trans x140).trans x141).trans x142).trans x143).trans x144).trans x145).trans x146).trans x147).trans x148).trans x149).trans x150).trans x151).trans x152).trans x153).trans x154).trans x155).trans x156).trans xs16).trans x159).trans x160).trans x165).trans x166).trans x170).trans x171).trans x172).trans x173).trans x174).trans x175).trans x176).trans x177).cells gs15) rfl ?_
  refine sG rfl rfl ?_
  refine sMv (v := nv _) rfl ?_
  refine sG rfl rfl ?_
  refine sLdAll A30 S30 rfl ((((((((((((x159.trans x160).trans x165).trans x166).trans x170).trans x171).trans x172).trans x173).trans x174).trans x175).trans x176).trans x177).cells gs16) rfl ?_
  refine sG rfl rfl ?_
  obtain ⟨v196, m196, h196, rfl, x196⟩ := spec_known (W := 5) (B := 0) (W' := 5) (B' := 0) (er := 0) (o132.gates.ext (((((((((((((((((((((((((((((((((((xs15.trans x135).trans x136).trans x137).trans x138).trans x139).trans x140).trans x141).trans x142).trans x143).trans x144).trans x145).trans x146).trans x147).trans x148).trans x149).trans x150).trans x151).trans x152).trans x153).trans x154).trans x155).trans x156).trans xs16).trans x159).trans x160).trans x165).trans x166).trans x170).trans x171).trans x172).trans x173).trans x174).trans x175).trans x176).trans x177)) (o155.gates.ext (((((((((((((x156.trans xs16).trans x159).trans x160).trans x165).trans x166).trans x170).trans x171).trans x172).trans x173).trans x174).trans x175).trans x176).trans x177)) (by decide) (by decide)
  rw [show (decide ((0 : Nat) = 0) && decide (5 = 5 ∧ 0 = 0 ∧ [(9, [0, 3]), (1, [3]), (9, [1, 4]), (1, [4]), (12, [3, 4, 2]), (1, [4]), (9, [1, 4]), (1, [3]), (9, [0, 3]), (1, [2])].map gvM = [(9, [0, 3]), (1, [3]), (9, [1, 4]), (1, [4]), (12, [3, 4, 2]), (1, [4]), (9, [1, 4]), (1, [3]), (9, [0, 3]), (1, [2])].map gvM)) = true by simp] at h196
  refine sCall3 rfl call70 rfl rfl rfl h196 ?_
  refine sP (v := .bool true) rfl ?_
  refine sMv (v := .bool true) rfl ?_
  refine sG rfl rfl ?_
  refine sMv (v := nv _) rfl ?_
  refine sG rfl rfl ?_
  refine sBin (v := .bool true) (a := 0) (b := 0) rfl rfl (eqlT rfl) ?_
  refine sP (v := .bool true) rfl ?_
  refine sMv (v := .bool true) rfl ?_
  refine sG rfl rfl ?_
  refine sMv (v := nv _) rfl ?_
  refine sG rfl rfl ?_
  refine sBin (v := .bool true) (a := 1) (b := 1) rfl rfl (eqlT rfl) ?_
  refine sP (v := .bool true) rfl ?_
  refine sMv (v := .bool true) rfl ?_
  refine sG rfl rfl ?_
  refine sMv (v := nv _) rfl ?_
  refine sG rfl rfl ?_
  refine sBin (v := .bool true) (a := 0) (b := 0) rfl rfl (eqlT rfl) ?_
  refine sP (v := .bool true) rfl ?_
  refine sMv (v := .bool true) rfl ?_
  refine sG rfl rfl ?_
  refine sMv (v := nv _) rfl ?_
  refine sG rfl rfl ?_
  refine sBin (v := .bool true) (a := 1) (b := 1) rfl rfl (eqlT rfl) ?_
  refine sP (v := .bool true) rfl ?_
  refine sMv (v := .bool true) rfl ?_
  refine sG rfl rfl ?_
  refine sMv (v := nv _) rfl ?_
  refine sG rfl rfl ?_
  refine sBin (v := .bool true) (a := 6) (b := 6) rfl rfl (eqlT rfl) ?_
  refine sP (v := .bool true) rfl ?_
  refine sAs (v := .bool _) rfl ?_
  refine sNil (kSeqN ?_)
  refine cRet ?_
  exact ⟨.inr rfl, _, rfl, rfl, ((((((((((((((((((((((((((((((((((((((((((((((((((((((((((((((((((((((((((((x19.trans x20).trans x21).trans x22).trans xs1).trans x25).trans x29).trans x30).trans x31).trans x32).trans x33).trans x37).trans x38).trans xs6).trans x42).trans x43).trans x47).trans x48).trans x52).trans x59).trans x74).trans x75).trans x76).trans x77).trans x78).trans x79).trans x80).trans x81).trans x82).trans x98).trans x118).trans x119).trans x123).trans x124).trans xs14).trans x128).trans x129).trans x130).trans x131).trans x132).trans xs15).trans x135).trans x136).trans x137).trans x138).trans x139).trans x140).trans x141).trans x142).trans x143).trans x144).trans x145).trans x146).trans x147).trans x148).trans x149).trans x150).trans x151).trans x152).trans x153).trans x154).trans x155).trans x156).trans xs16).trans x159).trans x160).trans x165).trans x166).trans x170).trans x171).trans x172).trans x173).trans x174).trans x175).trans x176).trans x177).trans x196)⟩
end Go.AM

/-! ### N11 -/
namespace Go.AM
open Go.Proofs
set_option maxRecDepth 100000
set_option linter.unusedVariables false
set_option linter.unusedSimpArgs false
theorem fm_step {vars : Int} : ∀ (d : Nat) (e : BX), fmB vars d e = 0 → fmB vars (d + 1) e = 0 ∧ szB (d + 1) e = szB d e ∧ ∀ x, valB x (d + 1) e = valB x d e
  | 0, e, h => by cases h
  | d + 1, e, h => by
    obtain ⟨kn, hk, hk1, hk7, hkl, hv, hv1, hfa⟩ := fm_right h
    have ih : ∀ a ∈ e.args, fmB vars (d + 1) a = 0 ∧ szB (d + 1) a = szB d a ∧ ∀ x, valB x (d + 1) a = valB x d a := fun a ha => fm_step d a (hfa a ha)
    refine ⟨?_, ?_, fun x => ?_⟩
    · rw [fmB] at h ⊢
      rw [show e.args.map (fmB vars (d + 1)) = e.args.map (fmB vars d) from List.map_congr_left fun a ha => by rw [(ih a ha).1, hfa a ha]]
      exact h
    · rw [szB, szB, show e.args.map (szB (d + 1)) = e.args.map (szB d) from List.map_congr_left fun a ha => (ih a ha).2.1]
    · rw [valB, valB, show e.args.map (valB x (d + 1)) = e.args.map (valB x d) from List.map_congr_left fun a ha => (ih a ha).2.2 x]
theorem fm_le {vars : Int} {d : Nat} {e : BX} (h : fmB vars d e = 0) : ∀ k, fmB vars (d + k) e = 0 ∧ szB (d + k) e = szB d e ∧ ∀ x, valB x (d + k) e = valB x d e
  | 0 => ⟨h, rfl, fun _ => rfl⟩
  | k + 1 => by
    obtain ⟨h1, h2, h3⟩ := fm_le h k
    obtain ⟨k1, k2, k3⟩ := fm_step (d + k) e h1
    exact ⟨k1, k2.trans h2, fun x => (k3 x).trans (h3 x)⟩
theorem val_congr {vars : Int} {X Y : Nat} (hb : ∀ j : Nat, (j : Int) < vars → X.testBit j = Y.testBit j) : ∀ (d : Nat) (e : BX), fmB vars d e = 0 → valB X d e = valB Y d e
  | 0, e, h => by cases h
  | d + 1, e, h => by
    obtain ⟨kn, hk, hk1, hk7, hkl, hv, hv1, hfa⟩ := fm_right h
    rw [valB, valB, show e.args.map (valB X d) = e.args.map (valB Y d) from List.map_congr_left fun a ha => val_congr hb d a (hfa a ha)]
    unfold valK
    by_cases h1 : e.kind.toNat = 1
    · rw [if_pos h1, if_pos h1]
      have hkn : kn = 1 := by rw [hk] at h1; exact h1
      obtain ⟨a1, a2⟩ := hv1 hkn
      exact hb _ (by omega)
    · rw [if_neg h1, if_neg h1]
end Go.AM

/-! ### N12 -/
namespace Go.AM
open Go.Proofs
set_option maxRecDepth 100000
set_option linter.unusedVariables false
set_option linter.unusedSimpArgs false
theorem runM_append (G H : List Gt) (X : Nat) : runM (G ++ H) X = runM H (runM G X) := by unfold runM; rw [List.foldl_append]
theorem turn_eq (X t : Nat) (cs : List Nat) : turnM X (cs ++ [t]) = if cs.all (fun c => X.testBit c) then X ^^^ 2 ^ t else X := by
  unfold turnM
  rw [List.dropLast_concat]
  simp
theorem flip_bit {X t j : Nat} (h : j ≠ t) : (X ^^^ 2 ^ t).testBit j = X.testBit j := by
  rw [Nat.testBit_xor, Nat.testBit_two_pow_of_ne (fun e => h e.symm), Bool.xor_false]
theorem flip_two (X t : Nat) : X ^^^ 2 ^ t ^^^ 2 ^ t = X := by rw [Nat.xor_assoc, Nat.xor_self, Nat.xor_zero]
theorem turn_inv {t : Nat} {cs : List Nat} (h : t ∉ cs) (X : Nat) : turnM (turnM X (cs ++ [t])) (cs ++ [t]) = X := by
  have key : cs.all (fun c => (X ^^^ 2 ^ t).testBit c) = cs.all (fun c => X.testBit c) := by
    rw [Bool.eq_iff_iff, List.all_eq_true, List.all_eq_true]
    exact ⟨fun hh c hc => by rw [← flip_bit (t := t) (fun e => h (by rw [← e]; exact hc))]; exact hh c hc, fun hh c hc => by rw [flip_bit (t := t) (fun e => h (by rw [← e]; exact hc))]; exact hh c hc⟩
  rw [turn_eq X]
  by_cases hh : cs.all (fun c => X.testBit c)
  · rw [if_pos hh, turn_eq, key, if_pos hh, flip_two]
  · rw [if_neg hh, turn_eq, if_neg hh]
/-- A gate with wires of its own. -/
def GW (W : Nat) (g : Gt) : Prop := ((g.1 = 1 ∧ g.2.length = 1) ∨ (g.1 = 9 ∧ g.2.length = 2) ∨ (g.1 = 12 ∧ g.2.length = 3)) ∧ g.2.Nodup ∧ ∀ w ∈ g.2, w < W
theorem GW.mono {W W' : Nat} {g : Gt} (h : GW W g) (hw : W ≤ W') : GW W' g := ⟨h.1, h.2.1, fun w hm => Nat.lt_of_lt_of_le (h.2.2 w hm) hw⟩
theorem GW.inv {W : Nat} {g : Gt} (h : GW W g) (X : Nat) : turnM (turnM X g.2) g.2 = X := by
  have h0 : g.2 ≠ [] := fun e => by have := h.1; rw [e] at this; simp at this
  have e := (List.dropLast_concat_getLast h0).symm
  have hn := h.2.1
  rw [e] at hn ⊢
  refine turn_inv (fun hm => ?_) X
  exact (List.nodup_append.1 hn).2.2 _ hm _ (by simp) rfl
theorem run_rev {W : Nat} : ∀ (G : List Gt), (∀ g ∈ G, GW W g) → ∀ X, runM G.reverse (runM G X) = X
  | [], _, X => rfl
  | g :: G, h, X => by
    rw [List.reverse_cons, runM_append, show runM (g :: G) X = runM G (turnM X g.2) from rfl, run_rev G (fun x hx => h x (by simp [hx]))]
    exact (h g (by simp)).inv X
theorem gw_turn {W t : Nat} {cs : List Nat} (h2 : cs.length ≤ 2) (hn : cs.Nodup) (ht : t ∉ cs) (hW : ∀ w ∈ cs, w < W) (htW : t < W) : GW W (turnG t cs) := by
  refine ⟨?_, ?_, fun w hw => ?_⟩
  · have : cs.length = 0 ∨ cs.length = 1 ∨ cs.length = 2 := by omega
    unfold turnG
    rcases this with h | h | h <;> simp [h, kindM]
  · show (cs ++ [t]).Nodup
    rw [List.nodup_append]
    exact ⟨hn, by simp, fun a ha b hb e => by rw [List.mem_singleton] at hb; subst hb; subst e; exact ht ha⟩
  · have hw' : w ∈ cs ++ [t] := hw
    rw [List.mem_append] at hw'
    rcases hw' with hw' | hw'
    · exact hW w hw'
    · rw [List.mem_singleton] at hw'; subst hw'; exact htW
theorem inG_gw {T : BX → Nat → Nat → List Gt} {U : BX → Nat → Nat} {V : Nat} : ∀ (l : List BX) (f : Nat), V ≤ f → (∀ a ∈ l, ∀ t, V ≤ t → ∀ g ∈ T a t (t + 1), GW (max (t + 1) (U a (t + 1))) g) → ∀ g ∈ inG T l f, GW (inU U l f) g
  | [], f, _, _ => fun g hg => by cases hg
  | a :: l, f, hf, h => by
    unfold inG inU
    by_cases hk : a.kind = 1
    · rw [if_pos hk, if_pos hk]
      exact inG_gw l f hf fun b hb => h b (by simp [hb])
    · rw [if_neg hk, if_neg hk]
      intro g hg
      rw [List.mem_append] at hg
      rcases hg with hg | hg
      · exact (h a (by simp) f hf g hg).mono (Nat.le_max_left _ _)
      · exact (inG_gw l (f + 1) (by omega) (fun b hb => h b (by simp [hb])) g hg).mono (Nat.le_max_right _ _)
theorem atM_range {U : BX → Nat → Nat} {V : Nat} : ∀ (l : List BX) (f : Nat), (∀ a ∈ l, a.kind = 1 → a.var.toNat < V) → ∀ w ∈ atM l f, w < V ∨ (f ≤ w ∧ w < inU U l f)
  | [], f, _ => fun w hw => by cases hw
  | a :: l, f, h => by
    unfold atM inU
    by_cases hk : a.kind = 1
    · rw [if_pos hk, if_pos hk]
      intro w hw
      rcases List.mem_cons.1 hw with rfl | hw
      · exact .inl (h a (by simp) hk)
      · exact atM_range l f (fun b hb => h b (by simp [hb])) w hw
    · rw [if_neg hk, if_neg hk]
      intro w hw
      rcases List.mem_cons.1 hw with rfl | hw
      · exact .inr ⟨Nat.le_refl _, by have := Nat.le_max_left (max (w + 1) (U a (w + 1))) (inU U l (w + 1)); have := Nat.le_max_left (w + 1) (U a (w + 1)); omega⟩
      · rcases atM_range (U := U) l (f + 1) (fun b hb => h b (by simp [hb])) w hw with h1 | h1
        · exact .inl h1
        · exact .inr ⟨by omega, by have := Nat.le_max_right (max (f + 1) (U a (f + 1))) (inU U l (f + 1)); omega⟩
theorem cmp_facts {l : List Nat} (h : l.length = 2) : (cmpM l).Nodup ∧ (∀ w ∈ cmpM l, w ∈ l) ∧ (cmpM l).length ≤ 2 ∧ ∀ P : Nat → Bool, (cmpM l).all P = l.all P := by
  obtain ⟨x, y, rfl⟩ := len2g h
  have e0 : cmpM [x, y] = if x = y then [x] else [x, y] := rfl
  rw [e0]
  by_cases e : x = y
  · subst e
    rw [if_pos rfl]
    exact ⟨by simp, by simp, by simp, fun P => by simp⟩
  · rw [if_neg e]
    exact ⟨by simp [e], fun w hw => hw, by simp, fun P => rfl⟩
theorem gBoth_gw {T : BX → Nat → Nat → List Gt} {U : BX → Nat → Nat} {V t : Nat} {l : List BX} (hl : l.length = 2) (ht : V ≤ t) (hv : ∀ a ∈ l, a.kind = 1 → a.var.toNat < V) (h : ∀ a ∈ l, ∀ t, V ≤ t → ∀ g ∈ T a t (t + 1), GW (max (t + 1) (U a (t + 1))) g) : ∀ g ∈ gBoth T l t (t + 1), GW (max (t + 1) (inU U l (t + 1))) g := by
  intro g hg
  unfold gBoth at hg
  rw [List.mem_append, List.mem_append, List.mem_reverse] at hg
  have hin : ∀ g ∈ inG T l (t + 1), GW (max (t + 1) (inU U l (t + 1))) g := fun g hg => (inG_gw l (t + 1) (by omega) h g hg).mono (Nat.le_max_right _ _)
  rcases hg with (hg | hg) | hg
  · exact hin g hg
  · rw [List.mem_singleton] at hg; subst hg
    obtain ⟨c1, c2, c3, _⟩ := cmp_facts (l := atM l (t + 1)) (by rw [atM_len]; exact hl)
    have hr := atM_range (U := U) l (t + 1) hv
    have h1 := Nat.le_max_left (t + 1) (inU U l (t + 1))
    have h2 := Nat.le_max_right (t + 1) (inU U l (t + 1))
    refine gw_turn c3 c1 (fun hm => ?_) (fun w hw => ?_) (by omega)
    · rcases hr t (c2 t hm) with h | h <;> omega
    · rcases hr w (c2 w hw) with h | h <;> omega
  · exact hin g hg
theorem gT_gw {V : Nat} : ∀ (D d : Nat) (e : BX), fmB (Int.ofNat V) d e = 0 → ∀ t, V ≤ t → ∀ g ∈ gT D e t (t + 1), GW (max (t + 1) (uT D e (t + 1))) g := by
  intro D
  induction D with
  | zero => intro d e _ t _ g hg; cases hg
  | succ D ih =>
    intro d e h t ht g hg
    obtain ⟨d, rfl⟩ : ∃ d', d = d' + 1 := by
      cases d with
      | zero => cases h
      | succ d => exact ⟨d, rfl⟩
    obtain ⟨kn, hk, hk1, hk7, hkl, hv, hv1, hfa⟩ := fm_right h
    have hkn : e.kind.toNat = kn := by rw [hk]; rfl
    have harg : ∀ a ∈ e.args, ∀ t, V ≤ t → ∀ g ∈ gT D a t (t + 1), GW (max (t + 1) (uT D a (t + 1))) g := fun a ha => ih d a (hfa a ha)
    have hnot : ∀ a ∈ e.args.map notX, ∀ t, V ≤ t → ∀ g ∈ gT D a t (t + 1), GW (max (t + 1) (uT D a (t + 1))) g := fun a ha => by
      obtain ⟨b, hb, rfl⟩ := List.mem_map.1 ha
      exact ih (d + 1) (notX b) (fm_not (hfa b hb))
    have hx : GW (t + 1) (turnG t []) := gw_turn (by simp) (by simp) (by simp) (by simp) (by omega)
    rw [gT, gK, hkn] at hg
    rw [uT, uK, hkn]
    have hcase : kn = 1 ∨ kn = 2 ∨ kn = 3 ∨ kn = 4 ∨ kn = 5 ∨ kn = 6 ∨ kn = 7 := by omega
    rcases hcase with rfl | rfl | rfl | rfl | rfl | rfl | rfl
    · simp only [show ¬ (1 = 7) by decide, if_false, if_true, List.mem_singleton] at hg ⊢
      subst hg
      obtain ⟨a1, a2⟩ := hv1 rfl
      have hvV : e.var.toNat < V := by have : e.var < (V : Int) := a2; omega
      exact gw_turn (by simp) (by simp) (by simp; omega) (fun w hw => by simp at hw; subst hw; have := Nat.le_max_left (t + 1) 0; omega) (by have := Nat.le_max_left (t + 1) 0; omega)
    · simp only [show ¬ (2 = 7) by decide, show ¬ (2 = 1) by decide, if_false, if_true, List.mem_append, List.mem_singleton] at hg ⊢
      rcases hg with hg | hg
      · exact harg _ (getD_memB (l := e.args) (i := 0) (by rw [hkl]; decide)) t ht g hg
      · subst hg; exact hx.mono (Nat.le_max_left _ _)
    · simp only [show ¬ (3 = 7) by decide, show ¬ (3 = 1) by decide, show ¬ (3 = 2) by decide, show ¬ (3 = 4) by decide, if_false, if_true] at hg ⊢
      refine gBoth_gw (by rw [hkl]; rfl) ht (fun a ha hk' => ?_) harg g hg
      obtain ⟨d', rfl⟩ : ∃ d', d = d' + 1 := by
        cases d with
        | zero => have := hfa a ha; cases this
        | succ d => exact ⟨d, rfl⟩
      obtain ⟨kn', hk2, _, _, _, _, hv2, _⟩ := fm_right (hfa a ha)
      obtain ⟨a1, a2⟩ := hv2 (by rw [hk'] at hk2; exact (Int.ofNat.inj hk2).symm)
      have : a.var < (V : Int) := a2
      omega
    · simp only [show ¬ (4 = 7) by decide, show ¬ (4 = 1) by decide, show ¬ (4 = 2) by decide, if_false, if_true, List.mem_append] at hg ⊢
      have h1 := Nat.le_max_left (uT D (e.args.getD 0 default) (t + 1)) (uT D (e.args.getD 1 default) (t + 1))
      have h2 := Nat.le_max_right (uT D (e.args.getD 0 default) (t + 1)) (uT D (e.args.getD 1 default) (t + 1))
      rcases hg with hg | hg
      · exact (harg _ (getD_memB (l := e.args) (i := 0) (by rw [hkl]; decide)) t ht g hg).mono (by omega)
      · exact (harg _ (getD_memB (l := e.args) (i := 1) (by rw [hkl]; decide)) t ht g hg).mono (by omega)
    · simp only [show ¬ (5 = 7) by decide, show ¬ (5 = 1) by decide, show ¬ (5 = 2) by decide, show ¬ (5 = 4) by decide, show ¬ (5 = 3) by decide, if_false, if_true, List.mem_append, List.mem_singleton] at hg ⊢
      rcases hg with hg | hg
      · refine gBoth_gw (by rw [List.length_map, hkl]; rfl) ht (fun a ha hk' => ?_) hnot g hg
        obtain ⟨b, hb, rfl⟩ := List.mem_map.1 ha
        simp [notX, BX.kind] at hk'
      · subst hg; exact hx.mono (Nat.le_max_left _ _)
    · simp at hg
    · simp only [if_true, List.mem_singleton] at hg ⊢
      subst hg; exact hx.mono (Nat.le_max_left _ _)
/-! ### What the gates do -/
def Sem (T : BX → Nat → Nat → List Gt) (V : Nat) (val : Nat → BX → Bool) (a : BX) : Prop := ∀ t X, V ≤ t → (∀ j, t + 1 ≤ j → X.testBit j = false) → runM (T a t (t + 1)) X = if val X a then X ^^^ 2 ^ t else X
def mkI (val : Nat → BX → Bool) : List BX → Nat → Nat → Nat
  | [], _, _ => 0
  | a :: l, f, X => if a.kind = 1 then mkI val l f X else (if val X a then 2 ^ f else 0) ^^^ mkI val l (f + 1) X
theorem pow_bit (b : Bool) {f j : Nat} (h : j ≠ f) : (if b then 2 ^ f else 0).testBit j = false := by
  cases b
  · simp
  · simp only [if_true]; exact Nat.testBit_two_pow_of_ne (fun e => h e.symm)
theorem pow_bit1 (b : Bool) (f : Nat) : (if b then 2 ^ f else 0).testBit f = b := by
  cases b
  · simp
  · simp
theorem mk_low (val : Nat → BX → Bool) : ∀ (l : List BX) (f X j : Nat), j < f → (mkI val l f X).testBit j = false
  | [], f, X, j, _ => by simp [mkI]
  | a :: l, f, X, j, h => by
    unfold mkI
    split
    · exact mk_low val l f X j h
    · rw [Nat.testBit_xor, pow_bit _ (by omega), mk_low val l (f + 1) X j (by omega)]; rfl
def Cong (V : Nat) (val : Nat → BX → Bool) (a : BX) : Prop := ∀ X Y, (∀ j, j < V → X.testBit j = Y.testBit j) → val X a = val Y a
theorem mk_cong {V : Nat} {val : Nat → BX → Bool} {X Y : Nat} (hXY : ∀ j, j < V → X.testBit j = Y.testBit j) : ∀ (l : List BX) (f : Nat), (∀ a ∈ l, Cong V val a) → mkI val l f X = mkI val l f Y
  | [], f, _ => rfl
  | a :: l, f, h => by
    unfold mkI
    rw [h a (by simp) X Y hXY, mk_cong hXY l f (fun b hb => h b (by simp [hb])), mk_cong hXY l (f + 1) (fun b hb => h b (by simp [hb]))]
theorem ite_xor (b : Bool) (X Y : Nat) : (if b then X ^^^ Y else X) = X ^^^ (if b then Y else 0) := by cases b <;> simp
theorem inG_run {T : BX → Nat → Nat → List Gt} {V : Nat} {val : Nat → BX → Bool} : ∀ (l : List BX) (f X : Nat), V ≤ f → (∀ a ∈ l, a.kind ≠ 1 → Sem T V val a) → (∀ a ∈ l, Cong V val a) → (∀ j, f ≤ j → X.testBit j = false) → runM (inG T l f) X = X ^^^ mkI val l f X
  | [], f, X, _, _, _, _ => by simp [inG, mkI, runM]
  | a :: l, f, X, hf, hT, hc, hX => by
    unfold inG mkI
    by_cases hk : a.kind = 1
    · rw [if_pos hk, if_pos hk]
      exact inG_run l f X hf (fun b hb => hT b (by simp [hb])) (fun b hb => hc b (by simp [hb])) hX
    · rw [if_neg hk, if_neg hk, runM_append, hT a (by simp) hk f X hf (fun j hj => hX j (by omega)), ite_xor]
      have hb : ∀ j, j ≠ f → (X ^^^ (if val X a then 2 ^ f else 0)).testBit j = X.testBit j := fun j hj => by
        rw [Nat.testBit_xor, pow_bit _ hj, Bool.xor_false]
      rw [inG_run l (f + 1) _ (by omega) (fun b hb => hT b (by simp [hb])) (fun b hb => hc b (by simp [hb])) (fun j hj => by rw [hb j (by omega)]; exact hX j (by omega)),
        mk_cong (V := V) (fun j hj => hb j (by omega)) l (f + 1) (fun b hb => hc b (by simp [hb])), Nat.xor_assoc]
theorem at_bit {V : Nat} {val : Nat → BX → Bool} {X : Nat} : ∀ (l : List BX) (f : Nat), V ≤ f → (∀ a ∈ l, a.kind = 1 → a.var.toNat < V ∧ val X a = X.testBit a.var.toNat) → (∀ j, f ≤ j → X.testBit j = false) →
    (atM l f).all (fun w => (X ^^^ mkI val l f X).testBit w) = l.all (fun a => val X a)
  | [], f, _, _, _ => rfl
  | a :: l, f, hf, hv, hX => by
    unfold atM mkI
    by_cases hk : a.kind = 1
    · rw [if_pos hk, if_pos hk]
      obtain ⟨h1, h2⟩ := hv a (by simp) hk
      rw [List.all_cons, List.all_cons, at_bit l f hf (fun b hb => hv b (by simp [hb])) hX, Nat.testBit_xor, mk_low val l f X _ (by omega), Bool.xor_false, h2]
    · rw [if_neg hk, if_neg hk]
      rw [List.all_cons, List.all_cons, ← at_bit l (f + 1) (by omega) (fun b hb => hv b (by simp [hb])) (fun j hj => hX j (by omega))]
      congr 1
      · rw [Nat.testBit_xor, Nat.testBit_xor, hX f (Nat.le_refl _), pow_bit1, mk_low val l (f + 1) X f (by omega)]; simp
      · rw [Bool.eq_iff_iff, List.all_eq_true, List.all_eq_true]
        have hr := atM_range (U := fun _ _ => 0) l (f + 1) (fun b hb hk' => (hv b (by simp [hb]) hk').1)
        have e : ∀ w ∈ atM l (f + 1), (X ^^^ ((if val X a then 2 ^ f else 0) ^^^ mkI val l (f + 1) X)).testBit w = (X ^^^ mkI val l (f + 1) X).testBit w := fun w hw => by
          have hwf : w ≠ f := by rcases hr w hw with h | h <;> omega
          rw [Nat.testBit_xor, Nat.testBit_xor, Nat.testBit_xor, pow_bit _ hwf, Bool.false_xor]
        exact ⟨fun h w hw => by rw [← e w hw]; exact h w hw, fun h w hw => by rw [e w hw]; exact h w hw⟩
theorem gBoth_run {T : BX → Nat → Nat → List Gt} {U : BX → Nat → Nat} {V t X : Nat} {val : Nat → BX → Bool} {l : List BX} (hl : l.length = 2) (ht : V ≤ t) (hT : ∀ a ∈ l, a.kind ≠ 1 → Sem T V val a) (hc : ∀ a ∈ l, Cong V val a)
    (hv : ∀ a ∈ l, a.kind = 1 → a.var.toNat < V ∧ val X a = X.testBit a.var.toNat) (hg : ∀ g ∈ inG T l (t + 1), GW (inU U l (t + 1)) g) (hX : ∀ j, t + 1 ≤ j → X.testBit j = false) :
    runM (gBoth T l t (t + 1)) X = if l.all (fun a => val X a) then X ^^^ 2 ^ t else X := by
  unfold gBoth
  rw [runM_append, runM_append, inG_run l (t + 1) X (by omega) hT hc hX]
  obtain ⟨_, _, _, c4⟩ := cmp_facts (l := atM l (t + 1)) (by rw [atM_len]; exact hl)
  have hgate : runM [turnG t (cmpM (atM l (t + 1)))] (X ^^^ mkI val l (t + 1) X) = if l.all (fun a => val X a) then X ^^^ mkI val l (t + 1) X ^^^ 2 ^ t else X ^^^ mkI val l (t + 1) X := by
    show turnM _ (cmpM (atM l (t + 1)) ++ [t]) = _
    rw [turn_eq, c4, at_bit l (t + 1) (by omega) hv hX]
  rw [hgate]
  have hback := run_rev (inG T l (t + 1)) hg
  by_cases hall : l.all (fun a => val X a)
  · rw [if_pos hall, if_pos hall]
    have h1 := hback (X ^^^ 2 ^ t)
    rw [inG_run l (t + 1) (X ^^^ 2 ^ t) (by omega) hT hc (fun j hj => by rw [flip_bit (by omega)]; exact hX j hj), mk_cong (V := V) (fun j hj => flip_bit (by omega)) l (t + 1) hc] at h1
    rw [Nat.xor_assoc, Nat.xor_comm (mkI val l (t + 1) X), ← Nat.xor_assoc]
    exact h1
  · rw [if_neg hall, if_neg hall]
    have h1 := hback X
    rw [inG_run l (t + 1) X (by omega) hT hc hX] at h1
    exact h1
theorem val_cong {V d : Nat} {e : BX} (h : fmB (Int.ofNat V) d e = 0) : Cong V (fun X a => valB X d a) e := fun X Y hXY => val_congr (vars := Int.ofNat V) (fun j hj => hXY j (by have : (j : Int) < (V : Int) := hj; omega)) d e h
/-- A compiled expression turns its wire just if it is true, and leaves all else. -/
theorem gT_sem {V : Nat} : ∀ (D d : Nat) (e : BX), fmB (Int.ofNat V) d e = 0 → nfB d e ≤ D → Sem (gT D) V (fun X a => valB X d a) e := by
  intro D
  induction D with
  | zero =>
    intro d e h hn
    exfalso
    have := nf_pos (vars := Int.ofNat V) (d := d) (e := e) (by cases d with | zero => cases h | succ d => omega)
    omega
  | succ D ih =>
    intro d e h hn t X ht hX
    obtain ⟨d, rfl⟩ : ∃ d', d = d' + 1 := by
      cases d with
      | zero => cases h
      | succ d => exact ⟨d, rfl⟩
    obtain ⟨kn, hk, hk1, hk7, hkl, hv, hv1, hfa⟩ := fm_right h
    have hkn : e.kind.toNat = kn := by rw [hk]; rfl
    have harg : ∀ a ∈ e.args, Sem (gT D) V (fun X a => valB X d a) a := fun a ha => ih d a (hfa a ha) (by have := nf_arg (d := d) ha; omega)
    have hturn : ∀ Y, runM [turnG t []] Y = Y ^^^ 2 ^ t := fun Y => by
      show turnM Y ([] ++ [t]) = _
      rw [turn_eq]; rfl
    show runM (gT (D + 1) e t (t + 1)) X = if valB X (d + 1) e then _ else _
    rw [gT, gK, valB, valK, hkn]
    have hcase : kn = 1 ∨ kn = 2 ∨ kn = 3 ∨ kn = 4 ∨ kn = 5 ∨ kn = 6 ∨ kn = 7 := by omega
    rcases hcase with rfl | rfl | rfl | rfl | rfl | rfl | rfl
    · simp only [show ¬ (1 = 7) by decide, if_false, if_true]
      show turnM X ([e.var.toNat] ++ [t]) = _
      rw [turn_eq]; simp
    · obtain ⟨a, ha⟩ : ∃ a, e.args = [a] := one_arg hkl
      simp only [show ¬ (2 = 7) by decide, show ¬ (2 = 1) by decide, if_false, if_true, ha, List.getD_cons_zero, List.map_cons, List.map_nil]
      rw [runM_append, harg a (by rw [ha]; simp) t X ht hX, hturn]
      by_cases h2 : valB X d a = true <;> simp [h2, flip_two]
    · simp only [show ¬ (3 = 7) by decide, show ¬ (3 = 1) by decide, show ¬ (3 = 2) by decide, show ¬ (3 = 4) by decide, if_false, if_true]
      have hgw := inG_gw (T := gT D) (U := uT D) (V := V) e.args (t + 1) (by omega) (fun a ha => gT_gw D d a (hfa a ha))
      rw [gBoth_run (val := fun X a => valB X d a) (by rw [hkl]; rfl) ht (fun a ha _ => harg a ha) (fun a ha => val_cong (hfa a ha)) (fun a ha hk' => ?_) hgw hX]
      · obtain ⟨a, b, hab⟩ : ∃ a b, e.args = [a, b] := two_args hkl
        rw [hab]; simp
      · obtain ⟨d', rfl⟩ : ∃ d', d = d' + 1 := by
          cases d with
          | zero => have := hfa a ha; cases this
          | succ d => exact ⟨d, rfl⟩
        obtain ⟨kn', hk2, _, _, _, _, hv2, _⟩ := fm_right (hfa a ha)
        obtain ⟨a1, a2⟩ := hv2 (by rw [hk'] at hk2; exact (Int.ofNat.inj hk2).symm)
        have : a.var < (V : Int) := a2
        refine ⟨by omega, ?_⟩
        show valB X (d' + 1) a = _
        rw [valB, valK, hk']; rfl
    · obtain ⟨a, b, hab⟩ : ∃ a b, e.args = [a, b] := two_args hkl
      simp only [show ¬ (4 = 7) by decide, show ¬ (4 = 1) by decide, show ¬ (4 = 2) by decide, show ¬ (4 = 3) by decide, if_false, if_true, hab, List.getD_cons_zero, List.getD_cons_succ, List.map_cons, List.map_nil]
      rw [runM_append, harg a (by rw [hab]; simp) t X ht hX]
      have hY : ∀ j, j ≠ t → (if valB X d a then X ^^^ 2 ^ t else X).testBit j = X.testBit j := fun j hj => by
        cases valB X d a
        · rfl
        · exact flip_bit hj
      rw [harg b (by rw [hab]; simp) t _ ht (fun j hj => by rw [hY j (by omega)]; exact hX j hj)]
      have hvb : valB (if valB X d a then X ^^^ 2 ^ t else X) d b = valB X d b := val_cong (hfa b (by rw [hab]; simp)) _ _ (fun j hj => hY j (by omega))
      simp only [hvb]
      by_cases h2 : valB X d a = true <;> by_cases h3 : valB X d b = true <;> simp [h2, h3, flip_two]
    · obtain ⟨a, b, hab⟩ : ∃ a b, e.args = [a, b] := two_args hkl
      simp only [show ¬ (5 = 7) by decide, show ¬ (5 = 1) by decide, show ¬ (5 = 2) by decide, show ¬ (5 = 4) by decide, show ¬ (5 = 3) by decide, if_false, if_true]
      have hk5 : e.kind = 5 := hk
      have hfn : ∀ x ∈ e.args.map notX, fmB (Int.ofNat V) (d + 1) x = 0 := fun x hx => by
        obtain ⟨y, hy, rfl⟩ := List.mem_map.1 hx
        exact fm_not (hfa y hy)
      have hgw := inG_gw (T := gT D) (U := uT D) (V := V) (e.args.map notX) (t + 1) (by omega) (fun x hx => gT_gw D (d + 1) x (hfn x hx))
      rw [runM_append, gBoth_run (val := fun X a => valB X (d + 1) a) (by rw [List.length_map, hkl]; rfl) ht (fun x hx _ => ?_) (fun x hx => val_cong (hfn x hx)) (fun x hx hk' => ?_) hgw hX, hturn]
      · have hnv : ∀ y, valB X (d + 1) (notX y) = !valB X d y := fun y => by
          rw [valB]; rfl
        rw [hab]
        simp only [List.map_cons, List.map_nil, List.all_cons, List.all_nil, hnv, List.getD_cons_zero, List.getD_cons_succ]
        by_cases h2 : valB X d a = true <;> by_cases h3 : valB X d b = true <;> simp [h2, h3, flip_two]
      · obtain ⟨y, hy, rfl⟩ := List.mem_map.1 hx
        exact ih (d + 1) (notX y) (hfn _ hx) (by rw [nf_not]; have := nf_arg5 (d := d) hy hk5; omega)
      · obtain ⟨y, hy, rfl⟩ := List.mem_map.1 hx
        simp [notX, BX.kind] at hk'
    · simp [runM]
    · simp only [if_true]
      rw [hturn]; simp
end Go.AM

/-! ### R46 -/
namespace Go.AM
open Go.Proofs
set_option maxRecDepth 100000
set_option linter.unusedVariables false
set_option linter.unusedSimpArgs false
def H61 : Nat → List (Nat × Nat) := fun id => if id = 9 then [(7, 0), (9, 0)] else []
theorem okf61 : okF Tryd.prog H61 61 74 = true := by kernel_rfl
theorem spec_true1 (vars : Int) (x : Nat) (hx : x < 9223372036854775808) (d : Nat) : ∀ {m : Mem} {P : Nat → Prop} {v : Value} {e : BX}, BAt P m d v e → fmB vars d e = 0 → ∃ v' m', ACalls Tryd.prog 61 #[v, nv x] m v' m' ∧ (v' = .bool (valB x d e) ∧ Ext m m') := by
  induction d
  · intro m P v e h; exact h.elim
  rename_i d ih
  intro m P v e h hf
  obtain ⟨kn, hk, hk1, hk7, hkl, hv0, hv1, hfa⟩ := fm_right hf
  obtain ⟨d', q, cap, hd, rfl⟩ := h.agg
  cases hd
  have hval : valB x (d + 1) e = valK kn x e.var.toNat (e.args.map (valB x d)) := by rw [valB, hk]; rfl
  rw [hval]
  rw [hk] at h ⊢
  refine wpF (args := [_, _]) mixed okf61 (fn := Tryd.f61) rfl rfl rfl (by simp) ?_
  refine cSeq ?_
  refine cRegion ?_
  refine sBox (v := .agg _) rfl ?_
  change wpOps _ _ _ _ _ (m.push (.cells true #[nv kn, .int .i64 e.var, .slice q e.args.length cap]))
  have ex1 : Ext m (m.push (.cells true #[nv kn, .int .i64 e.var, .slice q e.args.length cap])) := .push _ _
  have gx1 : Mem.get (m.push (.cells true #[nv kn, .int .i64 e.var, .slice q e.args.length cap])) m.size = .cells true #[nv kn, .int .i64 e.var, .slice q e.args.length cap] := gP rfl
  generalize m.push (.cells true #[nv kn, .int .i64 e.var, .slice q e.args.length cap]) = m1 at *
  refine sAs (v := .bool _) rfl ?_
  refine sNil (kSeqN ?_)
  refine cSeq ?_
  refine cSeq ?_
  refine cRegion ?_
  refine sFA F66_0 rfl ?_
  refine sLd (v := nv kn) A3 rfl gx1 rfl ?_
  refine sNil (kSeqN ?_)
  refine cBlock ?_
  refine cSeq ?_
  refine cRegion ?_
  refine sBin (a := kn) (b := 1) rfl rfl aInt_eql ?_
  refine sAs (v := .bool _) rfl ?_
  refine sNil (kSeqN ?_)
  refine cCond (p := kn = 1) rfl (fun c0 => ?_) (fun c0 => ?_)
  ·
    obtain ⟨w1, w2⟩ := hv1 c0
    obtain ⟨vn, hvn⟩ : ∃ vn : Nat, e.var = Int.ofNat vn := ⟨e.var.toNat, by simp; omega⟩
    rw [hvn] at gx1
    refine cSeq ?_
    refine cRegion ?_
    refine sMv (v := nv _) rfl ?_
    refine sFA F66_1 rfl ?_
    refine sLd (v := nv vn) A3 rfl gx1 rfl ?_
    refine sBin (a := x) (b := vn) rfl rfl (aInt_shr (by omega)) ?_
    have hsh := Nat.shiftRight_le x vn
    refine sBin (b := 1) rfl rfl (aInt_and (by omega)) ?_
    refine sBin (b := 1) rfl rfl (by rw [aInt_eql, bit_oneD]) ?_
    refine sAs (v := .bool _) rfl ?_
    refine sNil (kSeqN ?_)
    refine cRet (kBlkR (kSeqR ?_))
    exact ⟨.inr rfl, _, rfl, by rw [hvn, valK, if_pos c0]; rfl, ex1⟩
  ·
    refine cSeq ?_
    refine cRegion ?_
    refine sBin (a := kn) (b := 2) rfl rfl aInt_eql ?_
    refine sAs (v := .bool _) rfl ?_
    refine sNil (kSeqN ?_)
    refine cCond (p := kn = 2) rfl (fun c1 => ?_) (fun c1 => ?_)
    ·
      obtain ⟨a0, ha⟩ : ∃ a, e.args = [a] := one_arg (by rw [hkl, c1]; rfl)
      obtain ⟨b, o, r, c, rfl, _, hPb, hgb, hsz, hat⟩ := (h.ext ex1).arg (a := a0) (i := 0) (by rw [ha]; rfl)
      refine cSeq ?_
      refine cRegion ?_
      refine sFA F66_2 rfl ?_
      refine sLd (v := .slice (some ⟨b, o, some 3⟩) e.args.length cap) A64 rfl gx1 rfl ?_
      refine sIx T64 S66 rfl rfl (show 0 < e.args.length by rw [ha]; simp) ?_
      refine sLdA A66 S66 rfl hgb hsz ?_
      refine sMv (v := nv _) rfl ?_
      obtain ⟨v22, m22, h22, rfl, e22⟩ := ih hat (hfa a0 (by rw [ha]; simp))
      refine sCall2 rfl call61 rfl rfl h22 ?_
      refine sP (v := .bool (!valB x d a0)) rfl ?_
      refine sAs (v := .bool _) rfl ?_
      refine sNil (kSeqN ?_)
      refine cRet (kBlkR (kSeqR ?_))
      exact ⟨.inr rfl, _, rfl, by rw [valK, if_neg c0, if_pos c1, ha]; rfl, ex1.trans e22⟩
    ·
      refine cSeq ?_
      refine cRegion ?_
      refine sBin (a := kn) (b := 3) rfl rfl aInt_eql ?_
      refine sAs (v := .bool _) rfl ?_
      refine sNil (kSeqN ?_)
      refine cCond (p := kn = 3) rfl (fun c2 => ?_) (fun c2 => ?_)
      ·
        obtain ⟨a0, a1, ha⟩ : ∃ a b, e.args = [a, b] := two_args (by rw [hkl, c2]; rfl)
        obtain ⟨b, o, r, c, rfl, _, hPb, hgb, hsz, hat⟩ := (h.ext ex1).arg (a := a0) (i := 0) (by rw [ha]; rfl)
        obtain ⟨b', o', r', c', hq, _, hPb', hgb', hsz1, hat1⟩ := (h.ext ex1).arg (a := a1) (i := 1) (by rw [ha]; rfl)
        cases hq
        refine cSeq ?_
        refine cRegion ?_
        refine sFA F66_2 rfl ?_
        refine sLd (v := .slice (some ⟨b, o, some 3⟩) e.args.length cap) A64 rfl gx1 rfl ?_
        refine sIx T64 S66 rfl rfl (show 0 < e.args.length by rw [ha]; simp) ?_
        refine sLdA A66 S66 rfl hgb hsz ?_
        refine sMv (v := nv _) rfl ?_
        obtain ⟨v31, m31, h31, rfl, e31⟩ := ih hat (hfa a0 (by rw [ha]; simp))
        refine sCall2 rfl call61 rfl rfl h31 ?_
        refine sMv (v := .bool (valB x d a0)) rfl ?_
        by_cases hb0 : valB x d a0 = true
        ·
          rw [hb0]
          refine sG rfl rfl ?_
          refine sFA F66_2 rfl ?_
          refine sG rfl rfl ?_
          refine sLd (v := .slice (some ⟨b, o, some 3⟩) e.args.length cap) A64 rfl (e31.cells gx1) rfl ?_
          refine sG rfl rfl ?_
          refine sIx T64 S66 rfl rfl (show 1 < e.args.length by rw [ha]; simp) ?_
          refine sG rfl rfl ?_
          refine sLdA A66 S66 rfl (e31.cells hgb') hsz1 ?_
          refine sG rfl rfl ?_
          refine sMv (v := nv _) rfl ?_
          refine sG rfl rfl ?_
          obtain ⟨v38, m38, h38, rfl, e38⟩ := ih (hat1.ext e31) (hfa a1 (by rw [ha]; simp))
          refine sCall2 rfl call61 rfl rfl h38 ?_
          refine sP (v := .bool _) rfl ?_
          refine sAs (v := .bool _) rfl ?_
          refine sNil (kSeqN ?_)
          refine cRet (kBlkR (kSeqR ?_))
          exact ⟨.inr rfl, _, rfl, by rw [valK, if_neg c0, if_neg c1, if_pos c2, ha]; show _ = Value.bool (valB x d a0 && valB x d a1); rw [hb0]; rfl, (ex1.trans e31).trans e38⟩
        ·
          have hb0' : valB x d a0 = false := by simpa using hb0
          rw [hb0']
          refine sGno (q' := false) rfl rfl (by simp) ?_
          refine sGno (q' := false) rfl rfl (by simp) ?_
          refine sGno (q' := false) rfl rfl (by simp) ?_
          refine sGno (q' := false) rfl rfl (by simp) ?_
          refine sGno (q' := false) rfl rfl (by simp) ?_
          refine sGno (q' := false) rfl rfl (by simp) ?_
          refine sP (v := .bool _) rfl ?_
          refine sAs (v := .bool _) rfl ?_
          refine sNil (kSeqN ?_)
          refine cRet (kBlkR (kSeqR ?_))
          exact ⟨.inr rfl, _, rfl, by rw [valK, if_neg c0, if_neg c1, if_pos c2, ha]; show _ = Value.bool (valB x d a0 && valB x d a1); rw [hb0']; rfl, ex1.trans e31⟩
      ·
        refine cSeq ?_
        refine cRegion ?_
        refine sBin (a := kn) (b := 4) rfl rfl aInt_eql ?_
        refine sAs (v := .bool _) rfl ?_
        refine sNil (kSeqN ?_)
        refine cCond (p := kn = 4) rfl (fun c3 => ?_) (fun c3 => ?_)
        ·
          obtain ⟨a0, a1, ha⟩ : ∃ a b, e.args = [a, b] := two_args (by rw [hkl, c3]; rfl)
          obtain ⟨b, o, r, c, rfl, _, hPb, hgb, hsz, hat⟩ := (h.ext ex1).arg (a := a0) (i := 0) (by rw [ha]; rfl)
          obtain ⟨b', o', r', c', hq, _, hPb', hgb', hsz1, hat1⟩ := (h.ext ex1).arg (a := a1) (i := 1) (by rw [ha]; rfl)
          cases hq
          refine cSeq ?_
          refine cDrawH (hs := [(7, 0), (9, 0)]) rfl (by decide) ?_
          refine lStepO (sFA F66_2 rfl (sNil fun e0 hm0 => ?_))
          refine lStepLd (v := .slice (some ⟨b, o, some 3⟩) e.args.length cap) A64 rfl gx1 rfl fun e1 hm1 hv1 hr1 => ?_
          refine lStepO (sIx T64 S66 rfl rfl (show 0 < e.args.length by rw [ha]; simp) (sNil fun e2 hm2 => ?_))
          refine lStepLdP A66 S66 rfl hgb hsz fun e3 hm3 hv3 hr3 => ?_
          refine lStepO (sMv (v := nv _) rfl (sNil fun e4 hm4 => ?_))
          obtain ⟨v47, m47, h47, rfl, y47⟩ := ih hat (hfa a0 (by rw [ha]; simp))
          refine lStepO (sCall2 rfl call61 rfl rfl h47 (sNil fun e5 hm5 => ?_))
          refine lStepO (sFA F66_2 rfl (sNil fun e6 hm6 => ?_))
          refine lStepLd (v := .slice (some ⟨b, o, some 3⟩) e.args.length cap) A64 rfl (y47.cells gx1) rfl fun e7 hm7 hv7 hr7 => ?_
          refine lStepO (sIx T64 S66 rfl rfl (show 1 < e.args.length by rw [ha]; simp) (sNil fun e8 hm8 => ?_))
          refine lStepLdP A66 S66 rfl (y47.cells hgb') hsz1 fun e9 hm9 hv9 hr9 => ?_
          refine lStepO (sMv (v := nv _) rfl (sNil fun e10 hm10 => ?_))
          obtain ⟨v53, m53, h53, rfl, y53⟩ := ih (hat1.ext y47) (hfa a1 (by rw [ha]; simp))
          refine lStepO (sCall2 rfl call61 rfl rfl h53 (sNil fun e11 hm11 => ?_))
          refine lStepO (sNeB rfl rfl (sNil fun e12 hm12 => ?_))
          refine lStepO (sAs (v := .bool _) rfl (sNil fun e13 hm13 => ?_))
          refine ⟨?_, (kSeqN ?_)⟩
          ·
            refine obl_atE (e := e7) (e' := e0) (by simp) (by rfl) (by simp) ((hr7 e0.m _ _ (by rw [hm0]; exact gx1) (by rfl)).trans (congrArg some hv7.symm)) ?_
            refine obl_atE (e := e9) (e' := e0) (by simp) (by rfl) (by simp) ((hr9 e0.m _ (by rw [hm0]; exact hgb')).trans (congrArg some hv9.symm)) ?_
            trivial
          refine cRet (kBlkR (kSeqR ?_))
          exact ⟨.inr rfl, _, rfl, by rw [valK, if_neg c0, if_neg c1, if_neg c2, if_pos c3, ha]; rfl, (ex1.trans y47).trans y53⟩
        ·
          refine cSeq ?_
          refine cRegion ?_
          refine sBin (a := kn) (b := 5) rfl rfl aInt_eql ?_
          refine sAs (v := .bool _) rfl ?_
          refine sNil (kSeqN ?_)
          refine cCond (p := kn = 5) rfl (fun c4 => ?_) (fun c4 => ?_)
          ·
            obtain ⟨a0, a1, ha⟩ : ∃ a b, e.args = [a, b] := two_args (by rw [hkl, c4]; rfl)
            obtain ⟨b, o, r, c, rfl, _, hPb, hgb, hsz, hat⟩ := (h.ext ex1).arg (a := a0) (i := 0) (by rw [ha]; rfl)
            obtain ⟨b', o', r', c', hq, _, hPb', hgb', hsz1, hat1⟩ := (h.ext ex1).arg (a := a1) (i := 1) (by rw [ha]; rfl)
            cases hq
            refine cSeq ?_
            refine cRegion ?_
            refine sFA F66_2 rfl ?_
            refine sLd (v := .slice (some ⟨b, o, some 3⟩) e.args.length cap) A64 rfl gx1 rfl ?_
            refine sIx T64 S66 rfl rfl (show 0 < e.args.length by rw [ha]; simp) ?_
            refine sLdA A66 S66 rfl hgb hsz ?_
            refine sMv (v := nv _) rfl ?_
            obtain ⟨v31, m31, h31, rfl, e31⟩ := ih hat (hfa a0 (by rw [ha]; simp))
            refine sCall2 rfl call61 rfl rfl h31 ?_
            refine sMv (v := .bool (valB x d a0)) rfl ?_
            by_cases hb0 : valB x d a0 = true
            ·
              have hb0' := hb0
              rw [hb0']
              refine sGno (q' := true) rfl rfl (by simp) ?_
              refine sGno (q' := true) rfl rfl (by simp) ?_
              refine sGno (q' := true) rfl rfl (by simp) ?_
              refine sGno (q' := true) rfl rfl (by simp) ?_
              refine sGno (q' := true) rfl rfl (by simp) ?_
              refine sGno (q' := true) rfl rfl (by simp) ?_
              refine sP (v := .bool _) rfl ?_
              refine sAs (v := .bool _) rfl ?_
              refine sNil (kSeqN ?_)
              refine cRet (kBlkR (kSeqR ?_))
              exact ⟨.inr rfl, _, rfl, by rw [valK, if_neg c0, if_neg c1, if_neg c2, if_neg c3, if_pos c4, ha]; show _ = Value.bool (valB x d a0 || valB x d a1); rw [hb0']; rfl, ex1.trans e31⟩
            ·
              have hb0' : valB x d a0 = false := by simpa using hb0
              rw [hb0']
              refine sG rfl rfl ?_
              refine sFA F66_2 rfl ?_
              refine sG rfl rfl ?_
              refine sLd (v := .slice (some ⟨b, o, some 3⟩) e.args.length cap) A64 rfl (e31.cells gx1) rfl ?_
              refine sG rfl rfl ?_
              refine sIx T64 S66 rfl rfl (show 1 < e.args.length by rw [ha]; simp) ?_
              refine sG rfl rfl ?_
              refine sLdA A66 S66 rfl (e31.cells hgb') hsz1 ?_
              refine sG rfl rfl ?_
              refine sMv (v := nv _) rfl ?_
              refine sG rfl rfl ?_
              obtain ⟨v38, m38, h38, rfl, e38⟩ := ih (hat1.ext e31) (hfa a1 (by rw [ha]; simp))
              refine sCall2 rfl call61 rfl rfl h38 ?_
              refine sP (v := .bool _) rfl ?_
              refine sAs (v := .bool _) rfl ?_
              refine sNil (kSeqN ?_)
              refine cRet (kBlkR (kSeqR ?_))
              exact ⟨.inr rfl, _, rfl, by rw [valK, if_neg c0, if_neg c1, if_neg c2, if_neg c3, if_pos c4, ha]; show _ = Value.bool (valB x d a0 || valB x d a1); rw [hb0']; rfl, (ex1.trans e31).trans e38⟩
          ·
            refine cSkip (kBlkN (kSeqN ?_))
            refine cSeq ?_
            refine cRegion ?_
            refine sFA F66_0 rfl ?_
            refine sLd (v := nv kn) A3 rfl gx1 rfl ?_
            refine sBin (a := kn) (b := 7) rfl rfl aInt_eql ?_
            refine sAs (v := .bool _) rfl ?_
            refine sNil (kSeqN ?_)
            refine cRet ?_
            exact ⟨.inr rfl, _, rfl, by rw [valK, if_neg c0, if_neg c1, if_neg c2, if_neg c3, if_neg c4]; rfl, ex1⟩
end Go.AM

/-! ### R47 -/
namespace Go.AM
open Go.Proofs
set_option maxRecDepth 100000
set_option linter.unusedVariables false
set_option linter.unusedSimpArgs false
theorem B137k : aBuild Tryd.prog 137 [(0, nv 6), (1, nv 7)] = some (.agg #[nv 6, nv 7]) := by kernel_rfl
theorem idx137_0 : aIndex Tryd.prog 137 (.agg #[nv 6, nv 7]) (nv 0) = some (nv 6) := by kernel_rfl
theorem idx137_1 : aIndex Tryd.prog 137 (.agg #[nv 6, nv 7]) (nv 1) = some (nv 7) := by kernel_rfl
theorem idx137 {x : Nat} (h : x < 2) : aIndex Tryd.prog 137 (.agg #[nv 6, nv 7]) (nv x) = some (nv (6 + x)) := by
  have : x = 0 ∨ x = 1 := by omega
  rcases this with rfl | rfl
  · exact idx137_0
  · exact idx137_1
theorem B139m : aBuild Tryd.prog 139 [(0, nv 3), (1, nv 4), (2, nv 5)] = some (.agg #[nv 3, nv 4, nv 5]) := by kernel_rfl
theorem idx139_0 : aIndex Tryd.prog 139 (.agg #[nv 3, nv 4, nv 5]) (nv 0) = some (nv 3) := by kernel_rfl
theorem idx139_1 : aIndex Tryd.prog 139 (.agg #[nv 3, nv 4, nv 5]) (nv 1) = some (nv 4) := by kernel_rfl
theorem idx139_2 : aIndex Tryd.prog 139 (.agg #[nv 3, nv 4, nv 5]) (nv 2) = some (nv 5) := by kernel_rfl
theorem idx139 {x : Nat} (h : x < 3) : aIndex Tryd.prog 139 (.agg #[nv 3, nv 4, nv 5]) (nv x) = some (nv (3 + x)) := by
  have : x = 0 ∨ x = 1 ∨ x = 2 := by omega
  rcases this with rfl | rfl | rfl
  · exact idx139_0
  · exact idx139_1
  · exact idx139_2
theorem fm_const {vars : Int} {x d : Nat} (h : x < 2) : fmB vars (d + 1) (.mk (Int.ofNat (6 + x)) 0 []) = 0 := by
  have : x = 0 ∨ x = 1 := by omega
  rcases this with rfl | rfl <;> rfl
theorem fm_var {V x d : Nat} (h : x < V) : fmB (Int.ofNat V) (d + 1) (.mk 1 (Int.ofNat x) []) = 0 := by
  rw [fmB, if_neg (by simp [BX.kind]), if_neg (by simp [BX.kind, BX.args, wantsN]), if_neg]
  · rfl
  · rintro ⟨_, h1 | h1⟩
    · have h1' : (x : Int) < 0 := h1; omega
    · have h1' : (V : Int) ≤ (x : Int) := h1; omega
theorem fm_two {vars : Int} {x d : Nat} {a b : BX} (hx : x < 3) (ha : fmB vars d a = 0) (hb : fmB vars d b = 0) : fmB vars (d + 1) (.mk (Int.ofNat (3 + x)) 0 [a, b]) = 0 := by
  have hk : (BX.mk (Int.ofNat (3 + x)) 0 [a, b]).kind = ((3 + x : Nat) : Int) := rfl
  rw [fmB, if_neg (by rw [hk]; omega), if_neg, if_neg (by rw [hk]; omega)]
  · show firstE [fmB vars d a, fmB vars d b] = 0
    rw [ha, hb]; rfl
  · rintro (h | h)
    · apply h
      have : x = 0 ∨ x = 1 ∨ x = 2 := by omega
      rcases this with rfl | rfl | rfl <;> rfl
    · exact h.2 rfl
theorem BAt.lift {P : Nat → Prop} {m : Mem} {d : Nat} {v : Value} {e : BX} (h : BAt P m d v e) : ∀ k, BAt P m (d + k) v e
  | 0 => h
  | k + 1 => (h.lift k).up
def H59 : Nat → List (Nat × Nat) := fun id => if id = 9 then [(4, 0), (4, 12)] else []
theorem okf59 : okF Tryd.prog H59 59 63 = true := by kernel_rfl
theorem spec_Meant {V : Nat} (hV1 : 1 ≤ V) (hV8 : V ≤ 8) (s : Nat) : ∀ {m : Mem} {N0 N b k : Nat}, StoreAt N0 N m b k → N0 ≤ b → k + 8 * s + 4 ≤ 100000 → ∃ v m', ACalls Tryd.prog 59 #[.pointer (some ⟨b, 0, none⟩), nv s, nv V] m v m' ∧ (∃ e, BAt (fun c => m.size ≤ c ∧ c < m'.size) m' (s + 1) v e ∧ fmB (Int.ofNat V) (s + 1) e = 0 ∧ szB (s + 1) e ≤ max s 1 ∧ (∃ k', k' ≤ k + 8 * s + 4 ∧ StoreAt N0 N m' b k') ∧ LowX m.size b m m') := by
  induction s using Nat.strongRecOn with
  | ind s ih =>
  intro m N0 N b k hS hN0 hk
  have hbm : b < m.size := by obtain ⟨h1, h2, h3, _⟩ := hS; omega
  have hNm : N ≤ m.size := hS.2.2.1
  refine wpF (args := [_, _, _]) mixed okf59 (fn := Tryd.f59) rfl rfl rfl (by simp) ?_
  refine cSeq ?_
  refine cRegion ?_
  refine sAlloc Z66 (by kernel_rfl) ?_
  change wpOps _ _ _ _ _ (m.push (.cells true #[nv 0, nv 0, .slice none 0 0]))
  have ex1 : Ext m (m.push (.cells true #[nv 0, nv 0, .slice none 0 0])) := .push _ _
  have g1 : Mem.get (m.push (.cells true #[nv 0, nv 0, .slice none 0 0])) m.size = .cells true #[nv 0, nv 0, .slice none 0 0] := gP rfl
  have z1 : (m.push (.cells true #[nv 0, nv 0, .slice none 0 0])).size = m.size + 1 := by simp
  have hS1 : StoreAt N0 N (m.push (.cells true #[nv 0, nv 0, .slice none 0 0])) b k := hS.keep hN0 (by simp) fun c _ h => ex1.2 c (by omega)
  have x1 : LowX m.size b m (m.push (.cells true #[nv 0, nv 0, .slice none 0 0])) := ⟨by simp, fun c hc _ => ex1.2 c hc⟩
  generalize m.push (.cells true #[nv 0, nv 0, .slice none 0 0]) = m1 at *
  have hdone : ∀ {M : Mem} {kk x : Nat} {q : Option Addr} {n cap k' : Nat} {e : BX}, LowX m.size b m M → Mem.get M m.size = .cells true #[nv 0, nv 0, .slice none 0 0] → StoreAt N0 N M b k' → k' ≤ k + 8 * s + 4 → BAt (fun c => m.size < c ∧ c < M.size) M (s + 1) (.agg #[nv kk, nv x, .slice q n cap]) e → fmB (Int.ofNat V) (s + 1) e = 0 → szB (s + 1) e ≤ max s 1 →
      ∃ e, BAt (fun c => m.size ≤ c ∧ c < (M.setIfInBounds m.size (.cells true #[nv kk, nv x, .slice q n cap])).size) (M.setIfInBounds m.size (.cells true #[nv kk, nv x, .slice q n cap])) (s + 1) (.agg #[nv kk, nv x, .slice q n cap]) e ∧ fmB (Int.ofNat V) (s + 1) e = 0 ∧ szB (s + 1) e ≤ max s 1 ∧ (∃ k', k' ≤ k + 8 * s + 4 ∧ StoreAt N0 N (M.setIfInBounds m.size (.cells true #[nv kk, nv x, .slice q n cap])) b k') ∧ LowX m.size b m (M.setIfInBounds m.size (.cells true #[nv kk, nv x, .slice q n cap])) := by
    intro M kk x q n cap k' e hx hg hst hk' hB hf hz
    refine ⟨e, hB.frame fun c hc _ => ⟨⟨by omega, by simpa using hc.2⟩, gSn (by omega)⟩, hf, hz, ⟨k', hk', hst.keep hN0 (by simp) fun c _ h => gSn (by omega)⟩, by simpa using hx.1, fun c h1 h2 => ?_⟩
    rw [gSn (by omega)]; exact hx.2 c h1 h2
  refine sNil (kSeqN ?_)
  refine cSeq ?_
  refine cBlock ?_
  refine cSeq ?_
  refine cRegion ?_
  refine sMv (v := nv _) rfl ?_
  refine sBin (a := s) (b := 2) rfl rfl aInt_lss ?_
  refine sMv (v := .bool _) rfl ?_
  by_cases h2 : s < 2
  ·
    rw [decide_eq_true h2]
    obtain ⟨mA, rfl⟩ : ∃ x, x = m1 := ⟨_, rfl⟩
    obtain ⟨kA, hkA, hSA⟩ : ∃ kA, kA ≤ k + 1 ∧ StoreAt N0 N mA b kA := ⟨k, by omega, hS1⟩
    have gA := g1
    have xA := x1
    have zA : m.size + 1 ≤ mA.size := by omega
    refine sGno (q' := true) rfl rfl (by simp) ?_
    refine sGno (q' := true) rfl rfl (by simp) ?_
    refine sP (v := .bool _) rfl ?_
    refine sAs (v := .bool _) rfl ?_
    refine sNil (kSeqN ?_)
    refine cCondT rfl ?_
    refine cSeq ?_   -- seq 3
    refine cSeq ?_
    refine cRegion ?_
    refine sMv (v := .pointer _) rfl ?_
    obtain ⟨v17, mC, h17, ⟨x17, rfl⟩, hS17, o17⟩ := spec_Seldom (n := 8) hSA (by omega) (by decide) (by decide)
    refine sCall2 rfl call118 rfl rfl h17 ?_
    have gC := (o17.2 m.size (by omega)).trans gA
    have xC := xA.trans (o17.x (N := m.size))
    have zC : m.size + 1 ≤ mC.size := by rw [o17.1]; exact zA
    refine sNil (kSeqN ?_)
    refine cCond (p := x17 = 0) rfl (fun c1 => ?_) (fun c1 => ?_)
    ·
      refine cSeq ?_
      refine cRegion ?_
      refine sBuild B137k ?_
      refine sMv (v := .pointer _) rfl ?_
      obtain ⟨v20, mD, h20, ⟨x20, rfl, hx20⟩, hS20, o20⟩ := spec_SLess (n := 2) hS17 (by omega) (by decide) (by decide)
      refine sCall2 rfl call119 rfl rfl h20 ?_
      have gD := (o20.2 m.size (by omega)).trans gC
      have xD := xC.trans (o20.x (N := m.size))
      refine sP (v := nv (6 + x20)) (idx137 hx20) ?_
      obtain ⟨v22, mE, h22, rfl, e22⟩ := spec_lmade (m := mD) (k := 6 + x20) (q := none) (n := 0) (c := 0)
      refine sCall2 rfl call71 rfl rfl h22 ?_
      have gE := e22.cells gD
      have zE := e22.1
      have zD : m.size + 1 ≤ mD.size := by rw [o20.1]; exact zC
      have hSE : StoreAt N0 N mE b (kA + 1 + 1) := hS20.keep hN0 zE fun c _ h => e22.2 c (by omega)
      have xE : LowX m.size b m mE := ⟨by omega, fun c h1 h2 => (e22.2 c (by omega)).trans (xD.2 c h1 h2)⟩
      refine sStAll S66 rfl rfl gE rfl rfl (by kernel_rfl) ?_
      refine sNil (kSeqN ?_)
      refine cRet (kSeqR (kBlkR (kSeqR ?_)))
      exact ⟨.inr rfl, _, resRs_agg A66 S66 rfl (gS rfl (live gE)) rfl, hdone xE gE hSE (by omega) (e := .mk (Int.ofNat (6 + x20)) 0 []) ⟨_, rfl, .inl ⟨rfl, _, _, rfl⟩⟩ (fm_const hx20) (by show 1 + (([] : List BX).map (szB s)).sum ≤ _; simp; omega)⟩
    ·
      refine cSkip (kSeqN ?_)
      refine cSeq ?_
      refine cRegion ?_
      refine sMv (v := .pointer _) rfl ?_
      refine sMv (v := nv _) rfl ?_
      obtain ⟨v25, mD, h25, ⟨x25, rfl, hx25⟩, hS25, o25⟩ := spec_SLess (n := V) hS17 (by omega) (by omega) (by omega)
      refine sCall2 rfl call119 rfl rfl h25 ?_
      have gD := (o25.2 m.size (by omega)).trans gC
      have xD := xC.trans (o25.x (N := m.size))
      obtain ⟨v26, mE, h26, rfl, e26⟩ := spec_lvar (m := mD) (k := x25)
      refine sCall1 rfl call72 rfl h26 ?_
      have gE := e26.cells gD
      have zE := e26.1
      have zD : m.size + 1 ≤ mD.size := by rw [o25.1]; exact zC
      have hSE : StoreAt N0 N mE b (kA + 1 + 1) := hS25.keep hN0 zE fun c _ h => e26.2 c (by omega)
      have xE : LowX m.size b m mE := ⟨by omega, fun c h1 h2 => (e26.2 c (by omega)).trans (xD.2 c h1 h2)⟩
      refine sStAll S66 rfl rfl gE rfl rfl (by kernel_rfl) ?_
      refine sNil (kSeqN ?_)
      refine cRet (kBlkR (kSeqR ?_))
      exact ⟨.inr rfl, _, resRs_agg A66 S66 rfl (gS rfl (live gE)) rfl, hdone xE gE hSE (by omega) (e := .mk 1 (Int.ofNat x25) []) ⟨_, rfl, .inl ⟨rfl, _, _, rfl⟩⟩ (fm_var hx25) (by show 1 + (([] : List BX).map (szB s)).sum ≤ _; simp; omega)⟩
  ·
    rw [decide_eq_false h2]
    refine sG rfl rfl ?_
    refine sMv (v := .pointer _) rfl ?_
    refine sG rfl rfl ?_
    obtain ⟨v14, mA, h14, ⟨x14, rfl⟩, hS14, o14⟩ := spec_Seldom (n := 5) hS1 (by omega) (by decide) (by decide)
    refine sCall2 rfl call118 rfl rfl h14 ?_
    obtain ⟨kA, hkA, hSA⟩ : ∃ kA, kA ≤ k + 1 ∧ StoreAt N0 N mA b kA := ⟨k + 1, Nat.le_refl _, hS14⟩
    have gA := (o14.2 m.size (by omega)).trans g1
    have xA := x1.trans (o14.x (N := m.size))
    have zA : m.size + 1 ≤ mA.size := by rw [o14.1]; omega
    refine sP (v := .bool _) rfl ?_
    refine sAs (v := .bool _) rfl ?_
    refine sNil (kSeqN ?_)
    refine cCond (p := x14 = 0) rfl (fun c2 => ?_) (fun c2 => ?_)
    ·
      refine cSeq ?_   -- seq 7
      refine cSeq ?_
      refine cRegion ?_
      refine sMv (v := .pointer _) rfl ?_
      obtain ⟨v17, mC, h17, ⟨x17, rfl⟩, hS17, o17⟩ := spec_Seldom (n := 8) hSA (by omega) (by decide) (by decide)
      refine sCall2 rfl call118 rfl rfl h17 ?_
      have gC := (o17.2 m.size (by omega)).trans gA
      have xC := xA.trans (o17.x (N := m.size))
      have zC : m.size + 1 ≤ mC.size := by rw [o17.1]; exact zA
      refine sNil (kSeqN ?_)
      refine cCond (p := x17 = 0) rfl (fun c3 => ?_) (fun c3 => ?_)
      ·
        refine cSeq ?_
        refine cRegion ?_
        refine sBuild B137k ?_
        refine sMv (v := .pointer _) rfl ?_
        obtain ⟨v20, mD, h20, ⟨x20, rfl, hx20⟩, hS20, o20⟩ := spec_SLess (n := 2) hS17 (by omega) (by decide) (by decide)
        refine sCall2 rfl call119 rfl rfl h20 ?_
        have gD := (o20.2 m.size (by omega)).trans gC
        have xD := xC.trans (o20.x (N := m.size))
        refine sP (v := nv (6 + x20)) (idx137 hx20) ?_
        obtain ⟨v22, mE, h22, rfl, e22⟩ := spec_lmade (m := mD) (k := 6 + x20) (q := none) (n := 0) (c := 0)
        refine sCall2 rfl call71 rfl rfl h22 ?_
        have gE := e22.cells gD
        have zE := e22.1
        have zD : m.size + 1 ≤ mD.size := by rw [o20.1]; exact zC
        have hSE : StoreAt N0 N mE b (kA + 1 + 1) := hS20.keep hN0 zE fun c _ h => e22.2 c (by omega)
        have xE : LowX m.size b m mE := ⟨by omega, fun c h1 h2 => (e22.2 c (by omega)).trans (xD.2 c h1 h2)⟩
        refine sStAll S66 rfl rfl gE rfl rfl (by kernel_rfl) ?_
        refine sNil (kSeqN ?_)
        refine cRet (kSeqR (kBlkR (kSeqR ?_)))
        exact ⟨.inr rfl, _, resRs_agg A66 S66 rfl (gS rfl (live gE)) rfl, hdone xE gE hSE (by omega) (e := .mk (Int.ofNat (6 + x20)) 0 []) ⟨_, rfl, .inl ⟨rfl, _, _, rfl⟩⟩ (fm_const hx20) (by show 1 + (([] : List BX).map (szB s)).sum ≤ _; simp; omega)⟩
      ·
        refine cSkip (kSeqN ?_)
        refine cSeq ?_
        refine cRegion ?_
        refine sMv (v := .pointer _) rfl ?_
        refine sMv (v := nv _) rfl ?_
        obtain ⟨v25, mD, h25, ⟨x25, rfl, hx25⟩, hS25, o25⟩ := spec_SLess (n := V) hS17 (by omega) (by omega) (by omega)
        refine sCall2 rfl call119 rfl rfl h25 ?_
        have gD := (o25.2 m.size (by omega)).trans gC
        have xD := xC.trans (o25.x (N := m.size))
        obtain ⟨v26, mE, h26, rfl, e26⟩ := spec_lvar (m := mD) (k := x25)
        refine sCall1 rfl call72 rfl h26 ?_
        have gE := e26.cells gD
        have zE := e26.1
        have zD : m.size + 1 ≤ mD.size := by rw [o25.1]; exact zC
        have hSE : StoreAt N0 N mE b (kA + 1 + 1) := hS25.keep hN0 zE fun c _ h => e26.2 c (by omega)
        have xE : LowX m.size b m mE := ⟨by omega, fun c h1 h2 => (e26.2 c (by omega)).trans (xD.2 c h1 h2)⟩
        refine sStAll S66 rfl rfl gE rfl rfl (by kernel_rfl) ?_
        refine sNil (kSeqN ?_)
        refine cRet (kBlkR (kSeqR ?_))
        exact ⟨.inr rfl, _, resRs_agg A66 S66 rfl (gS rfl (live gE)) rfl, hdone xE gE hSE (by omega) (e := .mk 1 (Int.ofNat x25) []) ⟨_, rfl, .inl ⟨rfl, _, _, rfl⟩⟩ (fm_var hx25) (by show 1 + (([] : List BX).map (szB s)).sum ≤ _; simp; omega)⟩
    ·
      refine cSeq ?_
      refine cRegion ?_
      refine sMv (v := nv _) rfl ?_
      refine sBin (a := s) (b := 3) rfl rfl aInt_lss ?_
      refine sMv (v := .bool _) rfl ?_
      by_cases h3 : s < 3
      ·
        rw [decide_eq_true h3]
        obtain ⟨mB, rfl⟩ : ∃ x, x = mA := ⟨_, rfl⟩
        obtain ⟨kB, hkB, hSB⟩ : ∃ kB, kB ≤ k + 2 ∧ StoreAt N0 N mB b kB := ⟨kA, by omega, hSA⟩
        have gB := gA
        have xB := xA
        have zB := zA
        refine sGno (q' := true) rfl rfl (by simp) ?_
        refine sGno (q' := true) rfl rfl (by simp) ?_
        refine sP (v := .bool _) rfl ?_
        refine sAs (v := .bool _) rfl ?_
        refine sNil (kSeqN ?_)
        refine cCondT rfl ?_
        refine cSeq ?_
        refine cRegion ?_
        refine sMv (v := .pointer _) rfl ?_
        refine sMv (v := nv _) rfl ?_
        refine sBin (v := nv (s - 1)) rfl rfl (aInt_sub (a := s) (b := 1) (by omega)) ?_
        refine sMv (v := nv _) rfl ?_
        obtain ⟨v38, m38, h38, e38, hB38, hf38, hz38, ⟨k38, hk38, hS38⟩, x38⟩ := ih (s - 1) (by omega) hSB hN0 (by omega)
        rw [show s - 1 + 1 = s by omega] at hB38 hf38 hz38
        obtain ⟨d38, q38, c38, hd38, rfl⟩ := hB38.agg
        refine sCall3 rfl call59 rfl rfl rfl h38 ?_
        have g38 := (x38.2 m.size (by omega) (by omega)).trans gB
        have z38 := x38.1
        refine sBuildS T64 S66 Z66 (by decide) (by decide) (by decide) (by kernel_rfl) fill66 rfl ?_
        have ex9 : Ext m38 (m38.push (.cells true #[.int .i64 e38.kind, .int .i64 e38.var, .slice q38 e38.args.length c38])) := .push _ _
        have g9 : Mem.get (m38.push (.cells true #[.int .i64 e38.kind, .int .i64 e38.var, .slice q38 e38.args.length c38])) m38.size = .cells true #[.int .i64 e38.kind, .int .i64 e38.var, .slice q38 e38.args.length c38] := gP rfl
        generalize m38.push (.cells true #[.int .i64 e38.kind, .int .i64 e38.var, .slice q38 e38.args.length c38]) = m9 at *
        obtain ⟨v40, m40, h40, rfl, ex40⟩ := spec_lmade (m := m9) (k := 2) (q := some ⟨m38.size, 0, some 3⟩) (n := 1) (c := 1)
        refine sCall2 rfl call71 rfl rfl h40 ?_
        have E40 := ex9.trans ex40
        have z40 := E40.1
        have g40 := E40.cells g38
        have hS40 : StoreAt N0 N m40 b k38 := hS38.keep hN0 z40 fun c _ h => E40.2 c (by omega)
        have x40 : LowX m.size b m m40 := ⟨by have := xB.1; omega, fun c h1 h2 => by rw [E40.2 c (by omega), x38.2 c (by omega) h2]; exact xB.2 c h1 h2⟩
        have hgc := ex40.cells g9
        have z9 := ex9.1
        have hl9 := live g9
        have zz40 := ex40.1
        have hB40 : BAt (fun c => m.size < c ∧ c < m40.size) m40 (s + 1) (.agg #[nv 2, nv 0, .slice (some ⟨m38.size, 0, some 3⟩) 1 1]) (notX e38) := by
          refine ⟨_, rfl, .inr ⟨m38.size, 0, 1, true, _, rfl, ⟨by omega, by omega⟩, hgc, fun i a hi => ?_⟩⟩
          have h1 := (List.getElem?_eq_some_iff.1 hi).1
          obtain rfl : i = 0 := by have : (notX e38).args.length = 1 := rfl; omega
          obtain rfl : e38 = a := by injection hi
          exact ⟨by simp, hB38.frame fun c hc _ => ⟨⟨by omega, by omega⟩, E40.2 c (by omega)⟩⟩
        refine sStAll S66 rfl rfl g40 rfl rfl (by kernel_rfl) ?_
        refine sNil (kSeqN ?_)
        refine cRet (kBlkR (kSeqR ?_))
        exact ⟨.inr rfl, _, resRs_agg A66 S66 rfl (gS rfl (live g40)) rfl, hdone x40 g40 hS40 (by omega) hB40 (fm_not hf38) (by show 1 + ([szB s e38]).sum ≤ _; simp; omega)⟩
      ·
        rw [decide_eq_false h3]
        refine sG rfl rfl ?_
        refine sMv (v := .pointer _) rfl ?_
        refine sG rfl rfl ?_
        obtain ⟨v32, mB, h32, ⟨x32, rfl⟩, hS32, o32⟩ := spec_Seldom (n := 4) hSA (by omega) (by decide) (by decide)
        refine sCall2 rfl call118 rfl rfl h32 ?_
        obtain ⟨kB, hkB, hSB⟩ : ∃ kB, kB ≤ k + 2 ∧ StoreAt N0 N mB b kB := ⟨kA + 1, by omega, hS32⟩
        have gB := (o32.2 m.size (by omega)).trans gA
        have xB := xA.trans (o32.x (N := m.size))
        have zB : m.size + 1 ≤ mB.size := by rw [o32.1]; exact zA
        refine sP (v := .bool _) rfl ?_
        refine sAs (v := .bool _) rfl ?_
        refine sNil (kSeqN ?_)
        refine cCond (p := x32 = 0) rfl (fun c5 => ?_) (fun c5 => ?_)
        ·
          refine cSeq ?_
          refine cRegion ?_
          refine sMv (v := .pointer _) rfl ?_
          refine sMv (v := nv _) rfl ?_
          refine sBin (v := nv (s - 1)) rfl rfl (aInt_sub (a := s) (b := 1) (by omega)) ?_
          refine sMv (v := nv _) rfl ?_
          obtain ⟨v38, m38, h38, e38, hB38, hf38, hz38, ⟨k38, hk38, hS38⟩, x38⟩ := ih (s - 1) (by omega) hSB hN0 (by omega)
          rw [show s - 1 + 1 = s by omega] at hB38 hf38 hz38
          obtain ⟨d38, q38, c38, hd38, rfl⟩ := hB38.agg
          refine sCall3 rfl call59 rfl rfl rfl h38 ?_
          have g38 := (x38.2 m.size (by omega) (by omega)).trans gB
          have z38 := x38.1
          refine sBuildS T64 S66 Z66 (by decide) (by decide) (by decide) (by kernel_rfl) fill66 rfl ?_
          have ex9 : Ext m38 (m38.push (.cells true #[.int .i64 e38.kind, .int .i64 e38.var, .slice q38 e38.args.length c38])) := .push _ _
          have g9 : Mem.get (m38.push (.cells true #[.int .i64 e38.kind, .int .i64 e38.var, .slice q38 e38.args.length c38])) m38.size = .cells true #[.int .i64 e38.kind, .int .i64 e38.var, .slice q38 e38.args.length c38] := gP rfl
          generalize m38.push (.cells true #[.int .i64 e38.kind, .int .i64 e38.var, .slice q38 e38.args.length c38]) = m9 at *
          obtain ⟨v40, m40, h40, rfl, ex40⟩ := spec_lmade (m := m9) (k := 2) (q := some ⟨m38.size, 0, some 3⟩) (n := 1) (c := 1)
          refine sCall2 rfl call71 rfl rfl h40 ?_
          have E40 := ex9.trans ex40
          have z40 := E40.1
          have g40 := E40.cells g38
          have hS40 : StoreAt N0 N m40 b k38 := hS38.keep hN0 z40 fun c _ h => E40.2 c (by omega)
          have x40 : LowX m.size b m m40 := ⟨by have := xB.1; omega, fun c h1 h2 => by rw [E40.2 c (by omega), x38.2 c (by omega) h2]; exact xB.2 c h1 h2⟩
          have hgc := ex40.cells g9
          have z9 := ex9.1
          have hl9 := live g9
          have zz40 := ex40.1
          have hB40 : BAt (fun c => m.size < c ∧ c < m40.size) m40 (s + 1) (.agg #[nv 2, nv 0, .slice (some ⟨m38.size, 0, some 3⟩) 1 1]) (notX e38) := by
            refine ⟨_, rfl, .inr ⟨m38.size, 0, 1, true, _, rfl, ⟨by omega, by omega⟩, hgc, fun i a hi => ?_⟩⟩
            have h1 := (List.getElem?_eq_some_iff.1 hi).1
            obtain rfl : i = 0 := by have : (notX e38).args.length = 1 := rfl; omega
            obtain rfl : e38 = a := by injection hi
            exact ⟨by simp, hB38.frame fun c hc _ => ⟨⟨by omega, by omega⟩, E40.2 c (by omega)⟩⟩
          refine sStAll S66 rfl rfl g40 rfl rfl (by kernel_rfl) ?_
          refine sNil (kSeqN ?_)
          refine cRet (kBlkR (kSeqR ?_))
          exact ⟨.inr rfl, _, resRs_agg A66 S66 rfl (gS rfl (live g40)) rfl, hdone x40 g40 hS40 (by omega) hB40 (fm_not hf38) (by show 1 + ([szB s e38]).sum ≤ _; simp; omega)⟩
        ·
          skip
          refine cSkip (kBlkN (kSeqN ?_))
          refine cSeq ?_
          refine cRegion ?_
          refine sMv (v := .pointer _) rfl ?_
          refine sMv (v := nv _) rfl ?_
          refine sBin (v := nv (s - 2)) rfl rfl (aInt_sub (a := s) (b := 2) (by omega)) ?_
          obtain ⟨v44, m44, h44, ⟨o, rfl, ho1, ho2⟩, hS44, o44⟩ := spec_From (lo := 1) (hi := s - 2) hSB (by omega) (by omega) (by omega)
          refine sCall3 rfl call120 rfl rfl rfl h44 ?_
          have g44 := (o44.2 m.size (by omega)).trans gB
          have x44 := xB.trans (o44.x (N := m.size))
          have z44 : m.size + 1 ≤ m44.size := by rw [o44.1]; exact zB
          refine sAs (v := nv _) rfl ?_
          refine sNil (kSeqN ?_)
          refine cSeq ?_
          refine cRegion ?_
          refine sMv (v := .pointer _) rfl ?_
          refine sMv (v := nv _) rfl ?_
          refine sMv (v := nv _) rfl ?_
          obtain ⟨v48, m48, h48, eA, hBA, hfA, hzA, ⟨k48, hk48, hS48⟩, x48⟩ := ih o (by omega) hS44 hN0 (by omega)
          obtain ⟨dA, qA, cA, hdA, rfl⟩ := hBA.agg
          refine sCall3 rfl call59 rfl rfl rfl h48 ?_
          have g48 := (x48.2 m.size (by omega) (by omega)).trans g44
          have z48 := x48.1
          refine sAllocB (bl := m48.size) rfl Z66 (by kernel_rfl) ?_
          refine sStNAB rfl S66 rfl rfl rfl rfl (by kernel_rfl) ?_
          have ex8 : Ext m48 (m48.push (.cells true #[.int .i64 eA.kind, .int .i64 eA.var, .slice qA eA.args.length cA])) := .push _ _
          have g8 : Mem.get (m48.push (.cells true #[.int .i64 eA.kind, .int .i64 eA.var, .slice qA eA.args.length cA])) m48.size = .cells true #[.int .i64 eA.kind, .int .i64 eA.var, .slice qA eA.args.length cA] := gP rfl
          generalize m48.push (.cells true #[.int .i64 eA.kind, .int .i64 eA.var, .slice qA eA.args.length cA]) = m8 at *
          have z8 := ex8.1
          have hS8 : StoreAt N0 N m8 b k48 := hS48.keep hN0 z8 fun c _ h => ex8.2 c (by omega)
          have gr8 := ex8.cells g48
          have hl8 := live g8
          refine sNil (kSeqN ?_)
          refine cSeq ?_
          refine cDrawH (hs := [(4, 0), (4, 12)]) rfl (by decide) ?_
          refine lStepO (sBuild B139m (sNil fun e0 hm0 => ?_))
          refine lStepO (sMv (v := .pointer _) rfl (sNil fun e1 hm1 => ?_))
          obtain ⟨v51, m51, h51, ⟨x51, rfl, hx51⟩, hS51, o51⟩ := spec_SLess (n := 3) hS8 (by omega) (by decide) (by decide)
          refine lStepO (sCall2 rfl call119 rfl rfl h51 (sNil fun e2 hm2 => ?_))
          have g51 := (o51.2 m48.size (by omega)).trans g8
          have gr51 := (o51.2 m.size (by omega)).trans gr8
          have z51 : m51.size = m8.size := o51.1
          refine lStepO (sP (v := nv (3 + x51)) (idx139 hx51) (sNil fun e3 hm3 => ?_))
          refine lStepLdA A66 S66 rfl g51 rfl fun e4 hm4 hv4 hr4 => ?_
          refine lStepO (sMv (v := .pointer _) rfl (sNil fun e5 hm5 => ?_))
          refine lStepO (sMv (v := nv _) rfl (sNil fun e6 hm6 => ?_))
          refine lStepO (sBin (v := nv (s - 1)) rfl rfl (aInt_sub (a := s) (b := 1) (by omega)) (sNil fun e7 hm7 => ?_))
          refine lStepO (sMv (v := nv _) rfl (sNil fun e8 hm8 => ?_))
          refine lStepO (sBin (v := nv (s - 1 - o)) rfl rfl (aInt_sub (a := s - 1) (b := o) (by omega)) (sNil fun e9 hm9 => ?_))
          refine lStepO (sMv (v := nv _) rfl (sNil fun e10 hm10 => ?_))
          obtain ⟨v60, m60, h60, eB, hBB, hfB, hzB, ⟨k60, hk60, hS60⟩, x60⟩ := ih (s - 1 - o) (by omega) hS51 hN0 (by omega)
          obtain ⟨dB, qB, cB, hdB, rfl⟩ := hBB.agg
          refine lStepO (sCall3 rfl call59 rfl rfl rfl h60 (sNil fun e11 hm11 => ?_))
          have z60 := x60.1
          have g60 := (x60.2 m48.size (by omega) (by omega)).trans g51
          have gr60 := (x60.2 m.size (by omega) (by omega)).trans gr51
          refine lStepO (sBuildS (c := #[.int .i64 eA.kind, .int .i64 eA.var, .slice qA eA.args.length cA, .int .i64 eB.kind, .int .i64 eB.var, .slice qB eB.args.length cB]) T64 S66 Z66 (by decide) (by decide) (by decide) (by kernel_rfl) (by kernel_rfl) rfl (sNil fun e12 hm12 => ?_))
          have ex61 : Ext m60 (m60.push (.cells true #[.int .i64 eA.kind, .int .i64 eA.var, .slice qA eA.args.length cA, .int .i64 eB.kind, .int .i64 eB.var, .slice qB eB.args.length cB])) := .push _ _
          have g61 : Mem.get (m60.push (.cells true #[.int .i64 eA.kind, .int .i64 eA.var, .slice qA eA.args.length cA, .int .i64 eB.kind, .int .i64 eB.var, .slice qB eB.args.length cB])) m60.size = .cells true #[.int .i64 eA.kind, .int .i64 eA.var, .slice qA eA.args.length cA, .int .i64 eB.kind, .int .i64 eB.var, .slice qB eB.args.length cB] := gP rfl
          generalize m60.push (.cells true #[.int .i64 eA.kind, .int .i64 eA.var, .slice qA eA.args.length cA, .int .i64 eB.kind, .int .i64 eB.var, .slice qB eB.args.length cB]) = m61 at *
          obtain ⟨v62, m62, h62, rfl, ex62⟩ := spec_lmade (m := m61) (k := 3 + x51) (q := some ⟨m60.size, 0, some 3⟩) (n := 2) (c := 2)
          refine lStepO (sCall2 rfl call71 rfl rfl h62 (sNil fun e13 hm13 => ?_))
          have E62 := ex61.trans ex62
          have z62 := E62.1
          have g62 := E62.cells gr60
          have hS62 : StoreAt N0 N m62 b k60 := hS60.keep hN0 z62 fun c _ h => E62.2 c (by omega)
          have x44' := x44.1
          have hlo : ∀ c, c < m48.size → c ≠ b → Mem.get m62 c = Mem.get m48 c := fun c h1 h2 => by
            rw [E62.2 c (by omega), x60.2 c (by omega) h2, o51.2 c h2, ex8.2 c h1]
          have xx62 : LowX m.size b m m62 := ⟨by omega, fun c h1 h2 => by rw [hlo c (by omega) h2, x48.2 c (by omega) h2]; exact x44.2 c h1 h2⟩
          have hgc := ex62.cells g61
          have hl61 := live g61
          have z61 := ex62.1
          have hBA' : BAt (fun c => m.size < c ∧ c < m62.size) m62 s (.agg #[.int .i64 eA.kind, .int .i64 eA.var, .slice qA eA.args.length cA]) eA := by
            have := (hBA.lift (s - (o + 1))).frame (m' := m62) (P' := fun c => m.size < c ∧ c < m62.size) fun c hc _ => ⟨⟨by omega, by omega⟩, hlo c (by omega) (by omega)⟩
            rwa [show o + 1 + (s - (o + 1)) = s by omega] at this
          have hBB' : BAt (fun c => m.size < c ∧ c < m62.size) m62 s (.agg #[.int .i64 eB.kind, .int .i64 eB.var, .slice qB eB.args.length cB]) eB := by
            have := (hBB.lift (s - (s - 1 - o + 1))).frame (m' := m62) (P' := fun c => m.size < c ∧ c < m62.size) fun c hc _ => ⟨⟨by omega, by omega⟩, E62.2 c (by omega)⟩
            rwa [show s - 1 - o + 1 + (s - (s - 1 - o + 1)) = s by omega] at this
          have hfA' : fmB (Int.ofNat V) s eA = 0 ∧ szB s eA = szB (o + 1) eA := by
            have := fm_le hfA (s - (o + 1))
            rw [show o + 1 + (s - (o + 1)) = s by omega] at this
            exact ⟨this.1, this.2.1⟩
          have hfB' : fmB (Int.ofNat V) s eB = 0 ∧ szB s eB = szB (s - 1 - o + 1) eB := by
            have := fm_le hfB (s - (s - 1 - o + 1))
            rw [show s - 1 - o + 1 + (s - (s - 1 - o + 1)) = s by omega] at this
            exact ⟨this.1, this.2.1⟩
          have hBR : BAt (fun c => m.size < c ∧ c < m62.size) m62 (s + 1) (.agg #[nv (3 + x51), nv 0, .slice (some ⟨m60.size, 0, some 3⟩) 2 2]) (.mk (Int.ofNat (3 + x51)) 0 [eA, eB]) := by
            refine ⟨_, rfl, .inr ⟨m60.size, 0, 2, true, _, rfl, ⟨by omega, by omega⟩, hgc, fun i a hi => ?_⟩⟩
            have h1 := (List.getElem?_eq_some_iff.1 hi).1
            have hi' : i = 0 ∨ i = 1 := by have : (BX.mk (Int.ofNat (3 + x51)) 0 [eA, eB]).args.length = 2 := rfl; omega
            rcases hi' with rfl | rfl
            · obtain rfl : eA = a := by injection hi
              exact ⟨by simp, hBA'⟩
            · obtain rfl : eB = a := by injection hi
              exact ⟨by simp, hBB'⟩
          refine lStepO (sStAll S66 rfl rfl g62 rfl rfl (by kernel_rfl) (sNil fun e14 hm14 => ?_))
          refine ⟨?_, (kSeqN ?_)⟩
          ·
            refine obl_atE (e := e4) (e' := e0) (by simp) (by rfl) (by simp) ((hr4 e0.m _ (by rw [hm0]; exact g8)).trans (congrArg some hv4.symm)) ?_
            refine obl_atE (e := e4) (e' := e12) (by simp) (by rfl) (by simp) ((hr4 e12.m _ (by rw [hm12]; exact g60)).trans (congrArg some hv4.symm)) ?_
            trivial
          refine cRet ?_
          exact ⟨.inr rfl, _, resRs_agg A66 S66 rfl (gS rfl (live g62)) rfl, hdone xx62 g62 hS62 (by omega) hBR (fm_two hx51 hfA'.1 hfB'.1) (by show 1 + ([szB s eA, szB s eB]).sum ≤ _; rw [hfA'.2, hfB'.2]; simp; omega)⟩
end Go.AM

/-! ### R48 -/
namespace Go.AM
open Go.Proofs
set_option maxRecDepth 100000
set_option linter.unusedVariables false
set_option linter.unusedSimpArgs false
theorem conv5_3 {a : Nat} (h : a < 256) : aConv Tryd.prog 5 3 (.int .u8 (Int.ofNat a)) = some (nv a) := by
  simp only [aConv, U5, U3]
  rw [wrapN (by omega)]
theorem neBool (q : Bool) : aBin Tryd.prog .neq 4 (.bool q) (.bool q) = some (.bool false) := by cases q <;> kernel_rfl
theorem mask_bit {x V j : Nat} (h : j < V) : (x &&& (2 ^ V - 1)).testBit j = x.testBit j := by
  rw [Nat.testBit_and, Nat.testBit_two_pow_sub_one, decide_eq_true h, Bool.and_true]
theorem high_zero {x n j : Nat} (h : x < 2 ^ n) (hj : n ≤ j) : x.testBit j = false := Nat.testBit_lt_two_pow (Nat.lt_of_lt_of_le h (Nat.pow_le_pow_right (by decide) hj))
theorem rangeFind_none {P : Nat → Bool} {n : Nat} (hm : ∀ j, j < n → P j = false) : (List.range n).find? P = none := by
  rw [List.find?_eq_none]
  intro j hj
  rw [List.mem_range] at hj
  simp [hm j hj]
/-- What the law asks of a compiled expression. -/
theorem cp_facts {V d : Nat} {e : BX} (hV1 : 1 ≤ V) (hV8 : V ≤ 8) (hf : fmB (Int.ofNat V) d e = 0) (hs : szB d e ≤ 24) :
    goodB (Int.ofNat V) d e = 0 ∧ (cpE (Int.ofNat V) d e = 0 ∨ cpE (Int.ofNat V) d e = 12 ∨ cpE (Int.ofNat V) d e = 2) ∧
    (cpE (Int.ofNat V) d e = 0 → V < cpN (Int.ofNat V) d e ∧ cpN (Int.ofNat V) d e ≤ 12 ∧ CircOk (cpN (Int.ofNat V) d e) (cpG (Int.ofNat V) d e) ∧ ∀ X, X < 2 ^ (V + 1) → runM (cpG (Int.ofNat V) d e) X = if valB X d e then X ^^^ 2 ^ V else X) := by
  have hg : goodB (Int.ofNat V) d e = 0 := by
    rw [goodB, if_neg, if_neg (by omega), hf]
    rintro (h | h)
    · have h' : (V : Int) < 1 := h; omega
    · have h' : 8 < (V : Int) := h; omega
  have hE : cpE (Int.ofNat V) d e = if 12 < cpW0 V d e then 12 else if 120 < (cpG0 V d e).length then 2 else 0 := by
    rw [cpE, if_neg (fun h => h hg)]; rfl
  refine ⟨hg, ?_, fun h0 => ?_⟩
  · rw [hE]
    split
    · exact .inr (.inl rfl)
    · split
      · exact .inr (.inr rfl)
      · exact .inl rfl
  · have hN : cpN (Int.ofNat V) d e = cpW0 V d e := by rw [cpN, if_pos h0]; rfl
    have hG : cpG (Int.ofNat V) d e = cpG0 V d e := by rw [cpG, if_pos h0]; rfl
    rw [hE] at h0
    have h12 : ¬ 12 < cpW0 V d e := fun h => by rw [if_pos h] at h0; cases h0
    rw [if_neg h12] at h0
    have h120 : ¬ 120 < (cpG0 V d e).length := fun h => by rw [if_pos h] at h0; cases h0
    have hlt : V + 1 ≤ cpW0 V d e := Nat.le_max_left _ _
    rw [hN, hG]
    refine ⟨hlt, by omega, ⟨by omega, by omega, by omega, fun g hg => ?_⟩, fun X hX => ?_⟩
    · obtain ⟨a1, a2, a3⟩ := gT_gw (nfB d e) d e hf V (Nat.le_refl _) g hg
      exact ⟨a1, a3, a2⟩
    · exact gT_sem (nfB d e) d e hf (Nat.le_refl _) V X (Nat.le_refl _) fun j hj => high_zero hX hj
theorem clean_none {V n : Nat} {Gs : List Gt} {e : BX} {d : Nat} (hn : V < n) (hrun : ∀ X, X < 2 ^ (V + 1) → runM Gs X = if valB X d e then X ^^^ 2 ^ V else X) : foundE n (cleanS Gs (posM (List.range' (V + 1) (n - (V + 1))))) = 6 := by
  have hnone : firstS n (cleanS Gs (posM (List.range' (V + 1) (n - (V + 1))))) = none := by
    refine rangeFind_none fun x hx => ?_
    unfold cleanS
    rw [Bool.and_eq_false_iff]
    by_cases h : x &&& posM (List.range' (V + 1) (n - (V + 1))) = 0
    · right
      have hbit : ∀ j, V + 1 ≤ j → x.testBit j = false := fun j hj => by
        by_cases hjn : j < n
        · have := congrArg (fun y => y.testBit j) h
          simp only [Nat.testBit_and, posM_bit, Nat.zero_testBit] at this
          rw [decide_eq_true (by rw [List.mem_range'_1]; omega), Bool.and_true] at this
          exact this
        · exact high_zero hx (by omega)
      have hxl : x < 2 ^ (V + 1) := Nat.lt_pow_two_of_testBit x fun j hj => hbit j hj
      have hz : runM Gs x &&& posM (List.range' (V + 1) (n - (V + 1))) = 0 := by
        apply Nat.eq_of_testBit_eq
        intro j
        rw [Nat.testBit_and, posM_bit, Nat.zero_testBit, hrun x hxl]
        by_cases hj : j ∈ List.range' (V + 1) (n - (V + 1))
        · rw [List.mem_range'_1] at hj
          have : (if valB x d e then x ^^^ 2 ^ V else x).testBit j = false := by
            split
            · rw [flip_bit (by omega)]; exact hbit j hj.1
            · exact hbit j hj.1
          rw [this]; rfl
        · rw [decide_eq_false hj, Bool.and_false]
      simp [hz]
    · left; simp [h]
  rw [foundE, hnone]; rfl
theorem okf9 : okF Tryd.prog H0 9 139 = true := by kernel_rfl
theorem spec_ValuesLaw {m : Mem} {a : Value} {l : List Int} {many : Nat} (hmany : many < 256) (hC : GlobC m) (hW : GlobW m) (ha : BytesAt m a l) : ∃ v m', ACalls Tryd.prog 9 #[a, .int .u8 (Int.ofNat many)] m v m' ∧ (v = .bool true ∧ Ext m m') := by
  obtain ⟨qa, ca, rfl⟩ := ha.len
  obtain ⟨V, hVe, hV1, hV4⟩ : ∃ V, V = 1 + many % 4 ∧ 1 ≤ V ∧ V ≤ 4 := ⟨_, rfl, by omega, by omega⟩
  refine wpF (args := [_, _]) mixed okf9 (fn := Tryd.f9) rfl rfl rfl (by simp) ?_
  refine cSeq ?_
  refine cRegion ?_
  refine sAs (v := .bool _) rfl ?_
  refine sNil (kSeqN ?_)
  refine cSeq ?_
  refine cRegion ?_
  refine sMv (v := .int .u8 (Int.ofNat many)) rfl ?_
  refine sP (v := nv many) (conv5_3 hmany) ?_
  refine sBin (a := many) (b := 4) rfl rfl (aInt_rem (by decide)) ?_
  refine sBin (a := 1) (b := many % 4) rfl rfl (aInt_add (by omega)) ?_
  rw [← hVe]
  refine sAs (v := nv _) rfl ?_
  refine sNil (kSeqN ?_)
  refine cSeq ?_
  refine cRegion ?_
  refine sMv (v := .slice _ _ _) rfl ?_
  obtain ⟨v26, m26, h26, b, rfl, hb, hT26, e26⟩ := spec_Of ha
  refine sCall1 rfl call60 rfl h26 ?_
  refine sMv (v := nv _) rfl ?_
  obtain ⟨v28, m28, h28, e, hB28, hf, hsz, _, x28⟩ := spec_Meant (V := V) hV1 (by omega) 9 hT26 hb (by decide)
  obtain ⟨d28, q28, c28, hd28, rfl⟩ := hB28.agg
  refine sCall3 rfl call59 rfl rfl rfl h28 ?_
  have z26 := e26.1
  have z28 := x28.1
  have E28 : Ext m m28 := ⟨by omega, fun c hc => by rw [x28.2 c (by omega) (by omega)]; exact e26.2 c hc⟩
  obtain ⟨hgd, hcE, hcp⟩ := cp_facts hV1 (by omega) hf (show szB (9 + 1) e ≤ 24 by omega)
  refine sAllocB (bl := m28.size) rfl Z66 (by kernel_rfl) ?_
  refine sStNAB rfl S66 rfl rfl rfl rfl (by kernel_rfl) ?_
  have ex6 : Ext m28 (m28.push (.cells true #[.int .i64 e.kind, .int .i64 e.var, .slice q28 e.args.length c28])) := .push _ _
  have g6 : Mem.get (m28.push (.cells true #[.int .i64 e.kind, .int .i64 e.var, .slice q28 e.args.length c28])) m28.size = .cells true #[.int .i64 e.kind, .int .i64 e.var, .slice q28 e.args.length c28] := gP rfl
  generalize m28.push (.cells true #[.int .i64 e.kind, .int .i64 e.var, .slice q28 e.args.length c28]) = m6 at *
  have z6 := ex6.1
  have hB6 : BAt (fun c => c < m6.size) m6 (9 + 1) (.agg #[.int .i64 e.kind, .int .i64 e.var, .slice q28 e.args.length c28]) e := hB28.frame fun c hc _ => ⟨by omega, ex6.2 c hc.2⟩
  have E6 := E28.trans ex6
  refine sNil (kSeqN ?_)
  refine cSeq ?_
  refine cRegion ?_
  refine sLdAll A66 S66 rfl g6 rfl ?_
  refine sMv (v := nv _) rfl ?_
  obtain ⟨v32, m32, h32, s32, cs32, rfl, o32, e32⟩ := spec_Compile (Int.ofNat V) (9 + 1) (hW.ext E6) hB6 (by omega)
  obtain ⟨q32, c32, rfl⟩ := o32.1.len
  refine sCall2 rfl call55 rfl rfl h32 ?_
  generalize cpN (Int.ofNat V) (9 + 1) e = n at *
  generalize cpE (Int.ofNat V) (9 + 1) e = er at *
  generalize cpG (Int.ofNat V) (9 + 1) e = Gs at *
  refine sMv (v := .tuple _) rfl ?_
  refine sP (v := .agg _) rfl ?_   -- extract ['t29', '0']
  refine sP (v := nv _) rfl ?_   -- extract ['t29', '1']
  refine sAllocB (bl := m32.size) rfl Z30 (by kernel_rfl) ?_
  refine sStNAB rfl S30 rfl rfl rfl rfl (by kernel_rfl) ?_
  have ex7 : Ext m32 (m32.push (.cells true #[nv n, nv 0, .slice q32 Gs.length c32])) := .push _ _
  have g7 : Mem.get (m32.push (.cells true #[nv n, nv 0, .slice q32 Gs.length c32])) m32.size = .cells true #[nv n, nv 0, .slice q32 Gs.length c32] := gP rfl
  have o7 := o32.ext ex7
  generalize m32.push (.cells true #[nv n, nv 0, .slice q32 Gs.length c32]) = m7 at *
  have g67 := (e32.trans ex7).cells g6
  have hB7 := hB6.ext (e32.trans ex7)
  have E7 := E6.trans (e32.trans ex7)
  refine sAs (v := nv _) rfl ?_
  refine sNil (kSeqN ?_)
  refine cSeq ?_   -- seq 4
  refine cSeq ?_
  refine cRegion ?_
  refine sMv (v := nv _) rfl ?_
  refine sBin (a := er) (b := 0) rfl rfl aInt_neq ?_
  refine sNil (kSeqN ?_)
  refine cCond rfl (fun c0 => ?_) (fun c0 => ?_)
  ·
    refine cSeq ?_
    refine cRegion ?_
    refine sMv (v := nv _) rfl ?_
    refine sBin (a := er) (b := 12) rfl rfl aInt_eql ?_
    refine sMv (v := .bool (decide (er = 12))) rfl ?_
    by_cases h12 : er = 12
    ·
      rw [decide_eq_true h12]
      refine sGno (q' := true) rfl rfl (by simp) ?_
      refine sGno (q' := true) rfl rfl (by simp) ?_
      refine sP (v := .bool true) rfl ?_
      refine sMv (v := .bool true) rfl ?_
      refine sG rfl rfl ?_
      obtain ⟨v44, m44, h44, rfl, e44⟩ := spec_awake (hC.ext E7) (hW.ext E7)
      refine sCall0 rfl call14 h44 ?_
      refine sP (v := .bool true) rfl ?_
      refine sAs (v := .bool _) rfl ?_
      refine sNil (kSeqN ?_)
      refine cRet (kSeqR ?_)
      exact ⟨.inr rfl, _, rfl, rfl, E7.trans e44⟩
    ·
      rw [decide_eq_false h12]
      have h2 : er = 2 := by rcases hcE with h | h | h; exact absurd h c0; exact absurd h h12; exact h
      refine sG rfl rfl ?_
      refine sMv (v := nv _) rfl ?_
      refine sG rfl rfl ?_
      refine sBin (v := .bool true) (a := er) (b := 2) rfl rfl (by rw [h2]; exact eqlT rfl) ?_
      refine sP (v := .bool true) rfl ?_
      refine sMv (v := .bool true) rfl ?_
      refine sG rfl rfl ?_
      obtain ⟨v44, m44, h44, rfl, e44⟩ := spec_awake (hC.ext E7) (hW.ext E7)
      refine sCall0 rfl call14 h44 ?_
      refine sP (v := .bool true) rfl ?_
      refine sAs (v := .bool _) rfl ?_
      refine sNil (kSeqN ?_)
      refine cRet (kSeqR ?_)
      exact ⟨.inr rfl, _, rfl, rfl, E7.trans e44⟩
  ·
    obtain ⟨hnV, hn12, hcc, hrun⟩ := hcp (Decidable.not_not.1 c0)
    have h16 : 2 ^ V ≤ 16 := by have := Nat.pow_le_pow_right (show 0 < 2 by decide) hV4; omega
    have hp2 : 2 ^ (V + 1) = 2 * 2 ^ V := by rw [Nat.pow_succ, Nat.mul_comm]
    have hpn : 2 ^ (V + 1) ≤ 2 ^ n := Nat.pow_le_pow_right (by decide) hnV
    have hp0 : 0 < 2 ^ V := Nat.pow_pos (by decide)
    refine cSkip (kSeqN ?_)
    refine cSeq ?_   -- seq 7
    refine cSeq ?_
    refine cRegion ?_
    refine sFA F30_0 rfl ?_
    refine sLd (v := nv n) A3 rfl g7 rfl ?_
    refine sMv (v := nv _) rfl ?_
    refine sBin (v := .bool false) (a := n) (b := V) rfl rfl (by rw [aInt_leq, decide_eq_false (by omega)]) ?_
    refine sMv (v := .bool false) rfl ?_
    refine sG rfl rfl ?_
    refine sFA F30_0 rfl ?_
    refine sG rfl rfl ?_
    refine sLd (v := nv n) A3 rfl g7 rfl ?_
    refine sG rfl rfl ?_
    refine sBin (v := .bool false) (a := n) (b := 12) rfl rfl (by rw [aInt_gtr, decide_eq_false (by omega)]) ?_
    refine sP (v := .bool false) rfl ?_
    refine sNil (kSeqN ?_)
    refine cCondF rfl ?_
    refine cSkip (kSeqN ?_)
    refine cSeq ?_
    refine cSeq ?_
    refine cRegion ?_
    refine sMv (v := nv _) rfl ?_
    refine sBin rfl rfl (aInt_add (b := 1) (by omega)) ?_
    refine sBin (v := nv (2 ^ (V + 1))) rfl rfl (by rw [aInt_shl (a := 1) (b := V + 1) (by omega), Nat.shiftLeft_eq, Nat.one_mul]) ?_
    refine sMv (v := nv 0) rfl ?_
    refine sNil (kSeqN ?_)
    refine cBlock ?_
    refine wpC_loop (fun k ρ m' => ∃ x, k = 2 ^ (V + 1) - x ∧ x ≤ 2 ^ (V + 1) ∧ Ext m7 m' ∧ Has ρ [(5, nv V), (6, .pointer (some ⟨m28.size, 0, none⟩)), (7, .pointer (some ⟨m32.size, 0, none⟩)), (57, nv (2 ^ (V + 1))), (58, nv x)]) ⟨0, rfl, Nat.zero_le _, .refl _, rfl, rfl, rfl, rfl, rfl, trivial⟩ ?_
    rintro k ρ m' ⟨x, rfl, hx, hE, hh⟩
    rw [hh.env]; clear hh
    refine cSeq ?_
    refine cRegion ?_
    refine sBin rfl rfl (aInt_lss) ?_
    refine sNil (kSeqN ?_)
    refine cSeq ?_   -- seq 12
    refine cCond rfl (fun c2 => ?_) (fun c2 => ?_)
    ·
      have hx4 : x < 2 ^ (V + 1) := c2
      have g7x := hE.cells g7
      have g6x := hE.cells g67
      have hBx := hB7.ext hE
      have oGx := o7.ext hE
      have hyV : x &&& (2 ^ V - 1) < 2 ^ V := Nat.lt_of_le_of_lt (Nat.and_le_right) (by omega)
      have hvy : valB (x &&& (2 ^ V - 1)) (9 + 1) e = valB x (9 + 1) e := val_cong hf _ _ fun j hj => mask_bit hj
      have hevE : evE (Int.ofNat V) (9 + 1) e (Int.ofNat (x &&& (2 ^ V - 1))) = 0 := by
        rw [evE, if_neg (fun h => h hgd), if_neg]
        rintro (h | h)
        · have h' : ((x &&& (2 ^ V - 1) : Nat) : Int) < 0 := h; omega
        · have h' : ((2 ^ V : Nat) : Int) ≤ ((x &&& (2 ^ V - 1) : Nat) : Int) := h; omega
      have hevV : evV (Int.ofNat V) (9 + 1) e (Int.ofNat (x &&& (2 ^ V - 1))) = valB x (9 + 1) e := by
        rw [evV, if_pos hevE]; exact hvy
      refine cSkip (kSeqN ?_)
      refine cSeq ?_
      refine cBlock ?_
      refine cSeq ?_
      refine cRegion ?_
      refine sMv (v := nv _) rfl ?_
      refine sAs (v := nv _) rfl ?_
      refine sNil (kSeqN ?_)
      refine cSeq ?_
      refine cRegion ?_
      refine sMv (v := nv _) rfl ?_
      refine sAs (v := nv _) rfl ?_
      refine sNil (kSeqN ?_)
      refine cSeq ?_
      refine cDraw rfl ?_
      refine sLdAll A66 S66 rfl g6x rfl ?_
      refine sMv (v := nv _) rfl ?_
      refine sMv (v := nv _) rfl ?_
      refine sMv (v := nv _) rfl ?_
      refine sBin (v := nv (2 ^ V)) rfl rfl (by rw [aInt_shl (a := 1) (b := V) (by omega), Nat.shiftLeft_eq, Nat.one_mul]) ?_
      refine sBin (v := nv (2 ^ V - 1)) rfl rfl (aInt_sub (a := 2 ^ V) (b := 1) (by omega)) ?_
      refine sBin (a := x) (b := 2 ^ V - 1) rfl rfl (aInt_and ⟨by omega, by omega⟩) ?_
      obtain ⟨v70, m70, h70, rfl, e70⟩ := spec_Eval (Int.ofNat V) (Int.ofNat (x &&& (2 ^ V - 1))) (9 + 1) (hW.ext (E7.trans hE)) hBx (by omega) (show ((x &&& (2 ^ V - 1) : Nat) : Int) < 9223372036854775808 by omega)
      rw [hevE, hevV] at h70
      refine sCall3 rfl call53 rfl rfl rfl h70 ?_
      refine sMv (v := .tuple _) rfl ?_
      refine sP (v := .bool (valB x (9 + 1) e)) rfl ?_
      refine sP (v := nv _) rfl ?_   -- extract ['t62', '1']
      refine sAs (v := .bool (valB x (9 + 1) e)) rfl ?_
      refine sAs (v := nv _) rfl ?_
      refine sNil (kSeqN ?_)
      refine cSeq ?_   -- seq 17
      refine cSeq ?_
      refine cRegion ?_
      refine sMv (v := nv _) rfl ?_
      refine sBin (v := .bool false) (a := 0) (b := 0) rfl rfl (neqF rfl) ?_
      refine sMv (v := .bool false) rfl ?_
      refine sG rfl rfl ?_
      refine sMv (v := .bool (valB x (9 + 1) e)) rfl ?_
      refine sG rfl rfl ?_
      refine sLdAll A66 S66 rfl (e70.cells g6x) rfl ?_
      refine sG rfl rfl ?_
      refine sMv (v := nv _) rfl ?_
      refine sG rfl rfl ?_
      obtain ⟨v79, m79, h79, rfl, e79⟩ := spec_true1 (Int.ofNat V) x (by omega) (9 + 1) (hBx.ext e70) hf
      refine sCall2 rfl call61 rfl rfl h79 ?_
      refine sG rfl rfl ?_
      refine sP (v := .bool false) (neBool (valB x (9 + 1) e)) ?_
      refine sP (v := .bool false) rfl ?_
      refine sNil (kSeqN ?_)
      refine cCondF rfl ?_
      refine cSkip (kSeqN ?_)
      refine cCut (fun ρ M => m79 = M ∧ Has ρ [(5, nv V), (6, .pointer (some ⟨m28.size, 0, none⟩)), (7, .pointer (some ⟨m32.size, 0, none⟩)), (9, nv x), (10, nv (if valB x (9 + 1) e then x ^^^ 2 ^ V else x)), (57, nv (2 ^ (V + 1))), (58, nv x)]) ?_ ?_
      ·
        refine cSeq ?_
        refine cRegion ?_
        refine sMv (v := .bool (decide (valB x (9 + 1) e = true))) (congrArg Value.bool (Bool.decide_eq_true).symm) ?_
        refine sNil (kSeqN ?_)
        refine cCond rfl (fun c4 => ?_) (fun c4 => ?_)
        ·
          refine cRegion ?_
          refine sMv (v := nv _) rfl ?_
          refine sMv (v := nv _) rfl ?_
          refine sBin (v := nv (2 ^ V)) rfl rfl (by rw [aInt_shl (a := 1) (b := V) (by omega), Nat.shiftLeft_eq, Nat.one_mul]) ?_
          refine sBin (a := x) (b := 2 ^ V) rfl rfl (aInt_xor ⟨by omega, by omega⟩) ?_
          refine sAs (v := nv _) rfl ?_
          refine sNil (kSeqN ?_)
          exact ⟨rfl, rfl, rfl, rfl, rfl, by rw [if_pos c4]; rfl, rfl, rfl, trivial⟩
        ·
          refine cSkip (kSeqN ?_)
          exact ⟨rfl, rfl, rfl, rfl, rfl, by rw [if_neg c4]; rfl, rfl, rfl, trivial⟩
      rintro ρ _ ⟨rfl, hh⟩
      rw [hh.env]; clear hh
      have E79 := e70.trans e79
      have hr1 := hrun x hx4
      have hwl : (if valB x (9 + 1) e then x ^^^ 2 ^ V else x) < 2 ^ (V + 1) := by
        split
        · exact Nat.xor_lt_two_pow hx4 (by omega)
        · exact hx4
      have hr2 := hrun _ hwl
      have hvw : valB (if valB x (9 + 1) e then x ^^^ 2 ^ V else x) (9 + 1) e = valB x (9 + 1) e := val_cong hf _ _ fun j hj => by
        split
        · exact flip_bit (by omega)
        · rfl
      have hr3 : runM Gs (if valB x (9 + 1) e then x ^^^ 2 ^ V else x) = x := by
        rw [hr2, hvw]
        by_cases hb : valB x (9 + 1) e = true
        · simp [hb, flip_two]
        · simp [hb]
      generalize (if valB x (9 + 1) e then x ^^^ 2 ^ V else x) = w at *
      refine cSeq ?_
      refine cRegion ?_
      refine sLdAll A30 S30 rfl (E79.cells g7x) rfl ?_
      refine sMv (v := nv _) rfl ?_
      obtain ⟨v90, m90, h90, rfl, e90⟩ := spec_Apply (hC.ext ((E7.trans hE).trans E79)) (oGx.ext E79) hcc (x := x) (by omega)
      rw [hr1] at h90
      refine sCall2 rfl call39 rfl rfl h90 ?_
      refine sMv (v := .tuple _) rfl ?_
      refine sP (v := nv _) rfl ?_   -- extract ['t87', '0']
      refine sP (v := nv _) rfl ?_   -- extract ['t87', '1']
      refine sAs (v := nv _) rfl ?_
      refine sAs (v := nv _) rfl ?_
      refine sNil (kSeqN ?_)
      refine cSeq ?_
      refine cRegion ?_
      refine sLdAll A30 S30 rfl ((E79.trans e90).cells g7x) rfl ?_
      refine sMv (v := nv _) rfl ?_
      obtain ⟨v96, m96, h96, rfl, e96⟩ := spec_Apply (hC.ext (((E7.trans hE).trans E79).trans e90)) ((oGx.ext E79).ext e90) hcc (x := w) (by omega)
      rw [hr3] at h96
      refine sCall2 rfl call39 rfl rfl h96 ?_
      refine sMv (v := .tuple _) rfl ?_
      refine sP (v := nv _) rfl ?_   -- extract ['t93', '0']
      refine sP (v := nv _) rfl ?_   -- extract ['t93', '1']
      refine sAs (v := nv _) rfl ?_
      refine sAs (v := nv _) rfl ?_
      refine sNil (kSeqN ?_)
      refine cSeq ?_
      refine cRegion ?_
      refine sMv (v := nv _) rfl ?_
      refine sBin (v := .bool false) (a := 0) (b := 0) rfl rfl (neqF rfl) ?_
      refine sMv (v := .bool false) rfl ?_
      refine sG rfl rfl ?_
      refine sMv (v := nv _) rfl ?_
      refine sG rfl rfl ?_
      refine sMv (v := nv _) rfl ?_
      refine sG rfl rfl ?_
      refine sBin (v := .bool false) (a := w) (b := w) rfl rfl (neqF rfl) ?_
      refine sP (v := .bool false) rfl ?_
      refine sMv (v := .bool false) rfl ?_
      refine sG rfl rfl ?_
      refine sMv (v := nv _) rfl ?_
      refine sG rfl rfl ?_
      refine sBin (v := .bool false) (a := 0) (b := 0) rfl rfl (neqF rfl) ?_
      refine sP (v := .bool false) rfl ?_
      refine sMv (v := .bool false) rfl ?_
      refine sG rfl rfl ?_
      refine sMv (v := nv _) rfl ?_
      refine sG rfl rfl ?_
      refine sMv (v := nv _) rfl ?_
      refine sG rfl rfl ?_
      refine sBin (v := .bool false) (a := x) (b := x) rfl rfl (neqF rfl) ?_
      refine sP (v := .bool false) rfl ?_
      refine sNil (kSeqN ?_)
      refine cCondF rfl ?_
      refine cSkip (kBlkN (kSeqN ?_))
      refine cRegion ?_
      refine sBin rfl rfl (aInt_add (b := 1) (by omega)) ?_
      refine sMv (v := nv _) rfl ?_
      refine sNil (kSeqN ?_)
      refine ⟨_, ?_, x + 1, rfl, by omega, ((hE.trans E79).trans e90).trans e96, rfl, rfl, rfl, rfl, rfl, trivial⟩
      omega
    ·
      skip
      have g7x := hE.cells g7
      have oGx := o7.ext hE
      refine cExit (kSeqE (kSeqE (kBlkS (kSeqN ?_))))
      refine cSeq ?_
      refine cRegion ?_
      refine sAs (v := .slice _ _ _) rfl ?_
      refine sNil (kSeqN ?_)
      refine cSeq ?_
      refine cSeq ?_
      refine cRegion ?_
      refine sMv (v := nv _) rfl ?_
      refine sBin (a := V) (b := 1) rfl rfl (aInt_add (by omega)) ?_
      refine sAs (v := nv _) rfl ?_
      refine sNil (kSeqN ?_)
      refine cBlock ?_
      refine wpC_loop (fun k ρ M => ∃ i v, k = n - (V + 1) - i ∧ i ≤ n - (V + 1) ∧ Ext m' M ∧ OwnF m'.size M v (ofs (List.range' (V + 1) i)) ∧ Has ρ [(7, .pointer (some ⟨m32.size, 0, none⟩)), (17, v), (18, nv (V + 1 + i))]) ⟨0, _, rfl, Nat.zero_le _, .refl _, .nil _ _, rfl, rfl, rfl, trivial⟩ ?_
      rintro k ρ M ⟨i, v, rfl, hi, hEM, hO, hh⟩
      obtain ⟨qv, cv, rfl⟩ := hO.ints.lenN
      rw [List.length_range'] at *
      rw [hh.env]; clear hh
      have hzM := hEM.1
      refine cSeq ?_   -- seq 27
      refine cSeq ?_
      refine cRegion ?_
      refine sMv (v := nv _) rfl ?_
      refine sFA F30_0 rfl ?_
      refine sLd (v := nv n) A3 rfl (hEM.cells g7x) rfl ?_
      refine sBin (a := V + 1 + i) (b := n) rfl rfl aInt_lss ?_
      refine sNil (kSeqN ?_)
      refine cCond rfl (fun c6 => ?_) (fun c6 => ?_)
      ·
        refine cSkip (kSeqN ?_)
        refine cSeq ?_
        refine cBlock ?_
        refine cRegion ?_
        refine sMv (v := .slice _ _ _) rfl ?_
        refine sMv (v := nv _) rfl ?_
        refine sBuildS T22 S3 Z3 (by decide) (by decide) (by decide) (by kernel_rfl) fill1 rfl ?_
        refine sApp App22 rfl rfl (N := m'.size) (hO.ext (.push _ _)) one_ints (by simp; omega) (by simp; omega) fun v3 m3 hO3 hL3 => ?_
        rw [show ofs (List.range' (V + 1) i) ++ [Int.ofNat (V + 1 + i)] = ofs (List.range' (V + 1) (i + 1)) by rw [List.range'_concat, ofs_append, Nat.one_mul]; rfl] at hO3
        obtain ⟨q3, cp3, rfl⟩ := hO3.ints.lenN
        refine sAs (v := .slice _ _ _) rfl ?_
        refine sNil (kBlkN (kSeqN ?_))
        refine cRegion ?_
        refine sMv (v := nv _) rfl ?_
        refine sBin rfl rfl (aInt_add (b := 1) (by omega)) ?_
        refine sAs (v := nv _) rfl ?_
        refine sNil (kSeqN ?_)
        refine ⟨_, ?_, i + 1, _, rfl, by omega, Low.to_ext (hEM.trans (.push _ _)) hL3 (Nat.le_refl _), hO3, rfl, rfl, rfl, trivial⟩
        omega
      ·
        obtain rfl : i = n - (V + 1) := by omega
        have hnd : (List.range' (V + 1) (n - (V + 1))).Nodup := List.nodup_range'
        refine cExit (kSeqE (kSeqE (kBlkS (kSeqN ?_))))
        refine cSeq ?_
        refine cRegion ?_
        refine sLdAll A30 S30 rfl (hEM.cells g7x) rfl ?_
        refine sMv (v := .slice _ _ _) rfl ?_
        obtain ⟨v131, m131, h131, rfl, e131⟩ := spec_CleanX (hC.ext ((E7.trans hE).trans hEM)) (oGx.ext hEM) hcc hO.ints (fun y hy => by rw [List.mem_range'_1] at hy; omega) hnd
        rw [clean_none hnV hrun] at h131
        refine sCall2 rfl call46 rfl rfl h131 ?_
        refine sMv (v := .tuple _) rfl ?_
        refine sP (v := nv _) rfl ?_   -- extract ['t128', '0']
        refine sP (v := nv _) rfl ?_   -- extract ['t128', '1']
        refine sAs (v := nv _) rfl ?_
        refine sAs (v := nv _) rfl ?_
        refine sNil (kSeqN ?_)
        refine cSeq ?_
        refine cRegion ?_
        refine sMv (v := nv _) rfl ?_
        refine sBin (v := .bool true) (a := 6) (b := 6) rfl rfl (eqlT rfl) ?_
        refine sMv (v := .bool true) rfl ?_
        refine sG rfl rfl ?_
        obtain ⟨v137, m137, h137, rfl, e137⟩ := spec_awake (hC.ext (((E7.trans hE).trans hEM).trans e131)) (hW.ext (((E7.trans hE).trans hEM).trans e131))
        refine sCall0 rfl call14 h137 ?_
        refine sP (v := .bool true) rfl ?_
        refine sAs (v := .bool _) rfl ?_
        refine sNil (kSeqN ?_)
        refine cRet ?_
        exact ⟨.inr rfl, _, rfl, rfl, (((E7.trans hE).trans hEM).trans e131).trans e137⟩
end Go.AM

/-! ### F50 -/
namespace Go.AM
open Go.Proofs Go.Proofs.YtdokoekgdeebpaaDoor Go.ChangeShapes
set_option maxRecDepth 100000
set_option linter.unusedVariables false
set_option linter.unusedSimpArgs false
theorem gSize : Tryd.prog.globals.size = 3 := by kernel_rfl
theorem u4 : Tryd.prog.underlying 4 = some .bool := by kernel_rfl
theorem u5 : Tryd.prog.underlying 5 = some (.int .u8) := by kernel_rfl
theorem var_block {P : Program} {w : World} {n : String} {g : Nat} {cs : Array Value} (hg : P.globalNamed n = some g) (h : w.var? P n = some cs) : ∃ t fz, w.heap[g]? = some (.cells cs t fz) := by
  simp only [World.var?, hg, Option.bind_some] at h
  split at h
  · rename_i c t fz e
    injection h with h; subst h
    exact ⟨t, fz, e⟩
  · cases h
theorem gCla : Tryd.prog.globalNamed "spoondrift/rev.classical" = some 1 := by kernel_rfl
theorem tCla : (Tryd.prog.globals[1]?).map (·.type) = some 129 := by kernel_rfl
theorem u3 : Tryd.prog.underlying 3 = some (.int .i64) := by kernel_rfl
theorem u98 : Tryd.prog.underlying 98 = some (.func #[3, 22] #[3] false) := by kernel_rfl
theorem u127 : Tryd.prog.underlying 127 = some (.struct #[{ name := "controls", type := 3, offset := 0, embedded := false, tag := "", pkgPath := "spoondrift/rev", byteOffset := 0 }, { name := "does", type := 98, offset := 1, embedded := false, tag := "", pkgPath := "spoondrift/rev", byteOffset := 8 }]) := by kernel_rfl
theorem u129 : Tryd.prog.underlying 129 = some (.map 3 127) := by kernel_rfl
theorem hc3 : Tryd.prog.cellsOf 3 = 1 := by kernel_rfl
theorem hc98 : Tryd.prog.cellsOf 98 = 1 := by kernel_rfl
theorem hc127 : Tryd.prog.cellsOf 127 = 2 := by kernel_rfl
def tokT : List UInt8 := [115, 112, 111, 111, 110, 100, 114, 105, 102, 116, 47, 114, 101, 118, 46, 116, 117, 114, 110, 101, 100]
def tokS : List UInt8 := [115, 112, 111, 111, 110, 100, 114, 105, 102, 116, 47, 114, 101, 118, 46, 115, 119, 97, 112, 112, 101, 100]
theorem oneT : ((List.range Tryd.prog.funcs.size).filter fun f => (Tryd.prog.funcs[f]?).any (·.name.toUTF8.data.toList == tokT)) = [76] := by kernel_rfl
theorem oneS : ((List.range Tryd.prog.funcs.size).filter fun f => (Tryd.prog.funcs[f]?).any (·.name.toUTF8.data.toList == tokS)) = [181] := by kernel_rfl
/-- A kind's entry: how many controls, what it does. -/
theorem entry_kind {w : World} {n : Nat} {c : Int} {q : FuncId} {tk : List UInt8} (ht : (tk = tokT ∧ q = 76) ∨ (tk = tokS ∧ q = 181)) {cs : List Value} {y : DataW (List UInt8) × List MemPlace}
    (h : DataW.trod (funcToken Tryd.prog) Tryd.prog w 0 (fun _ => true) true n 127 cs = some y) (hy : y.1 = .agg [.lit (.int .i64 c), .held tk]) : cs = [.int .i64 c, .func (.func q) #[] #[]] := by
  obtain ⟨xs, m, rfl, hx, hl, hn, hel⟩ := DataW.trod_struct u127 h
  have h0 := hel 0 _ rfl
  have h1 := hel 1 _ rfl
  rw [hx] at hy
  simp only [DataW.agg.injEq] at hy
  rw [hc127] at hl
  match cs, hl with
  | [a, b], _ =>
    match xs, hn, hy, h0, h1 with
    | [e0, e1], _, hy, h0, h1 =>
      simp only [List.map_cons, List.map_nil, List.cons.injEq, and_true] at hy
      have h2 : DataW.trod (funcToken Tryd.prog) Tryd.prog w 0 (fun _ => true) true m 3 [a] = some (.lit (.int .i64 c), e0.2) := by
        rw [← hy.1]; simpa [hc3] using h0
      have h3 : DataW.trod (funcToken Tryd.prog) Tryd.prog w 0 (fun _ => true) true m 98 [b] = some (.held tk, e1.2) := by
        rw [← hy.2]; simpa [hc98] using h1
      have hb : b = .func (.func q) #[] #[] := by
        rcases ht with ⟨rfl, rfl⟩ | ⟨rfl, rfl⟩
        · exact func_of_trod u98 oneT h3
        · exact func_of_trod u98 oneS h3
      subst hb
      cases m with
      | zero => simp [DataW.trod] at h2
      | succ m =>
        rw [DataW.trod_step] at h2
        unfold DataW.trodStep at h2
        rw [u3] at h2
        cases a <;> simp at h2
        simp_all
def claD : DataW Unit := .map [(.int .i64 1, .agg [.lit (.int .i64 0), .iface "func" (.lit (.string tokT))]), (.int .i64 9, .agg [.lit (.int .i64 1), .iface "func" (.lit (.string tokT))]), (.int .i64 11, .agg [.lit (.int .i64 0), .iface "func" (.lit (.string tokS))]), (.int .i64 12, .agg [.lit (.int .i64 2), .iface "func" (.lit (.string tokT))])]
/-- One of the table's entries. -/
def IsKind (k v : Value) : Prop := (k = .int .i64 1 ∧ v = .agg #[.int .i64 0, .func (.func 76) #[] #[]]) ∨ (k = .int .i64 9 ∧ v = .agg #[.int .i64 1, .func (.func 76) #[] #[]]) ∨ (k = .int .i64 11 ∧ v = .agg #[.int .i64 0, .func (.func 181) #[] #[]]) ∨ (k = .int .i64 12 ∧ v = .agg #[.int .i64 2, .func (.func 76) #[] #[]])
theorem mem_fold {x : Lit × DataW (List UInt8)} : ∀ {l : List (Lit × DataW (List UInt8))}, x ∈ l.foldr DataW.insert [] ↔ x ∈ l
  | [] => by simp
  | y :: l => by
    rw [List.foldr_cons, Go.ChangeMaps.mem_insert_iff, mem_fold, List.mem_cons]
theorem open_kinds {w : World} (h : funcsAt Tryd.prog w "spoondrift/rev.classical" claD) :
    ∃ c t fz b es clk, w.heap[1]? = some (.cells c t fz) ∧ c[0]? = some (.map (some b)) ∧ w.heap[b]? = some (.map es clk) ∧ (∀ x ∈ es.toList, IsKind x.key x.val) ∧ ∀ k, (k = 1 ∨ k = 9 ∨ k = 12) → ∃ x ∈ es.toList, x.key = .int .i64 k := by
  obtain ⟨g, t, cs, fuel, p, hg, ht, hc, hd⟩ := h
  obtain rfl := Option.some.inj (gCla.symm.trans hg)
  obtain rfl := Option.some.inj (tCla.symm.trans ht)
  obtain ⟨ty, fz, hb0⟩ := var_block hg hc
  have hout : claD.funcsOut = .map [(.int .i64 1, .agg [.lit (.int .i64 0), .held tokT]), (.int .i64 9, .agg [.lit (.int .i64 1), .held tokT]), (.int .i64 11, .agg [.lit (.int .i64 0), .held tokS]), (.int .i64 12, .agg [.lit (.int .i64 2), .held tokT])] := by rfl
  rw [hout] at hd
  rcases Go.WideElems.open_map u129 hd with ⟨_, h2⟩ | ⟨b, es, clk, n, _, hcs, hb, _, F, hx⟩
  · simp at h2
  simp only [Prod.mk.injEq, DataW.map.injEq] at hx
  have hx1 := hx.1
  have hmem : ∀ z, z ∈ es.toList.map (Go.WideElems.rg Tryd.prog 3 (Go.WideElems.elemAt (funcToken Tryd.prog) Tryd.prog w 0 (fun _ => true) true n 127)) ↔ z ∈ [((.int .i64 1 : Lit), (.agg [.lit (.int .i64 0), .held tokT] : DataW (List UInt8))), (.int .i64 9, .agg [.lit (.int .i64 1), .held tokT]), (.int .i64 11, .agg [.lit (.int .i64 0), .held tokS]), (.int .i64 12, .agg [.lit (.int .i64 2), .held tokT])] := fun z => by
    rw [hx1, mem_fold]
  have key : ∀ x ∈ es.toList, ∀ (k c : Int) (tk : List UInt8) (q : FuncId), ((tk = tokT ∧ q = 76) ∨ (tk = tokS ∧ q = 181)) → Go.WideElems.rg Tryd.prog 3 (Go.WideElems.elemAt (funcToken Tryd.prog) Tryd.prog w 0 (fun _ => true) true n 127) x = (.int .i64 k, .agg [.lit (.int .i64 c), .held tk]) → x.key = .int .i64 k ∧ x.val = .agg #[.int .i64 c, .func (.func q) #[] #[]] := by
    intro x hx k c tk q htk hr
    obtain ⟨y, hy⟩ := F.reads x hx
    rw [Go.WideElems.rg_of hy] at hr
    subst hr
    have h1 := Go.WideElems.rd_key hy
    obtain ⟨z, hz, h2⟩ := Go.WideElems.rd_val hy
    refine ⟨?_, ?_⟩
    · simp only [keyOf, u3, mapKey] at h1
      split at h1 <;> simp_all
    · simp only [Go.WideElems.elemAt] at hz
      split at hz
      · rename_i hf
        have := entry_kind htk hz h2.symm
        cases hv : x.val with
        | agg cs2 =>
          rw [hv] at this
          have e : cs2.toList = [.int .i64 c, .func (.func q) #[] #[]] := this
          obtain ⟨l⟩ := cs2
          simp only at e
          subst e; rfl
        | _ => rw [hv] at hf; simp [Value.formed, u127] at hf
      · cases hz
  have hcs0 : cs[0]? = some (.map (some b)) := by
    have := congrArg (·[0]?) hcs
    simpa using this
  refine ⟨cs, ty, fz, b, es, clk, hb0, hcs0, hb, fun x hx => ?_, fun k hk => ?_⟩
  · have h1 := (hmem _).1 (List.mem_map.2 ⟨x, hx, rfl⟩)
    simp only [List.mem_cons, List.not_mem_nil, or_false] at h1
    rcases h1 with h1 | h1 | h1 | h1
    · exact .inl (key x hx _ _ _ 76 (.inl ⟨rfl, rfl⟩) h1)
    · exact .inr (.inl (key x hx _ _ _ 76 (.inl ⟨rfl, rfl⟩) h1))
    · exact .inr (.inr (.inl (key x hx _ _ _ 181 (.inr ⟨rfl, rfl⟩) h1)))
    · exact .inr (.inr (.inr (key x hx _ _ _ 76 (.inl ⟨rfl, rfl⟩) h1)))
  · have : ∃ c : Int, ((.int .i64 k : Lit), (.agg [.lit (.int .i64 c), .held tokT] : DataW (List UInt8))) ∈ [((.int .i64 1 : Lit), (.agg [.lit (.int .i64 0), .held tokT] : DataW (List UInt8))), (.int .i64 9, .agg [.lit (.int .i64 1), .held tokT]), (.int .i64 11, .agg [.lit (.int .i64 0), .held tokS]), (.int .i64 12, .agg [.lit (.int .i64 2), .held tokT])] := by
      rcases hk with rfl | rfl | rfl
      · exact ⟨0, by simp⟩
      · exact ⟨1, by simp⟩
      · exact ⟨2, by simp⟩
    obtain ⟨c, hm⟩ := this
    obtain ⟨x, hx, hr⟩ := List.mem_map.1 ((hmem _).2 hm)
    exact ⟨x, hx, (key x hx _ _ _ 76 (.inl ⟨rfl, rfl⟩) hr).1⟩
theorem cla_data : (Rows.laid_spoondrift_rev_classical : DataW Unit) = .iface "func table" claD := by rfl
/-- An array of numbers that is read. -/
theorem open_nums {H : Type} {enc : TypeId × Value → H} {P : Program} {w : World} {sp : Nat → Bool} {held : Bool} {t e n fuel : Nat} {k : IntKind} {cs : List Value} {ds : List (DataW H)} {p : List MemPlace}
    (ht : P.underlying t = some (.array n e)) (he : P.underlying e = some (.int k)) (hc : P.cellsOf e = 1) (h : DataW.trod enc P w 0 sp held fuel t cs = some (.agg ds, p)) {i : Nat} {v : Int} (hi : ds[i]? = some (.lit (.int k v))) :
    cs[i]? = some (.int k v) := by
  obtain ⟨xs, m, rfl, hx, hl, hn, hel⟩ := DataW.trod_array ht h
  simp only [Prod.mk.injEq, DataW.agg.injEq] at hx
  obtain ⟨rfl, _⟩ := hx
  rw [List.getElem?_map, Option.map_eq_some_iff] at hi
  obtain ⟨y, hy, hy1⟩ := hi
  have hin : i < n := by rw [← hn]; exact (List.getElem?_eq_some_iff.1 hy).1
  have h0 := hel i hin
  rw [hy, hc, Nat.mul_one] at h0
  obtain ⟨q, e1, e2, _⟩ := DataW.trod_int he h0
  have e3 : q = v := by
    rw [e2] at hy1
    simpa using hy1
  subst e3
  have := congrArg (·[0]?) e1
  simpa [List.getElem?_take, List.getElem?_drop] using this
theorem gWan : Tryd.prog.globalNamed "spoondrift/rev.wants" = some 2 := by kernel_rfl
theorem tWan : (Tryd.prog.globals[2]?).map (·.type) = some 108 := by kernel_rfl
theorem u108 : Tryd.prog.underlying 108 = some (.array 8 3) := by kernel_rfl
def wanL : List Nat := [0, 0, 1, 2, 2, 2, 0, 0]
def laid1 : List (String × DataW Unit) := [("spoondrift/rev.classical", Rows.laid_spoondrift_rev_classical), ("spoondrift/rev.wants", Rows.laid_spoondrift_rev_wants)]
theorem wan_data : (Rows.laid_spoondrift_rev_wants : DataW Unit) = .agg (wanL.map fun x => .lit (.int .i64 (Int.ofNat x))) := by rfl
theorem of_laid0 {w : World} (h : laidMetH Tryd.prog laid1 w) : ∃ c t fz b es clk, w.heap[1]? = some (.cells c t fz) ∧ c[0]? = some (.map (some b)) ∧ w.heap[b]? = some (.map es clk) ∧ (∀ x ∈ es.toList, IsKind x.key x.val) ∧ ∀ k, (k = 1 ∨ k = 9 ∨ k = 12) → ∃ x ∈ es.toList, x.key = .int .i64 k :=
  open_kinds (h.funcs (n := "spoondrift/rev.classical") (by rw [← cla_data]; simp [laid1]))
theorem of_laid {w : World} (h : laidMetH Tryd.prog laid1 w) : ∃ c t fz, w.heap[2]? = some (.cells c t fz) ∧ ∀ (i x : Nat), wanL[i]? = some x → c[i]? = some (Value.int .i64 (Int.ofNat x)) := by
  have h1 : laidMet Tryd.prog [("spoondrift/rev.wants", Rows.laid_spoondrift_rev_wants)] w := by
    have e1 : laid1.filter (fun x => x.2.handleName?.isSome) = [("spoondrift/rev.classical", Rows.laid_spoondrift_rev_classical)] := by rfl
    have e2 : laid1.filter (fun x => x.2.handleName?.isNone) = [("spoondrift/rev.wants", Rows.laid_spoondrift_rev_wants)] := by rfl
    unfold laidMetH at h
    rw [e1, e2] at h
    exact h.1
  obtain ⟨ps, ⟨g1, t1, cs1, f1, p1, q1, hg1, ht1, hv1, hd1, _, _⟩, _, _⟩ := h1
  obtain rfl := Option.some.inj (gWan.symm.trans hg1)
  obtain rfl := Option.some.inj (tWan.symm.trans ht1)
  obtain ⟨ty, fz, hb⟩ := var_block hg1 hv1
  refine ⟨cs1, ty, fz, hb, fun i x hx => ?_⟩
  rw [wan_data] at hd1
  have := open_nums (i := i) (v := Int.ofNat x) u108 u3 hc3 hd1 (by rw [List.getElem?_map, hx]; rfl)
  simpa using this
end Go.AM

/-! ### F51 -/
namespace Go.AM
open Go.Proofs Go.Proofs.YtdokoekgdeebpaaDoor Go.RowKit
set_option maxRecDepth 100000
set_option linter.unusedVariables false
/-- An argument's block: where it lies, and its abstract cells (each stands for the machine's cell at the same place), or the entries of a map. -/
structure Arg0 where
  blk : Nat
  off : Nat
  cap : Nat
  cs : Array Value
  es : Option (List (Value × Value))
def arg0 : Arg0 := ⟨0, 0, 0, #[], none⟩
def Arg0.obj (a : Arg0) : AObj := match a.es with
  | none => .cells false a.cs
  | some es => .map false es
theorem Arg0.obj_rw (a : Arg0) : a.obj.rw = false := by
  unfold Arg0.obj; split <;> rfl
def wanCs : Array Value := #[nv 0, nv 0, nv 1, nv 2, nv 2, nv 2, nv 0, nv 0]
def mem0 (A : List Arg0) : Mem := (AObj.dead :: AObj.cells false #[.map (some 3)] :: AObj.cells false wanCs :: A.map Arg0.obj).toArray
def beta0 (A : List Arg0) : Beta where
  blk i := if i < 3 then i else (A.getD (i - 3) arg0).blk
  sh i := if i < 3 then 0 else (A.getD (i - 3) arg0).off
  cap i := if i < 3 then 1000000 else (A.getD (i - 3) arg0).off + max (A.getD (i - 3) arg0).cs.size (A.getD (i - 3) arg0).cap
/-- What is known of an argument's cells, all arguments' places being known. -/
def Arg0.ok (W : World) (A : List Arg0) (a : Arg0) : Prop :=
  (a.es = none → ∃ c t fz, W.heap[a.blk]? = some (.cells c t fz) ∧ ∀ (i : Nat) v, a.cs[i]? = some v → ∃ v', c[a.off + i]? = some v' ∧ VRel (beta0 A) (3 + A.length) v v') ∧
  ∀ es, a.es = some es → ∃ es' clk, W.heap[a.blk]? = some (.map es' clk) ∧ es'.size = es.length ∧ ∀ (i : Nat) x e', es[i]? = some x → es'[i]? = some e' → VRel (beta0 A) (3 + A.length) x.1 e'.key ∧ VRel (beta0 A) (3 + A.length) x.2 e'.val
theorem mem0_size (A : List Arg0) : (mem0 A).size = 3 + A.length := by simp [mem0]; omega
theorem mem0_get (A : List Arg0) (i : Nat) : Mem.get (mem0 A) i = if i = 0 then .dead else if i = 1 then .cells false #[.map (some 3)] else if i = 2 then .cells false wanCs else if h : i - 3 < A.length then (A[i - 3]).obj else .dead := by
  unfold Mem.get mem0
  rw [Array.getD_eq_getD_getElem?, List.getElem?_toArray]
  match i with
  | 0 => rfl
  | 1 => rfl
  | 2 => rfl
  | i + 3 =>
    rw [if_neg (by omega), if_neg (by omega), if_neg (by omega)]
    simp only [List.getElem?_cons_succ, Nat.add_sub_cancel, List.getElem?_map]
    by_cases h : i < A.length
    · rw [dif_pos h, List.getElem?_eq_getElem h]; rfl
    · rw [dif_neg h, List.getElem?_eq_none (by omega)]; rfl
theorem globW0 (A : List Arg0) : GlobW (mem0 A) := ⟨false, by rw [mem0_get]; rfl⟩
/-- The table of kinds: its block, its entries. -/
structure Kinds (W : World) (a : Arg0) : Prop where
  glob : ∃ c t fz, W.heap[1]? = some (.cells c t fz) ∧ c[0]? = some (.map (some a.blk))
  es : ∃ es, a.es = some es ∧ (∀ x ∈ es, IsKind x.1 x.2) ∧ ∀ k, (k = 1 ∨ k = 9 ∨ k = 12) → ∃ x ∈ es, x.1 = .int .i64 k
  ok : ∀ A, a.ok W A
theorem flat_kind {β : Beta} {N : Nat} {c : Int} {q : FuncId} : VRel β N (.agg #[.int .i64 c, .func (.func q) #[] #[]]) (.agg #[.int .i64 c, .func (.func q) #[] #[]]) := by
  refine .agg _ _ rfl fun i v v' h h' => ?_
  match i with
  | 0 => simp at h h'; subst h h'; exact .int _ _
  | 1 => simp at h h'; subst h h'; exact .func _ _ _ _ _ rfl (fun i v v' h => by simp at h) rfl (fun i v v' h => by simp at h)
  | i + 2 => simp at h
theorem kinds_ex {W : World} (hL : laidMetH Tryd.prog laid1 W) : ∃ a, Kinds W a := by
  obtain ⟨c, t, fz, b, es, clk, h0, h1, h2, h3, h4⟩ := of_laid0 hL
  refine ⟨⟨b, 0, 0, #[], some (es.toList.map fun x => (x.key, x.val))⟩, ⟨c, t, fz, h0, h1⟩, ⟨_, rfl, fun x hx => ?_, fun k hk => ?_⟩, fun A => ⟨fun h => (by cases h), fun es2 he => ?_⟩⟩
  · obtain ⟨y, hy, rfl⟩ := List.mem_map.1 hx
    exact h3 y hy
  · obtain ⟨y, hy, e⟩ := h4 k hk
    exact ⟨_, List.mem_map.2 ⟨y, hy, rfl⟩, e⟩
  · cases he
    refine ⟨es, clk, h2, by simp, fun i x e' hx he' => ?_⟩
    rw [List.getElem?_map, Array.getElem?_toList, he'] at hx
    cases hx
    have := h3 e' (by rw [← Array.mem_def]; exact Array.mem_of_getElem? he')
    rcases this with ⟨e1, e2⟩ | ⟨e1, e2⟩ | ⟨e1, e2⟩ | ⟨e1, e2⟩ <;> (simp only [e1, e2]; exact ⟨.int _ _, flat_kind⟩)
theorem sameI (a b : Int) : Instr.sameNow (.int .i64) (.int .i64 a) (.int .i64 b) = some (decide (a = b)) := by
  by_cases h : a = b
  · subst h; simp [Instr.sameNow]
  · simp [Instr.sameNow, h]
theorem find_kind {k : Nat} (hk : k = 1 ∨ k = 9 ∨ k = 12) : ∀ {es : List (Value × Value)} (i : Nat), (∀ x ∈ es, IsKind x.1 x.2) → (∃ x ∈ es, x.1 = .int .i64 (Int.ofNat k)) → ∃ j c, aFindNow (.int .i64) (nv k) es i = some (some (j, .agg #[nv c, .func (.func 76) #[] #[]]))
  | [], i, _, ⟨x, hx, _⟩ => by cases hx
  | e :: es, i, h1, h2 => by
    have hk1 := h1 e (by simp)
    obtain ⟨z, hz⟩ : ∃ z, e.1 = .int .i64 z := by rcases hk1 with h | h | h | h <;> exact ⟨_, h.1⟩
    rw [aFindNow, hz, nv, sameI]
    by_cases e1 : Int.ofNat k = z
    · subst e1
      rw [decide_eq_true rfl]
      rcases hk1 with ⟨a, b⟩ | ⟨a, b⟩ | ⟨a, b⟩ | ⟨a, b⟩
      · exact ⟨i, 0, by rw [b]; rfl⟩
      · exact ⟨i, 1, by rw [b]; rfl⟩
      · rw [hz] at a
        have := (Value.int.inj a).2
        simp at this; omega
      · exact ⟨i, 2, by rw [b]; rfl⟩
    · rw [decide_eq_false e1]
      refine find_kind hk (i + 1) (fun x hx => h1 x (by simp [hx])) ?_
      obtain ⟨x, hx, e2⟩ := h2
      rcases List.mem_cons.1 hx with rfl | hx
      · rw [hz] at e2; exact absurd (Value.int.inj e2).2.symm e1
      · exact ⟨x, hx, e2⟩
theorem globC0 {W : World} {a : Arg0} (h : Kinds W a) {A : List Arg0} (hA : A[0]? = some a) : GlobC (mem0 A) := by
  obtain ⟨es, he, h1, h2⟩ := h.es
  obtain ⟨hl, e0⟩ := List.getElem?_eq_some_iff.1 hA
  refine ⟨false, 3, false, es, by rw [mem0_get]; rfl, ?_, fun k hk => find_kind hk 0 h1 ?_⟩
  · rw [mem0_get, if_neg (by omega), if_neg (by omega), if_neg (by omega), dif_pos (by omega)]
    rw [show A[3 - 3] = a from e0, Arg0.obj, he]
  · exact h2 (Int.ofNat k) (by rcases hk with rfl | rfl | rfl <;> simp)
theorem rel0 {W : World} (hL : laidMetH Tryd.prog laid1 W) {A : List Arg0} {a0 : Arg0} (hK : Kinds W a0) (hA0 : A[0]? = some a0) (hA : ∀ a ∈ A, a.ok W A) : Rel Tryd.prog (beta0 A) (mem0 A) W := by
  obtain ⟨c, t, fz, h0, hc0⟩ := of_laid hL
  obtain ⟨ck, tk, fk, k0, k1⟩ := hK.glob
  obtain ⟨hl0, e0⟩ := List.getElem?_eq_some_iff.1 hA0
  refine ⟨by rw [mem0_size, gSize]; omega, fun g hg => ?_, fun i hi => ?_, fun i j _ hr _ => ?_⟩
  · rw [gSize] at hg
    exact ⟨if_pos hg, if_pos hg⟩
  · rw [mem0_get] at hi ⊢
    by_cases ez : i = 0
    · rw [if_pos ez] at hi; cases hi
    rw [if_neg ez] at hi ⊢
    by_cases ei : i = 1
    · subst ei
      rw [if_pos rfl] at hi ⊢
      refine ⟨_, k0, ck, tk, fk, rfl, by simp [beta0], fun j v hj => ?_, fun h => by cases h⟩
      match j with
      | 0 =>
        simp at hj; subst hj
        refine ⟨_, by simpa [beta0] using k1, ?_⟩
        have hb : (beta0 A).blk 3 = a0.blk := by
          simp only [beta0]; rw [if_neg (by omega), List.getD_eq_getElem?_getD, hA0]; rfl
        rw [← hb]
        exact .map _ (by rw [mem0_size]; omega)
      | j + 1 => simp at hj
    rw [if_neg ei] at hi ⊢
    by_cases e1 : i = 2
    · subst e1
      rw [if_pos rfl] at hi ⊢
      refine ⟨_, h0, c, t, fz, rfl, by simp [beta0, wanCs], fun j v hj => ?_, fun h => by cases h⟩
      have hj8 := (Array.getElem?_eq_some_iff.1 hj).1
      have hj8' : j < 8 := hj8
      obtain ⟨x, hx⟩ : ∃ x, wanL[j]? = some x := ⟨_, List.getElem?_eq_getElem hj8'⟩
      have hv : v = nv x := by
        have hall : ∀ j < 8, wanCs[j]? = (wanL[j]?).map fun x => nv x := by
          intro j hj
          match j, hj with
          | 0, _ => rfl
          | 1, _ => rfl
          | 2, _ => rfl
          | 3, _ => rfl
          | 4, _ => rfl
          | 5, _ => rfl
          | 6, _ => rfl
          | 7, _ => rfl
        rw [hall j hj8', hx] at hj
        exact (Option.some.inj hj).symm
      subst hv
      exact ⟨_, by simpa [beta0] using hc0 j x hx, .int _ _⟩
    rw [if_neg e1] at hi ⊢
    by_cases e4 : i - 3 < A.length
    · rw [dif_pos e4] at hi ⊢
      obtain ⟨o1, o2⟩ := hA _ (List.getElem_mem e4)
      have hb : (beta0 A).blk i = (A[i - 3]).blk := by
        simp only [beta0]; rw [if_neg (by omega), List.getD_eq_getElem?_getD, List.getElem?_eq_getElem e4]; rfl
      have hsh : (beta0 A).sh i = (A[i - 3]).off := by
        simp only [beta0]; rw [if_neg (by omega), List.getD_eq_getElem?_getD, List.getElem?_eq_getElem e4]; rfl
      have hcp : (beta0 A).cap i = (A[i - 3]).off + max (A[i - 3]).cs.size (A[i - 3]).cap := by
        simp only [beta0]; rw [if_neg (by omega), List.getD_eq_getElem?_getD, List.getElem?_eq_getElem e4]; rfl
      cases hes : (A[i - 3]).es with
      | none =>
        obtain ⟨c, t, fz, g1, g2⟩ := o1 hes
        rw [Arg0.obj, hes]
        refine ⟨_, by rw [hb]; exact g1, c, t, fz, rfl, by rw [hsh, hcp]; omega, fun j v hj => ?_, fun h => by cases h⟩
        obtain ⟨v', q1, q2⟩ := g2 j v hj
        exact ⟨v', by rw [hsh]; exact q1, by rw [mem0_size]; exact q2⟩
      | some es =>
        obtain ⟨es', clk, g1, g2, g3⟩ := o2 es hes
        rw [Arg0.obj, hes]
        exact ⟨_, by rw [hb]; exact g1, es', clk, rfl, g2, fun i x e' hx he => by rw [mem0_size]; exact g3 i x e' hx he, fun h => by cases h⟩
    · rw [dif_neg e4] at hi; cases hi
  · rw [mem0_get] at hr
    split at hr
    · cases hr
    split at hr
    · cases hr
    split at hr
    · cases hr
    split at hr
    · rw [Arg0.obj_rw] at hr; cases hr
    · cases hr
theorem arel_nil {β : Beta} {N : Nat} : ARel β N #[] #[] := ⟨rfl, fun i v v' h => by simp at h⟩
theorem arel_cons {β : Beta} {N : Nat} {v v' : Value} {l l' : List Value} (hv : VRel β N v v') (h : ARel β N l.toArray l'.toArray) : ARel β N (v :: l).toArray (v' :: l').toArray := by
  refine ⟨by have := h.1; simp at this ⊢; exact this, fun i x x' h1 h2 => ?_⟩
  cases i with
  | zero => simp at h1 h2; subst h1 h2; exact hv
  | succ i => exact h.2 i x x' (by simpa using h1) (by simpa using h2)
/-- From the abstract call to the machine's. -/
theorem entry {f : FuncId} {args args' : Array Value} {W : World} {A : List Arg0} (hL : laidMetH Tryd.prog laid1 W) {a0 : Arg0} (hK : Kinds W a0) (hA0 : A[0]? = some a0) (hA : ∀ a ∈ A, a.ok W A)
    (hargs : ARel (beta0 A) (3 + A.length) args args') (hc : ∃ v m', ACalls Tryd.prog f args (mem0 A) v m' ∧ v = .bool true) :
    Calls Tryd.prog f args' W fun e W' => e = .returned (.bool true) ∧ Below W.heap.size W W' := by
  have hR := rel0 hL hK hA0 hA
  obtain ⟨v, m', hcall, rfl⟩ := hc
  refine (hcall.2 _ W args' hR (by rw [mem0_size]; exact hargs)).mono ?_
  rintro e W' ⟨v', rfl, β', hv, _, hS⟩
  cases hv
  refine ⟨rfl, hS.os, hS.tape, hS.output, hS.wsz, fun k hk => hS.keep k hk fun i hi => ?_⟩
  rw [mem0_get] at hi
  split at hi
  · cases hi
  split at hi
  · cases hi
  split at hi
  · cases hi
  split at hi
  · rw [Arg0.obj_rw] at hi; cases hi
  · cases hi
end Go.AM

/-! ### R32 -/
namespace Go.AM
open Go.Proofs
set_option maxRecDepth 100000
set_option linter.unusedVariables false
set_option linter.unusedSimpArgs false
end Go.AM

/-! ### F52 -/
namespace Go.AM
open Go Go.Proofs Go.Proofs.YtdokoekgdeebpaaDoor Go.RowKit Go.ChangeShapes Go.WideShapes
set_option maxRecDepth 100000
set_option linter.unusedVariables false
/-- A slice of whole numbers of a kind, readable. -/
def KAt (k : IntKind) (m : Mem) (v : Value) (l : List Int) : Prop :=
  (l = [] ∧ (v = .slice none 0 0 ∨ ∃ b o, v = .slice (some ⟨b, o, none⟩) 0 0)) ∨
  ∃ b o cap r c, v = .slice (some ⟨b, o, some 1⟩) l.length cap ∧ l.length ≤ cap ∧ Mem.get m b = .cells r c ∧ ∀ i x, l[i]? = some x → c[o + i]? = some (.int k x)
theorem KAt.ints {m : Mem} {v : Value} {l : List Int} (h : KAt .i64 m v l) : IntsAt m v l := by
  rcases h with h | ⟨b, o, cap, r, c, h1, _, h2, h3⟩
  · exact .inl h
  · exact .inr ⟨b, o, cap, r, c, h1, h2, h3⟩
theorem KAt.bytes {m : Mem} {v : Value} {l : List Int} (h : KAt .u8 m v l) : BytesAt m v l := h
theorem cell_heap {W : World} {a : Addr} {v : Value} (h : W.cell? a = some v) : a.spot = none ∧ ∃ c t fz, W.heap[a.block]? = some (.cells c t fz) ∧ c[a.off]? = some v := by
  unfold World.cell? at h
  split at h
  · rename_i c t fz e
    split at h
    · cases h
    · rename_i hs
      exact ⟨by simpa using hs, c, t, fz, e, h⟩
  · cases h
theorem add_block (a : Addr) (n : Nat) : (a.add n).block = a.block := by unfold Addr.add; split <;> rfl
theorem add0 (a : Addr) : a.add 0 = a := if_pos rfl
theorem add_off {a : Addr} {n : Nat} (h : a.spot = none) : (a.add n).off = a.off + n := by
  unfold Addr.add
  split <;> simp_all
theorem mem0_arg {A : List Arg0} {i : Nat} {a : Arg0} (h : A[i]? = some a) (hn : a.es = none) : Mem.get (mem0 A) (3 + i) = .cells false a.cs := by
  obtain ⟨hi, e⟩ := List.getElem?_eq_some_iff.1 h
  rw [mem0_get, if_neg (by omega), if_neg (by omega), if_neg (by omega), dif_pos (by omega)]
  simp only [Nat.add_sub_cancel_left, e, Arg0.obj, hn]
theorem beta0_arg {A : List Arg0} {i : Nat} {a : Arg0} (h : A[i]? = some a) : (beta0 A).blk (3 + i) = a.blk ∧ (beta0 A).sh (3 + i) = a.off ∧ (beta0 A).cap (3 + i) = a.off + max a.cs.size a.cap := by
  have e : A.getD (3 + i - 3) arg0 = a := by rw [Nat.add_sub_cancel_left, List.getD_eq_getElem?_getD, h]; rfl
  refine ⟨?_, ?_, ?_⟩
  · simp only [beta0]; rw [if_neg (by omega), e]
  · simp only [beta0]; rw [if_neg (by omega), e]
  · simp only [beta0]; rw [if_neg (by omega), e]
/-- The blocks of an argument lie from a place on. -/
def PartAt (A : List Arg0) (pos : Nat) (B : List Arg0) : Prop := ∀ (j : Nat) a, B[j]? = some a → A[pos + j]? = some a
theorem part_right {X Y : List Arg0} {pos : Nat} (h : X.length = pos) : PartAt (X ++ Y) pos Y := fun j a hj => by
  subst h
  rw [List.getElem?_append_right (by omega), Nat.add_sub_cancel_left]; exact hj
/-- A slice of whole numbers that is read: its block, what it holds, its abstract value by the place of its block. -/
structure RowP (W : World) (k : IntKind) (s : Value) where
  a : Arg0
  l : List Int
  f : Nat → Value
  ok : ∀ A : List Arg0, a.ok W A
  wf : ∀ n ∈ l, (Lit.int k n).wf = true
  rel : ∀ (A : List Arg0) (i : Nat), A[i]? = some a → KAt k (mem0 A) (f i) l ∧ VRel (beta0 A) (3 + A.length) (f i) s
theorem ok0 {W : World} (hL : laidMetH Tryd.prog laid1 W) (A : List Arg0) : Arg0.ok W A ⟨1, 0, 0, #[], none⟩ := by
  obtain ⟨c0, t0, fz0, _, _, _, h0, _⟩ := of_laid0 hL
  exact ⟨fun _ => ⟨c0, t0, fz0, h0, fun i v h => by simp at h⟩, fun es h => by cases h⟩
theorem row_of {H : Type} {enc : TypeId × Value → H} {W : World} {k : IntKind} {t e : TypeId} {s : Value} {fuel : Nat} {x : DataW H × List MemPlace} (hL : laidMetH Tryd.prog laid1 W)
    (ht : Tryd.prog.underlying t = some (.slice e)) (he : Tryd.prog.underlying e = some (.int k)) (hc : Tryd.prog.cellsOf e = 1)
    (hd : DataW.trod enc Tryd.prog W 0 (fun _ => true) true fuel t [s] = some x) : Nonempty (RowP W k s) := by
  rcases open_ints ht he hc hd with ⟨hcs, _⟩ | ⟨x, ln, cp, zs, hcs, _, hl, hm, hz, _, hcell, hwz⟩
  · simp at hcs
    subst hcs
    exact ⟨⟨_, [], fun _ => .slice none 0 0, ok0 hL, by simp, fun A i _ => ⟨.inl ⟨rfl, .inl rfl⟩, .sliceNil⟩⟩⟩
  · simp at hcs
    subst hcs
    rw [if_pos rfl] at hz
    by_cases h0 : ln = 0
    · subst h0
      exact ⟨⟨_, [], fun _ => .slice (some ⟨0, 0, none⟩) 0 0, ok0 hL, by simp, fun A i _ => ⟨.inl ⟨rfl, .inr ⟨_, _, rfl⟩⟩, .lost _ _ _ trivial⟩⟩⟩
    · obtain ⟨hsp, c, t1, fz, hh, _⟩ := cell_heap (hcell 0 (by omega))
      rw [add0] at hsp
      rw [add_block] at hh
      have hcs : ∀ j, j < ln → c[x.off + j]? = some (.int k (zs.getD j 0)) := fun j hj => by
        obtain ⟨_, c', t2, fz2, h2, h3⟩ := cell_heap (hcell j (by omega))
        rw [add_block, hh] at h2
        obtain ⟨rfl, rfl, rfl⟩ : c = c' ∧ t1 = t2 ∧ fz = fz2 := by injection h2 with h2; injection h2 with a b c; exact ⟨a, b, c⟩
        rwa [add_off hsp] at h3
      have hlz : (zs.take ln).length = ln := by rw [List.length_take]; omega
      refine ⟨⟨⟨x.block, x.off, cp, ((zs.take ln).map fun n => Value.int k n).toArray, none⟩, zs.take ln, fun i => .slice (some ⟨3 + i, 0, some 1⟩) ln cp, fun A => ⟨fun _ => ⟨c, t1, fz, hh, fun j y hy => ?_⟩, fun es h => by cases h⟩, fun n hn => hwz n (List.mem_of_mem_take hn), fun A i hA => ⟨?_, ?_⟩⟩⟩
      · simp only [List.getElem?_toArray, List.getElem?_map, Option.map_eq_some_iff] at hy
        obtain ⟨n, hn, rfl⟩ := hy
        rw [List.getElem?_take] at hn
        split at hn
        · refine ⟨_, ?_, .int _ _⟩
          rw [hcs j (by assumption), List.getD_eq_getElem?_getD, hn]; rfl
        · cases hn
      · refine .inr ⟨3 + i, 0, cp, false, _, by rw [hlz], by rw [hlz]; exact hl, mem0_arg hA rfl, fun j n hn => ?_⟩
        simp only [List.getElem?_toArray, List.getElem?_map, hn, Option.map_some, Nat.zero_add]
      · obtain ⟨e1, e2, e3⟩ := beta0_arg hA
        have hi := (List.getElem?_eq_some_iff.1 hA).1
        have := VRel.slice (β := beta0 A) (N := 3 + A.length) (3 + i) 0 1 ln cp cp (by omega) (by omega) hl (Nat.le_refl _) (by rw [e2, e3]; simp only; omega) (by unfold maxLen at hm; omega)
        rw [e1, e2] at this
        obtain ⟨xb, xo, xs⟩ := x
        obtain rfl : xs = none := hsp
        exact this
/-- An argument that is a slice of whole numbers. -/
theorem ints_arg {H : Type} {enc : TypeId × Value → H} {W : World} {k : IntKind} {t e : TypeId} {r : Reach} {base : Nat} {v : Value} {d : DataW H} {p : List MemPlace} (hL : laidMetH Tryd.prog laid1 W)
    (ht : Tryd.prog.underlying t = some (.slice e)) (he : Tryd.prog.underlying e = some (.int k)) (hc : Tryd.prog.cellsOf e = 1)
    (hval : Value.okWide Tryd.prog W r base t v) (hd : DataW.Trod enc Tryd.prog W 0 (fun _ => true) true t v d p) :
    ∃ (L : Nat) (B : Nat → List Arg0) (l : List Int) (f : Nat → Value), (∀ pos, (B pos).length = L) ∧ (∀ n ∈ l, (Lit.int k n).wf = true) ∧
      ∀ (A : List Arg0) (pos : Nat), PartAt A pos (B pos) → (∀ a ∈ B pos, a.ok W A) ∧ KAt k (mem0 A) (f pos) l ∧ VRel (beta0 A) (3 + A.length) (f pos) v := by
  obtain ⟨q, len, cap, rfl⟩ := okWide_slice ht hval
  obtain ⟨fuel, hf⟩ := hd
  obtain ⟨R⟩ := row_of hL ht he hc hf
  refine ⟨1, fun _ => [R.a], R.l, R.f, fun _ => rfl, R.wf, fun A pos hp => ⟨fun a ha => ?_, R.rel A pos (hp 0 _ rfl)⟩⟩
  rw [List.mem_singleton.1 ha]; exact R.ok A
theorem u72 : Tryd.prog.underlying 72 = some (.slice 5) := by kernel_rfl
theorem c3 : Tryd.prog.cellsOf 3 = 1 := by kernel_rfl
theorem c5 : Tryd.prog.cellsOf 5 = 1 := by kernel_rfl
theorem laidOut : laidOutB Tryd.prog = true := by kernel_rfl
theorem u8_nat {n : Int} (h : (Lit.int .u8 n).wf = true) : ∃ c : Nat, c < 256 ∧ n = Int.ofNat c := by
  have h' : 0 ≤ n ∧ n < 256 := by
    simp [Lit.wf, IntKind.min, IntKind.max, IntKind.signed, IntKind.bits] at h
    omega
  exact ⟨n.toNat, by omega, by simp; omega⟩
end Go.AM
namespace Go.AM
end Go.AM
