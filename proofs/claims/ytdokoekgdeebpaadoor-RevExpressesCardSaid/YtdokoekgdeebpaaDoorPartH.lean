/- Part 8 of the proof: Plain laws, and contracts of the program's functions. -/
import Derived.Test.YtdokoekgdeebpaaDoorPartG
import Derived.WideKeyElems2
import Derived.ChangeMaps
import Derived.Test.YtdokoekgdeebpaaDoorRows
import Derived.ProofKit
import Derived.LaidMore
import Derived.LaidHandle
import Derived.OpenShut
import Derived.Stop.Joined
import Derived.Below
import Derived.Carry
import Derived.ChangeSlices
import Derived.WideShapes
set_option maxRecDepth 100000
set_option linter.unusedVariables false
set_option linter.unusedSimpArgs false
/-! ### R58 -/
namespace Go.AM
open Go.Proofs
theorem cpG_facts (vars : Int) (d : Nat) (e : BX) (hs : szB d e ≤ 40) : (cpG vars d e).length ≤ 200000 ∧ ∀ g ∈ cpG vars d e, g.2.length ≤ 3 := by
  unfold cpG
  by_cases h : cpE vars d e = 0
  · rw [if_pos h]
    have hg : goodB vars d e = 0 := by
      apply Decidable.byContradiction
      intro hn
      rw [cpE, if_pos hn] at h
      exact hn h
    have hv : ¬ (vars < 1 ∨ 8 < vars) := fun hh => by rw [goodB, if_pos hh] at hg; cases hg
    have h24 : ¬ 24 < szB d e := fun hh => by rw [goodB, if_neg hv, if_pos hh] at hg; cases hg
    rw [goodB, if_neg hv, if_neg h24] at hg
    exact ⟨gT_len hg (by omega), gT_ok (vars := vars) (nfB d e) d e _ _ hg⟩
  · rw [if_neg h]
    exact ⟨Nat.zero_le _, fun g hg => by cases hg⟩
def H8 : Nat → List (Nat × Nat) := fun id => if id = 7 then [(3, 0), (18, 21), (19, 21)] else []
theorem okf8 : okF Tryd.prog H8 8 96 = true := by kernel_rfl
theorem spec_ExpressesLaw {m : Mem} {P : Nat → Prop} {v : Value} {e : BX} {d : Nat} {vars state : Int} (hst : state < 9223372036854775808) (hC : GlobC m) (hW : GlobW m) (h : BAt P m d v e) (hL : BLen d e) : ∃ v' m', ACalls Tryd.prog 8 #[v, .int .i64 vars, .int .i64 state] m v' m' ∧ (v' = .bool true ∧ Ext m m') := by
  obtain ⟨d', q, cap, hd, rfl⟩ := h.agg
  refine wpF (args := [_, _, _]) mixed okf8 (fn := Tryd.f8) rfl rfl rfl (by simp) ?_
  refine cSeq ?_
  refine cRegion ?_
  refine sBox (v := .agg _) rfl ?_
  change wpOps _ _ _ _ _ (m.push (.cells true #[.int .i64 e.kind, .int .i64 e.var, .slice q e.args.length cap]))
  have x1 : Ext m (m.push (.cells true #[.int .i64 e.kind, .int .i64 e.var, .slice q e.args.length cap])) := .push _ _
  have g1 : Mem.get (m.push (.cells true #[.int .i64 e.kind, .int .i64 e.var, .slice q e.args.length cap])) m.size = .cells true #[.int .i64 e.kind, .int .i64 e.var, .slice q e.args.length cap] := gP rfl
  have z1 : (m.push (.cells true #[.int .i64 e.kind, .int .i64 e.var, .slice q e.args.length cap])).size = m.size + 1 := by simp
  generalize m.push (.cells true #[.int .i64 e.kind, .int .i64 e.var, .slice q e.args.length cap]) = m1 at *
  refine sAs (v := .bool _) rfl ?_
  refine sNil (kSeqN ?_)
  refine cSeq ?_
  refine cSeq ?_
  refine cRegion ?_
  refine sLdAll A66 S66 rfl g1 rfl ?_
  obtain ⟨v19, m19, h19, rfl, x19⟩ := spec_GreatB d (h.ext x1) hL
  refine sCall1 rfl call52 rfl h19 ?_
  refine sNil (kSeqN ?_)
  refine cCond (p := 40 < szB d e) rfl (fun c0 => ?_) (fun c0 => ?_)
  · refine cSeq ?_
    refine cRegion ?_
    obtain ⟨v20, m20, h20, rfl, e20⟩ := spec_awake ((hC.ext x1).ext x19) ((hW.ext x1).ext x19)
    refine sCall0 rfl call14 h20 ?_
    refine sAs (v := .bool _) rfl ?_
    refine sNil (kSeqN ?_)
    refine cRet (kSeqR ?_)
    exact ⟨.inr rfl, _, rfl, rfl, (x1.trans x19).trans e20⟩
  · have hs : szB d e ≤ 40 := by omega
    have hs6 : szB d e ≤ 1000000 := by omega
    obtain ⟨hgl, hg3⟩ := cpG_facts vars d e hs
    have E19 := x1.trans x19
    refine cSkip (kSeqN ?_)
    refine cSeq ?_
    refine cRegion ?_
    refine sLdAll A66 S66 rfl (x19.cells g1) rfl ?_
    refine sMv (v := .int .i64 vars) rfl ?_
    refine sMv (v := .int .i64 state) rfl ?_
    obtain ⟨v25, m25, h25, rfl, e25⟩ := spec_Eval vars state d (hW.ext E19) (h.ext E19) hs6 hst
    refine sCall3 rfl call53 rfl rfl rfl h25 ?_
    have E25 := E19.trans e25
    refine sMv (v := .tuple _) rfl ?_
    refine sP (v := .bool _) rfl ?_
    refine sP (v := nv _) rfl ?_
    refine sAs (v := .bool _) rfl ?_
    refine sAs (v := nv _) rfl ?_
    refine sNil (kSeqN ?_)
    refine cSeq ?_
    refine cRegion ?_
    refine sLdAll A66 S66 rfl ((x19.trans e25).cells g1) rfl ?_
    refine sMv (v := .int .i64 vars) rfl ?_
    refine sMv (v := .int .i64 state) rfl ?_
    obtain ⟨v32, m32, h32, rfl, e32⟩ := spec_rEval vars state d (h.ext E25) hL hs6 hst
    refine sCall3 rfl call54 rfl rfl rfl h32 ?_
    have E32 := E25.trans e32
    have g32 := ((x19.trans e25).trans e32).cells g1
    have z32 := ((x19.trans e25).trans e32).1
    refine sMv (v := .tuple _) rfl ?_
    refine sP (v := .bool _) rfl ?_
    refine sP (v := nv _) rfl ?_
    refine sAs (v := .bool _) rfl ?_
    refine sAs (v := nv _) rfl ?_
    refine sNil (kSeqN ?_)
    refine cSeq ?_
    refine cRegion ?_
    refine sLdAll A66 S66 rfl g32 rfl ?_
    refine sMv (v := .int .i64 vars) rfl ?_
    obtain ⟨v38, m38, h38, s38, cs38, rfl, o38, e38⟩ := spec_Compile vars d (hW.ext E32) (h.frame (P' := fun c => c < m32.size) fun c hc hl => ⟨by omega, E32.2 c hl⟩) hs6
    obtain ⟨q38, c38, rfl⟩ := o38.1.len
    refine sCall2 rfl call55 rfl rfl h38 ?_
    have z38 := e38.1
    refine sMv (v := .tuple _) rfl ?_
    refine sP (v := .agg _) rfl ?_
    refine sP (v := nv _) rfl ?_
    refine sAllocB (bl := m38.size) rfl Z30 (by kernel_rfl) ?_
    refine sStNAB rfl S30 rfl rfl rfl rfl (by kernel_rfl) ?_
    have xs11 : Ext m38 (m38.push (.cells true #[nv (cpN vars d e), nv 0, .slice q38 (cpG vars d e).length c38])) := .push _ _
    have gs11 : Mem.get (m38.push (.cells true #[nv (cpN vars d e), nv 0, .slice q38 (cpG vars d e).length c38])) m38.size = .cells true #[nv (cpN vars d e), nv 0, .slice q38 (cpG vars d e).length c38] := gP rfl
    have zs11 : (m38.push (.cells true #[nv (cpN vars d e), nv 0, .slice q38 (cpG vars d e).length c38])).size = m38.size + 1 := by simp
    generalize m38.push (.cells true #[nv (cpN vars d e), nv 0, .slice q38 (cpG vars d e).length c38]) = ms11 at *
    have E11 := (E32.trans e38).trans xs11
    refine sAs (v := nv _) rfl ?_
    refine sNil (kSeqN ?_)
    refine cSeq ?_
    refine cRegion ?_
    refine sLdAll A66 S66 rfl ((e38.trans xs11).cells g32) rfl ?_
    refine sMv (v := .int .i64 vars) rfl ?_
    obtain ⟨v44, m44, h44, s44, cs44, rfl, o44, e44⟩ := spec_rCompile vars d (h.ext E11) hL hs6
    obtain ⟨q44, c44, rfl⟩ := o44.1.len
    refine sCall2 rfl call56 rfl rfl h44 ?_
    have z44 := e44.1
    refine sMv (v := .tuple _) rfl ?_
    refine sP (v := .agg _) rfl ?_
    refine sP (v := nv _) rfl ?_
    refine sAllocB (bl := m44.size) rfl Z30 (by kernel_rfl) ?_
    refine sStNAB rfl S30 rfl rfl rfl rfl (by kernel_rfl) ?_
    have xs13 : Ext m44 (m44.push (.cells true #[nv (cpN vars d e), nv 0, .slice q44 (cpG vars d e).length c44])) := .push _ _
    have gs13 : Mem.get (m44.push (.cells true #[nv (cpN vars d e), nv 0, .slice q44 (cpG vars d e).length c44])) m44.size = .cells true #[nv (cpN vars d e), nv 0, .slice q44 (cpG vars d e).length c44] := gP rfl
    have zs13 : (m44.push (.cells true #[nv (cpN vars d e), nv 0, .slice q44 (cpG vars d e).length c44])).size = m44.size + 1 := by simp
    generalize m44.push (.cells true #[nv (cpN vars d e), nv 0, .slice q44 (cpG vars d e).length c44]) = ms13 at *
    have E13 := (E11.trans e44).trans xs13
    have g13 := (((e38.trans xs11).trans e44).trans xs13).cells g32
    refine sAs (v := nv _) rfl ?_
    refine sNil (kSeqN ?_)
    refine cSeq ?_
    refine cDrawH (hs := [(3, 0), (18, 21), (19, 21)]) rfl (by decide) ?_
    refine lStepLdA A66 S66 rfl g13 rfl fun e0 hm0 hv0 hr0 => ?_
    refine lStepO (sMv (v := .int .i64 vars) rfl (sNil fun e1 hm1 => ?_))
    obtain ⟨v49, m49, h49, rfl, e49⟩ := spec_Good vars d (hW.ext E13) (h.ext E13) hs6
    refine lStepO (sCall2 rfl call57 rfl rfl h49 (sNil fun e2 hm2 => ?_))
    refine lStepLdA A66 S66 rfl (e49.cells g13) rfl fun e3 hm3 hv3 hr3 => ?_
    refine lStepO (sMv (v := .int .i64 vars) rfl (sNil fun e4 hm4 => ?_))
    obtain ⟨v52, m52, h52, rfl, e52⟩ := spec_rGood vars d (h.ext (E13.trans e49)) hL hs6
    refine lStepO (sCall2 rfl call58 rfl rfl h52 (sNil fun e5 hm5 => ?_))
    refine lStepO (sBin (v := .bool true) (a := goodB vars d e) (b := goodB vars d e) rfl rfl (eqlT rfl) (sNil fun e6 hm6 => ?_))
    refine lStepO (sMv (v := .bool true) rfl (sNil fun e7 hm7 => ?_))
    refine lG rfl rfl ?_
    refine lStepO (sMv (v := .bool (evV vars d e state)) rfl (sNil fun e8 hm8 => ?_))
    refine lG rfl rfl ?_
    refine lStepO (sMv (v := .bool (evV vars d e state)) rfl (sNil fun e9 hm9 => ?_))
    refine lG rfl rfl ?_
    refine lStepO (sP (v := .bool true) (eqlBool (evV vars d e state)) (sNil fun e10 hm10 => ?_))
    refine lStepO (sP (v := .bool true) rfl (sNil fun e11 hm11 => ?_))
    refine lStepO (sMv (v := .bool true) rfl (sNil fun e12 hm12 => ?_))
    refine lG rfl rfl ?_
    refine lStepO (sMv (v := nv _) rfl (sNil fun e13 hm13 => ?_))
    refine lG rfl rfl ?_
    refine lStepO (sMv (v := nv _) rfl (sNil fun e14 hm14 => ?_))
    refine lG rfl rfl ?_
    refine lStepO (sBin (v := .bool true) (a := evE vars d e state) (b := evE vars d e state) rfl rfl (eqlT rfl) (sNil fun e15 hm15 => ?_))
    refine lStepO (sP (v := .bool true) rfl (sNil fun e16 hm16 => ?_))
    refine lStepO (sMv (v := .bool true) rfl (sNil fun e17 hm17 => ?_))
    refine lG rfl rfl ?_
    refine lStepLdA A30 S30 rfl ((((e44.trans xs13).trans e49).trans e52).cells gs11) rfl fun e18 hm18 hv18 hr18 => ?_
    refine lG rfl rfl ?_
    refine lStepLdA A30 S30 rfl ((e49.trans e52).cells gs13) rfl fun e19 hm19 hv19 hr19 => ?_
    refine lG rfl rfl ?_
    obtain ⟨v67, m67, h67, rfl, e67⟩ := spec_Same (W := cpN vars d e) (B := 0) (W' := cpN vars d e) (B' := 0) (o38.gates.ext ((((xs11.trans e44).trans xs13).trans e49).trans e52)) (o44.gates.ext ((xs13.trans e49).trans e52)) (by rw [List.length_map]; omega) (fun g hg => by
      obtain ⟨g', hg', rfl⟩ := List.mem_map.1 hg
      have := hg3 g' hg'
      show (ofs g'.2).length < _
      rw [ofs_length]; omega)
    rw [decide_eq_true ⟨rfl, rfl, rfl⟩] at h67
    refine lStepO (sCall2 rfl call20 rfl rfl h67 (sNil fun e20 hm20 => ?_))
    refine lStepO (sP (v := .bool true) rfl (sNil fun e21 hm21 => ?_))
    refine lStepO (sMv (v := .bool true) rfl (sNil fun e22 hm22 => ?_))
    refine lG rfl rfl ?_
    refine lStepO (sMv (v := nv _) rfl (sNil fun e23 hm23 => ?_))
    refine lG rfl rfl ?_
    refine lStepO (sMv (v := nv _) rfl (sNil fun e24 hm24 => ?_))
    refine lG rfl rfl ?_
    refine lStepO (sBin (v := .bool true) (a := cpE vars d e) (b := cpE vars d e) rfl rfl (eqlT rfl) (sNil fun e25 hm25 => ?_))
    refine lStepO (sP (v := .bool true) rfl (sNil fun e26 hm26 => ?_))
    refine lStepO (sAs (v := .bool true) rfl (sNil fun e27 hm27 => ?_))
    refine ⟨?_, (kSeqN ?_)⟩
    · refine obl_atE (e := e3) (e' := e0) (by simp) (by rfl) (by simp) ((hr3 e0.m _ (by rw [hm0]; exact g13)).trans (congrArg some hv3.symm)) ?_
      refine obl_atE (e := e18) (e' := e21) (by simp) (by rfl) (by simp) ((hr18 e21.m _ (by rw [hm21]; exact ((((e44.trans xs13).trans e49).trans e52).trans e67).cells gs11)).trans (congrArg some hv18.symm)) ?_
      refine obl_atE (e := e19) (e' := e21) (by simp) (by rfl) (by simp) ((hr19 e21.m _ (by rw [hm21]; exact ((e49.trans e52).trans e67).cells gs13)).trans (congrArg some hv19.symm)) ?_
      trivial
    refine cSeq ?_
    refine cRegion ?_
    have F67 : Ext m44 m67 := (((xs13.trans e49).trans e52).trans e67)
    have E67 : Ext m38 m67 := (xs11.trans e44).trans F67
    refine sLdAll A30 S30 rfl ((((((e44.trans xs13).trans e49).trans e52).trans e67)).cells gs11) rfl ?_
    obtain ⟨w75, m75, h75, z75, k75⟩ := spec_SpoilW (W := cpN vars d e) (B := 0) o38 E67 e38.1 (by omega)
    refine sCall1 rfl call26 rfl h75 ?_
    have z67 := F67.1
    have E75 : Ext m32 m75 := ⟨by omega, fun b hb => by rw [k75 b (by omega) (.inl hb)]; exact (e38.trans E67).2 b hb⟩
    have o75 : OwnG ms11.size m75 (.slice q44 (cpG vars d e).length c44) cs44 (cpG vars d e) := o44.up fun b h1 h2 => by
      rw [k75 b (by omega) (.inr (by omega))]; exact F67.2 b h2
    have g75 : Mem.get m75 m44.size = .cells true #[nv (cpN vars d e), nv 0, .slice q44 (cpG vars d e).length c44] := by
      rw [k75 m44.size (by have := ((e49.trans e52).trans e67).1; omega) (.inr (by omega))]; exact (((e49.trans e52).trans e67)).cells gs13
    have EE75 := E32.trans E75
    refine sNil (kSeqN ?_)
    refine cSeq ?_
    refine cRegion ?_
    refine sLdAll A66 S66 rfl (E75.cells g32) rfl ?_
    refine sMv (v := .int .i64 vars) rfl ?_
    obtain ⟨v79, m79, h79, s79, cs79, rfl, o79, e79⟩ := spec_Compile vars d (hW.ext EE75) (h.frame (P' := fun c => c < m75.size) fun c hc hl => ⟨by have := EE75.1; omega, EE75.2 c hl⟩) hs6
    obtain ⟨q79, c79, rfl⟩ := o79.1.len
    refine sCall2 rfl call55 rfl rfl h79 ?_
    refine sMv (v := .tuple _) rfl ?_
    refine sP (v := .agg _) rfl ?_
    refine sP (v := nv _) rfl ?_
    refine sAllocB (bl := m79.size) rfl Z30 (by kernel_rfl) ?_
    refine sStNAB rfl S30 rfl rfl rfl rfl (by kernel_rfl) ?_
    have xs16 : Ext m79 (m79.push (.cells true #[nv (cpN vars d e), nv 0, .slice q79 (cpG vars d e).length c79])) := .push _ _
    have gs16 : Mem.get (m79.push (.cells true #[nv (cpN vars d e), nv 0, .slice q79 (cpG vars d e).length c79])) m79.size = .cells true #[nv (cpN vars d e), nv 0, .slice q79 (cpG vars d e).length c79] := gP rfl
    generalize m79.push (.cells true #[nv (cpN vars d e), nv 0, .slice q79 (cpG vars d e).length c79]) = ms16 at *
    refine sAs (v := nv _) rfl ?_
    refine sNil (kSeqN ?_)
    refine cSeq ?_
    refine cRegion ?_
    refine sMv (v := .bool true) rfl ?_
    refine sMv (v := .bool true) rfl ?_
    refine sG rfl rfl ?_
    refine sLdAll A30 S30 rfl gs16 rfl ?_
    refine sG rfl rfl ?_
    refine sLdAll A30 S30 rfl ((e79.trans xs16).cells g75) rfl ?_
    refine sG rfl rfl ?_
    obtain ⟨v86, m86, h86, rfl, e86⟩ := spec_Same (W := cpN vars d e) (B := 0) (W' := cpN vars d e) (B' := 0) (o79.gates.ext xs16) (o75.gates.ext (e79.trans xs16)) (by rw [List.length_map]; omega) (fun g hg => by
      obtain ⟨g', hg', rfl⟩ := List.mem_map.1 hg
      have := hg3 g' hg'
      show (ofs g'.2).length < _
      rw [ofs_length]; omega)
    rw [decide_eq_true ⟨rfl, rfl, rfl⟩] at h86
    refine sCall2 rfl call20 rfl rfl h86 ?_
    have E86 := ((EE75.trans e79).trans xs16).trans e86
    refine sP (v := .bool true) rfl ?_
    refine sMv (v := .bool true) rfl ?_
    refine sG rfl rfl ?_
    refine sMv (v := nv _) rfl ?_
    refine sG rfl rfl ?_
    refine sMv (v := nv _) rfl ?_
    refine sG rfl rfl ?_
    refine sBin (v := .bool true) (a := cpE vars d e) (b := cpE vars d e) rfl rfl (eqlT rfl) ?_
    refine sP (v := .bool true) rfl ?_
    refine sMv (v := .bool true) rfl ?_
    refine sG rfl rfl ?_
    obtain ⟨v94, m94, h94, rfl, e94⟩ := spec_awake (hC.ext E86) (hW.ext E86)
    refine sCall0 rfl call14 h94 ?_
    refine sP (v := .bool true) rfl ?_
    refine sAs (v := .bool _) rfl ?_
    refine sNil (kSeqN ?_)
    refine cRet ?_
    exact ⟨.inr rfl, _, rfl, rfl, E86.trans e94⟩
end Go.AM

/-! ### F50 -/
namespace Go.AM
open Go.Proofs Go.Proofs.YtdokoekgdeebpaaDoor Go.ChangeShapes
theorem gSize : Tryd.prog.globals.size = 3 := by kernel_rfl
theorem u4 : Tryd.prog.underlying 4 = some .bool := by kernel_rfl
theorem var_block {P : Program} {w : World} {n : String} {g : Nat} {cs : Array Value} (hg : P.globalNamed n = some g) (h : w.var? P n = some cs) : ∃ t fz, w.heap[g]? = some (.cells cs t fz) := by
  simp only [World.var?, hg, Option.bind_some] at h
  split at h
  · rename_i c t fz e
    injection h with h; subst h
    exact ⟨t, fz, e⟩
  · cases h
theorem gCla : Tryd.prog.globalNamed "spoondrift/rev.classical" = some 1 := by kernel_rfl
theorem tCla : (Tryd.prog.globals[1]?).map (·.type) = some 129 := by kernel_rfl
theorem u3 : Tryd.prog.underlying 3 = some (.int .i64) := by kernel_rfl
theorem u98 : Tryd.prog.underlying 98 = some (.func #[3, 22] #[3] false) := by kernel_rfl
theorem u127 : Tryd.prog.underlying 127 = some (.struct #[{ name := "controls", type := 3, offset := 0, embedded := false, tag := "", pkgPath := "spoondrift/rev", byteOffset := 0 }, { name := "does", type := 98, offset := 1, embedded := false, tag := "", pkgPath := "spoondrift/rev", byteOffset := 8 }]) := by kernel_rfl
theorem u129 : Tryd.prog.underlying 129 = some (.map 3 127) := by kernel_rfl
theorem hc3 : Tryd.prog.cellsOf 3 = 1 := by kernel_rfl
theorem hc98 : Tryd.prog.cellsOf 98 = 1 := by kernel_rfl
theorem hc127 : Tryd.prog.cellsOf 127 = 2 := by kernel_rfl
def tokT : List UInt8 := [115, 112, 111, 111, 110, 100, 114, 105, 102, 116, 47, 114, 101, 118, 46, 116, 117, 114, 110, 101, 100]
def tokS : List UInt8 := [115, 112, 111, 111, 110, 100, 114, 105, 102, 116, 47, 114, 101, 118, 46, 115, 119, 97, 112, 112, 101, 100]
theorem oneT : ((List.range Tryd.prog.funcs.size).filter fun f => (Tryd.prog.funcs[f]?).any (·.name.toUTF8.data.toList == tokT)) = [76] := by kernel_rfl
theorem oneS : ((List.range Tryd.prog.funcs.size).filter fun f => (Tryd.prog.funcs[f]?).any (·.name.toUTF8.data.toList == tokS)) = [181] := by kernel_rfl
theorem entry_kind {w : World} {n : Nat} {c : Int} {q : FuncId} {tk : List UInt8} (ht : (tk = tokT ∧ q = 76) ∨ (tk = tokS ∧ q = 181)) {cs : List Value} {y : DataW (List UInt8) × List MemPlace}
    (h : DataW.trod (funcToken Tryd.prog) Tryd.prog w 0 (fun _ => true) true n 127 cs = some y) (hy : y.1 = .agg [.lit (.int .i64 c), .held tk]) : cs = [.int .i64 c, .func (.func q) #[] #[]] := by
  obtain ⟨xs, m, rfl, hx, hl, hn, hel⟩ := DataW.trod_struct u127 h
  have h0 := hel 0 _ rfl
  have h1 := hel 1 _ rfl
  rw [hx] at hy
  simp only [DataW.agg.injEq] at hy
  rw [hc127] at hl
  match cs, hl with
  | [a, b], _ =>
    match xs, hn, hy, h0, h1 with
    | [e0, e1], _, hy, h0, h1 =>
      simp only [List.map_cons, List.map_nil, List.cons.injEq, and_true] at hy
      have h2 : DataW.trod (funcToken Tryd.prog) Tryd.prog w 0 (fun _ => true) true m 3 [a] = some (.lit (.int .i64 c), e0.2) := by
        rw [← hy.1]; simpa [hc3] using h0
      have h3 : DataW.trod (funcToken Tryd.prog) Tryd.prog w 0 (fun _ => true) true m 98 [b] = some (.held tk, e1.2) := by
        rw [← hy.2]; simpa [hc98] using h1
      have hb : b = .func (.func q) #[] #[] := by
        rcases ht with ⟨rfl, rfl⟩ | ⟨rfl, rfl⟩
        · exact func_of_trod u98 oneT h3
        · exact func_of_trod u98 oneS h3
      subst hb
      cases m with
      | zero => simp [DataW.trod] at h2
      | succ m =>
        rw [DataW.trod_step] at h2
        unfold DataW.trodStep at h2
        rw [u3] at h2
        cases a <;> simp at h2
        simp_all
def claD : DataW Unit := .map [(.int .i64 1, .agg [.lit (.int .i64 0), .iface "func" (.lit (.string tokT))]), (.int .i64 9, .agg [.lit (.int .i64 1), .iface "func" (.lit (.string tokT))]), (.int .i64 11, .agg [.lit (.int .i64 0), .iface "func" (.lit (.string tokS))]), (.int .i64 12, .agg [.lit (.int .i64 2), .iface "func" (.lit (.string tokT))])]
def IsKind (k v : Value) : Prop := (k = .int .i64 1 ∧ v = .agg #[.int .i64 0, .func (.func 76) #[] #[]]) ∨ (k = .int .i64 9 ∧ v = .agg #[.int .i64 1, .func (.func 76) #[] #[]]) ∨ (k = .int .i64 11 ∧ v = .agg #[.int .i64 0, .func (.func 181) #[] #[]]) ∨ (k = .int .i64 12 ∧ v = .agg #[.int .i64 2, .func (.func 76) #[] #[]])
theorem mem_fold {x : Lit × DataW (List UInt8)} : ∀ {l : List (Lit × DataW (List UInt8))}, x ∈ l.foldr DataW.insert [] ↔ x ∈ l
  | [] => by simp
  | y :: l => by
    rw [List.foldr_cons, Go.ChangeMaps.mem_insert_iff, mem_fold, List.mem_cons]
theorem open_kinds {w : World} (h : funcsAt Tryd.prog w "spoondrift/rev.classical" claD) :
    ∃ c t fz b es clk, w.heap[1]? = some (.cells c t fz) ∧ c[0]? = some (.map (some b)) ∧ w.heap[b]? = some (.map es clk) ∧ (∀ x ∈ es.toList, IsKind x.key x.val) ∧ ∀ k, (k = 1 ∨ k = 9 ∨ k = 12) → ∃ x ∈ es.toList, x.key = .int .i64 k := by
  obtain ⟨g, t, cs, fuel, p, hg, ht, hc, hd⟩ := h
  obtain rfl := Option.some.inj (gCla.symm.trans hg)
  obtain rfl := Option.some.inj (tCla.symm.trans ht)
  obtain ⟨ty, fz, hb0⟩ := var_block hg hc
  have hout : claD.funcsOut = .map [(.int .i64 1, .agg [.lit (.int .i64 0), .held tokT]), (.int .i64 9, .agg [.lit (.int .i64 1), .held tokT]), (.int .i64 11, .agg [.lit (.int .i64 0), .held tokS]), (.int .i64 12, .agg [.lit (.int .i64 2), .held tokT])] := by rfl
  rw [hout] at hd
  rcases Go.WideElems.open_map u129 hd with ⟨_, h2⟩ | ⟨b, es, clk, n, _, hcs, hb, _, F, hx⟩
  · simp at h2
  simp only [Prod.mk.injEq, DataW.map.injEq] at hx
  have hx1 := hx.1
  have hmem : ∀ z, z ∈ es.toList.map (Go.WideElems.rg Tryd.prog 3 (Go.WideElems.elemAt (funcToken Tryd.prog) Tryd.prog w 0 (fun _ => true) true n 127)) ↔ z ∈ [((.int .i64 1 : Lit), (.agg [.lit (.int .i64 0), .held tokT] : DataW (List UInt8))), (.int .i64 9, .agg [.lit (.int .i64 1), .held tokT]), (.int .i64 11, .agg [.lit (.int .i64 0), .held tokS]), (.int .i64 12, .agg [.lit (.int .i64 2), .held tokT])] := fun z => by
    rw [hx1, mem_fold]
  have key : ∀ x ∈ es.toList, ∀ (k c : Int) (tk : List UInt8) (q : FuncId), ((tk = tokT ∧ q = 76) ∨ (tk = tokS ∧ q = 181)) → Go.WideElems.rg Tryd.prog 3 (Go.WideElems.elemAt (funcToken Tryd.prog) Tryd.prog w 0 (fun _ => true) true n 127) x = (.int .i64 k, .agg [.lit (.int .i64 c), .held tk]) → x.key = .int .i64 k ∧ x.val = .agg #[.int .i64 c, .func (.func q) #[] #[]] := by
    intro x hx k c tk q htk hr
    obtain ⟨y, hy⟩ := F.reads x hx
    rw [Go.WideElems.rg_of hy] at hr
    subst hr
    have h1 := Go.WideElems.rd_key hy
    obtain ⟨z, hz, h2⟩ := Go.WideElems.rd_val hy
    refine ⟨?_, ?_⟩
    · simp only [keyOf, u3, mapKey] at h1
      split at h1 <;> simp_all
    · simp only [Go.WideElems.elemAt] at hz
      split at hz
      · rename_i hf
        have := entry_kind htk hz h2.symm
        cases hv : x.val with
        | agg cs2 =>
          rw [hv] at this
          have e : cs2.toList = [.int .i64 c, .func (.func q) #[] #[]] := this
          obtain ⟨l⟩ := cs2
          simp only at e
          subst e; rfl
        | _ => rw [hv] at hf; simp [Value.formed, u127] at hf
      · cases hz
  have hcs0 : cs[0]? = some (.map (some b)) := by
    have := congrArg (·[0]?) hcs
    simpa using this
  refine ⟨cs, ty, fz, b, es, clk, hb0, hcs0, hb, fun x hx => ?_, fun k hk => ?_⟩
  · have h1 := (hmem _).1 (List.mem_map.2 ⟨x, hx, rfl⟩)
    simp only [List.mem_cons, List.not_mem_nil, or_false] at h1
    rcases h1 with h1 | h1 | h1 | h1
    · exact .inl (key x hx _ _ _ 76 (.inl ⟨rfl, rfl⟩) h1)
    · exact .inr (.inl (key x hx _ _ _ 76 (.inl ⟨rfl, rfl⟩) h1))
    · exact .inr (.inr (.inl (key x hx _ _ _ 181 (.inr ⟨rfl, rfl⟩) h1)))
    · exact .inr (.inr (.inr (key x hx _ _ _ 76 (.inl ⟨rfl, rfl⟩) h1)))
  · have : ∃ c : Int, ((.int .i64 k : Lit), (.agg [.lit (.int .i64 c), .held tokT] : DataW (List UInt8))) ∈ [((.int .i64 1 : Lit), (.agg [.lit (.int .i64 0), .held tokT] : DataW (List UInt8))), (.int .i64 9, .agg [.lit (.int .i64 1), .held tokT]), (.int .i64 11, .agg [.lit (.int .i64 0), .held tokS]), (.int .i64 12, .agg [.lit (.int .i64 2), .held tokT])] := by
      rcases hk with rfl | rfl | rfl
      · exact ⟨0, by simp⟩
      · exact ⟨1, by simp⟩
      · exact ⟨2, by simp⟩
    obtain ⟨c, hm⟩ := this
    obtain ⟨x, hx, hr⟩ := List.mem_map.1 ((hmem _).2 hm)
    exact ⟨x, hx, (key x hx _ _ _ 76 (.inl ⟨rfl, rfl⟩) hr).1⟩
theorem cla_data : (Rows.laid_spoondrift_rev_classical : DataW Unit) = .iface "func table" claD := by rfl
theorem open_nums {H : Type} {enc : TypeId × Value → H} {P : Program} {w : World} {sp : Nat → Bool} {held : Bool} {t e n fuel : Nat} {k : IntKind} {cs : List Value} {ds : List (DataW H)} {p : List MemPlace}
    (ht : P.underlying t = some (.array n e)) (he : P.underlying e = some (.int k)) (hc : P.cellsOf e = 1) (h : DataW.trod enc P w 0 sp held fuel t cs = some (.agg ds, p)) {i : Nat} {v : Int} (hi : ds[i]? = some (.lit (.int k v))) :
    cs[i]? = some (.int k v) := by
  obtain ⟨xs, m, rfl, hx, hl, hn, hel⟩ := DataW.trod_array ht h
  simp only [Prod.mk.injEq, DataW.agg.injEq] at hx
  obtain ⟨rfl, _⟩ := hx
  rw [List.getElem?_map, Option.map_eq_some_iff] at hi
  obtain ⟨y, hy, hy1⟩ := hi
  have hin : i < n := by rw [← hn]; exact (List.getElem?_eq_some_iff.1 hy).1
  have h0 := hel i hin
  rw [hy, hc, Nat.mul_one] at h0
  obtain ⟨q, e1, e2, _⟩ := DataW.trod_int he h0
  have e3 : q = v := by
    rw [e2] at hy1
    simpa using hy1
  subst e3
  have := congrArg (·[0]?) e1
  simpa [List.getElem?_take, List.getElem?_drop] using this
theorem gWan : Tryd.prog.globalNamed "spoondrift/rev.wants" = some 2 := by kernel_rfl
theorem tWan : (Tryd.prog.globals[2]?).map (·.type) = some 108 := by kernel_rfl
theorem u108 : Tryd.prog.underlying 108 = some (.array 8 3) := by kernel_rfl
def wanL : List Nat := [0, 0, 1, 2, 2, 2, 0, 0]
def laid1 : List (String × DataW Unit) := [("spoondrift/rev.classical", Rows.laid_spoondrift_rev_classical), ("spoondrift/rev.wants", Rows.laid_spoondrift_rev_wants)]
theorem wan_data : (Rows.laid_spoondrift_rev_wants : DataW Unit) = .agg (wanL.map fun x => .lit (.int .i64 (Int.ofNat x))) := by rfl
theorem of_laid0 {w : World} (h : laidMetH Tryd.prog laid1 w) : ∃ c t fz b es clk, w.heap[1]? = some (.cells c t fz) ∧ c[0]? = some (.map (some b)) ∧ w.heap[b]? = some (.map es clk) ∧ (∀ x ∈ es.toList, IsKind x.key x.val) ∧ ∀ k, (k = 1 ∨ k = 9 ∨ k = 12) → ∃ x ∈ es.toList, x.key = .int .i64 k :=
  open_kinds (h.funcs (n := "spoondrift/rev.classical") (by rw [← cla_data]; simp [laid1]))
theorem of_laid {w : World} (h : laidMetH Tryd.prog laid1 w) : ∃ c t fz, w.heap[2]? = some (.cells c t fz) ∧ ∀ (i x : Nat), wanL[i]? = some x → c[i]? = some (Value.int .i64 (Int.ofNat x)) := by
  have h1 : laidMet Tryd.prog [("spoondrift/rev.wants", Rows.laid_spoondrift_rev_wants)] w := by
    have e1 : laid1.filter (fun x => x.2.handleName?.isSome) = [("spoondrift/rev.classical", Rows.laid_spoondrift_rev_classical)] := by rfl
    have e2 : laid1.filter (fun x => x.2.handleName?.isNone) = [("spoondrift/rev.wants", Rows.laid_spoondrift_rev_wants)] := by rfl
    unfold laidMetH at h
    rw [e1, e2] at h
    exact h.1
  obtain ⟨ps, ⟨g1, t1, cs1, f1, p1, q1, hg1, ht1, hv1, hd1, _, _⟩, _, _⟩ := h1
  obtain rfl := Option.some.inj (gWan.symm.trans hg1)
  obtain rfl := Option.some.inj (tWan.symm.trans ht1)
  obtain ⟨ty, fz, hb⟩ := var_block hg1 hv1
  refine ⟨cs1, ty, fz, hb, fun i x hx => ?_⟩
  rw [wan_data] at hd1
  have := open_nums (i := i) (v := Int.ofNat x) u108 u3 hc3 hd1 (by rw [List.getElem?_map, hx]; rfl)
  simpa using this
end Go.AM

/-! ### F51 -/
namespace Go.AM
open Go.Proofs Go.Proofs.YtdokoekgdeebpaaDoor Go.RowKit
structure Arg0 where
  blk : Nat
  off : Nat
  cap : Nat
  cs : Array Value
  es : Option (List (Value × Value))
def arg0 : Arg0 := ⟨0, 0, 0, #[], none⟩
def Arg0.obj (a : Arg0) : AObj := match a.es with
  | none => .cells false a.cs
  | some es => .map false es
theorem Arg0.obj_rw (a : Arg0) : a.obj.rw = false := by
  unfold Arg0.obj; split <;> rfl
def wanCs : Array Value := #[nv 0, nv 0, nv 1, nv 2, nv 2, nv 2, nv 0, nv 0]
def mem0 (A : List Arg0) : Mem := (AObj.dead :: AObj.cells false #[.map (some 3)] :: AObj.cells false wanCs :: A.map Arg0.obj).toArray
def beta0 (A : List Arg0) : Beta where
  blk i := if i < 3 then i else (A.getD (i - 3) arg0).blk
  sh i := if i < 3 then 0 else (A.getD (i - 3) arg0).off
  cap i := if i < 3 then 1000000 else (A.getD (i - 3) arg0).off + max (A.getD (i - 3) arg0).cs.size (A.getD (i - 3) arg0).cap
def Arg0.ok (W : World) (A : List Arg0) (a : Arg0) : Prop :=
  (a.es = none → ∃ c t fz, W.heap[a.blk]? = some (.cells c t fz) ∧ ∀ (i : Nat) v, a.cs[i]? = some v → ∃ v', c[a.off + i]? = some v' ∧ VRel (beta0 A) (3 + A.length) v v') ∧
  ∀ es, a.es = some es → ∃ es' clk, W.heap[a.blk]? = some (.map es' clk) ∧ es'.size = es.length ∧ ∀ (i : Nat) x e', es[i]? = some x → es'[i]? = some e' → VRel (beta0 A) (3 + A.length) x.1 e'.key ∧ VRel (beta0 A) (3 + A.length) x.2 e'.val
theorem mem0_size (A : List Arg0) : (mem0 A).size = 3 + A.length := by simp [mem0]; omega
theorem mem0_get (A : List Arg0) (i : Nat) : Mem.get (mem0 A) i = if i = 0 then .dead else if i = 1 then .cells false #[.map (some 3)] else if i = 2 then .cells false wanCs else if h : i - 3 < A.length then (A[i - 3]).obj else .dead := by
  unfold Mem.get mem0
  rw [Array.getD_eq_getD_getElem?, List.getElem?_toArray]
  match i with
  | 0 => rfl
  | 1 => rfl
  | 2 => rfl
  | i + 3 =>
    rw [if_neg (by omega), if_neg (by omega), if_neg (by omega)]
    simp only [List.getElem?_cons_succ, Nat.add_sub_cancel, List.getElem?_map]
    by_cases h : i < A.length
    · rw [dif_pos h, List.getElem?_eq_getElem h]; rfl
    · rw [dif_neg h, List.getElem?_eq_none (by omega)]; rfl
theorem globW0 (A : List Arg0) : GlobW (mem0 A) := ⟨false, by rw [mem0_get]; rfl⟩
structure Kinds (W : World) (a : Arg0) : Prop where
  glob : ∃ c t fz, W.heap[1]? = some (.cells c t fz) ∧ c[0]? = some (.map (some a.blk))
  es : ∃ es, a.es = some es ∧ (∀ x ∈ es, IsKind x.1 x.2) ∧ ∀ k, (k = 1 ∨ k = 9 ∨ k = 12) → ∃ x ∈ es, x.1 = .int .i64 k
  ok : ∀ A, a.ok W A
theorem flat_kind {β : Beta} {N : Nat} {c : Int} {q : FuncId} : VRel β N (.agg #[.int .i64 c, .func (.func q) #[] #[]]) (.agg #[.int .i64 c, .func (.func q) #[] #[]]) := by
  refine .agg _ _ rfl fun i v v' h h' => ?_
  match i with
  | 0 => simp at h h'; subst h h'; exact .int _ _
  | 1 => simp at h h'; subst h h'; exact .func _ _ _ _ _ rfl (fun i v v' h => by simp at h) rfl (fun i v v' h => by simp at h)
  | i + 2 => simp at h
theorem kinds_ex {W : World} (hL : laidMetH Tryd.prog laid1 W) : ∃ a, Kinds W a := by
  obtain ⟨c, t, fz, b, es, clk, h0, h1, h2, h3, h4⟩ := of_laid0 hL
  refine ⟨⟨b, 0, 0, #[], some (es.toList.map fun x => (x.key, x.val))⟩, ⟨c, t, fz, h0, h1⟩, ⟨_, rfl, fun x hx => ?_, fun k hk => ?_⟩, fun A => ⟨fun h => (by cases h), fun es2 he => ?_⟩⟩
  · obtain ⟨y, hy, rfl⟩ := List.mem_map.1 hx
    exact h3 y hy
  · obtain ⟨y, hy, e⟩ := h4 k hk
    exact ⟨_, List.mem_map.2 ⟨y, hy, rfl⟩, e⟩
  · cases he
    refine ⟨es, clk, h2, by simp, fun i x e' hx he' => ?_⟩
    rw [List.getElem?_map, Array.getElem?_toList, he'] at hx
    cases hx
    have := h3 e' (by rw [← Array.mem_def]; exact Array.mem_of_getElem? he')
    rcases this with ⟨e1, e2⟩ | ⟨e1, e2⟩ | ⟨e1, e2⟩ | ⟨e1, e2⟩ <;> (simp only [e1, e2]; exact ⟨.int _ _, flat_kind⟩)
theorem sameI (a b : Int) : Instr.sameNow (.int .i64) (.int .i64 a) (.int .i64 b) = some (decide (a = b)) := by
  by_cases h : a = b
  · subst h; simp [Instr.sameNow]
  · simp [Instr.sameNow, h]
theorem find_kind {k : Nat} (hk : k = 1 ∨ k = 9 ∨ k = 12) : ∀ {es : List (Value × Value)} (i : Nat), (∀ x ∈ es, IsKind x.1 x.2) → (∃ x ∈ es, x.1 = .int .i64 (Int.ofNat k)) → ∃ j c, aFindNow (.int .i64) (nv k) es i = some (some (j, .agg #[nv c, .func (.func 76) #[] #[]]))
  | [], i, _, ⟨x, hx, _⟩ => by cases hx
  | e :: es, i, h1, h2 => by
    have hk1 := h1 e (by simp)
    obtain ⟨z, hz⟩ : ∃ z, e.1 = .int .i64 z := by rcases hk1 with h | h | h | h <;> exact ⟨_, h.1⟩
    rw [aFindNow, hz, nv, sameI]
    by_cases e1 : Int.ofNat k = z
    · subst e1
      rw [decide_eq_true rfl]
      rcases hk1 with ⟨a, b⟩ | ⟨a, b⟩ | ⟨a, b⟩ | ⟨a, b⟩
      · exact ⟨i, 0, by rw [b]; rfl⟩
      · exact ⟨i, 1, by rw [b]; rfl⟩
      · rw [hz] at a
        have := (Value.int.inj a).2
        simp at this; omega
      · exact ⟨i, 2, by rw [b]; rfl⟩
    · rw [decide_eq_false e1]
      refine find_kind hk (i + 1) (fun x hx => h1 x (by simp [hx])) ?_
      obtain ⟨x, hx, e2⟩ := h2
      rcases List.mem_cons.1 hx with rfl | hx
      · rw [hz] at e2; exact absurd (Value.int.inj e2).2.symm e1
      · exact ⟨x, hx, e2⟩
theorem globC0 {W : World} {a : Arg0} (h : Kinds W a) {A : List Arg0} (hA : A[0]? = some a) : GlobC (mem0 A) := by
  obtain ⟨es, he, h1, h2⟩ := h.es
  obtain ⟨hl, e0⟩ := List.getElem?_eq_some_iff.1 hA
  refine ⟨false, 3, false, es, by rw [mem0_get]; rfl, ?_, fun k hk => find_kind hk 0 h1 ?_⟩
  · rw [mem0_get, if_neg (by omega), if_neg (by omega), if_neg (by omega), dif_pos (by omega)]
    rw [show A[3 - 3] = a from e0, Arg0.obj, he]
  · exact h2 (Int.ofNat k) (by rcases hk with rfl | rfl | rfl <;> simp)
theorem rel0 {W : World} (hL : laidMetH Tryd.prog laid1 W) {A : List Arg0} {a0 : Arg0} (hK : Kinds W a0) (hA0 : A[0]? = some a0) (hA : ∀ a ∈ A, a.ok W A) : Rel Tryd.prog (beta0 A) (mem0 A) W := by
  obtain ⟨c, t, fz, h0, hc0⟩ := of_laid hL
  obtain ⟨ck, tk, fk, k0, k1⟩ := hK.glob
  obtain ⟨hl0, e0⟩ := List.getElem?_eq_some_iff.1 hA0
  refine ⟨by rw [mem0_size, gSize]; omega, fun g hg => ?_, fun i hi => ?_, fun i j _ hr _ => ?_⟩
  · rw [gSize] at hg
    exact ⟨if_pos hg, if_pos hg⟩
  · rw [mem0_get] at hi ⊢
    by_cases ez : i = 0
    · rw [if_pos ez] at hi; cases hi
    rw [if_neg ez] at hi ⊢
    by_cases ei : i = 1
    · subst ei
      rw [if_pos rfl] at hi ⊢
      refine ⟨_, k0, ck, tk, fk, rfl, by simp [beta0], fun j v hj => ?_, fun h => by cases h⟩
      match j with
      | 0 =>
        simp at hj; subst hj
        refine ⟨_, by simpa [beta0] using k1, ?_⟩
        have hb : (beta0 A).blk 3 = a0.blk := by
          simp only [beta0]; rw [if_neg (by omega), List.getD_eq_getElem?_getD, hA0]; rfl
        rw [← hb]
        exact .map _ (by rw [mem0_size]; omega)
      | j + 1 => simp at hj
    rw [if_neg ei] at hi ⊢
    by_cases e1 : i = 2
    · subst e1
      rw [if_pos rfl] at hi ⊢
      refine ⟨_, h0, c, t, fz, rfl, by simp [beta0, wanCs], fun j v hj => ?_, fun h => by cases h⟩
      have hj8 := (Array.getElem?_eq_some_iff.1 hj).1
      have hj8' : j < 8 := hj8
      obtain ⟨x, hx⟩ : ∃ x, wanL[j]? = some x := ⟨_, List.getElem?_eq_getElem hj8'⟩
      have hv : v = nv x := by
        have hall : ∀ j < 8, wanCs[j]? = (wanL[j]?).map fun x => nv x := by
          intro j hj
          match j, hj with
          | 0, _ => rfl
          | 1, _ => rfl
          | 2, _ => rfl
          | 3, _ => rfl
          | 4, _ => rfl
          | 5, _ => rfl
          | 6, _ => rfl
          | 7, _ => rfl
        rw [hall j hj8', hx] at hj
        exact (Option.some.inj hj).symm
      subst hv
      exact ⟨_, by simpa [beta0] using hc0 j x hx, .int _ _⟩
    rw [if_neg e1] at hi ⊢
    by_cases e4 : i - 3 < A.length
    · rw [dif_pos e4] at hi ⊢
      obtain ⟨o1, o2⟩ := hA _ (List.getElem_mem e4)
      have hb : (beta0 A).blk i = (A[i - 3]).blk := by
        simp only [beta0]; rw [if_neg (by omega), List.getD_eq_getElem?_getD, List.getElem?_eq_getElem e4]; rfl
      have hsh : (beta0 A).sh i = (A[i - 3]).off := by
        simp only [beta0]; rw [if_neg (by omega), List.getD_eq_getElem?_getD, List.getElem?_eq_getElem e4]; rfl
      have hcp : (beta0 A).cap i = (A[i - 3]).off + max (A[i - 3]).cs.size (A[i - 3]).cap := by
        simp only [beta0]; rw [if_neg (by omega), List.getD_eq_getElem?_getD, List.getElem?_eq_getElem e4]; rfl
      cases hes : (A[i - 3]).es with
      | none =>
        obtain ⟨c, t, fz, g1, g2⟩ := o1 hes
        rw [Arg0.obj, hes]
        refine ⟨_, by rw [hb]; exact g1, c, t, fz, rfl, by rw [hsh, hcp]; omega, fun j v hj => ?_, fun h => by cases h⟩
        obtain ⟨v', q1, q2⟩ := g2 j v hj
        exact ⟨v', by rw [hsh]; exact q1, by rw [mem0_size]; exact q2⟩
      | some es =>
        obtain ⟨es', clk, g1, g2, g3⟩ := o2 es hes
        rw [Arg0.obj, hes]
        exact ⟨_, by rw [hb]; exact g1, es', clk, rfl, g2, fun i x e' hx he => by rw [mem0_size]; exact g3 i x e' hx he, fun h => by cases h⟩
    · rw [dif_neg e4] at hi; cases hi
  · rw [mem0_get] at hr
    split at hr
    · cases hr
    split at hr
    · cases hr
    split at hr
    · cases hr
    split at hr
    · rw [Arg0.obj_rw] at hr; cases hr
    · cases hr
theorem arel_nil {β : Beta} {N : Nat} : ARel β N #[] #[] := ⟨rfl, fun i v v' h => by simp at h⟩
theorem arel_cons {β : Beta} {N : Nat} {v v' : Value} {l l' : List Value} (hv : VRel β N v v') (h : ARel β N l.toArray l'.toArray) : ARel β N (v :: l).toArray (v' :: l').toArray := by
  refine ⟨by have := h.1; simp at this ⊢; exact this, fun i x x' h1 h2 => ?_⟩
  cases i with
  | zero => simp at h1 h2; subst h1 h2; exact hv
  | succ i => exact h.2 i x x' (by simpa using h1) (by simpa using h2)
theorem entry {f : FuncId} {args args' : Array Value} {W : World} {A : List Arg0} (hL : laidMetH Tryd.prog laid1 W) {a0 : Arg0} (hK : Kinds W a0) (hA0 : A[0]? = some a0) (hA : ∀ a ∈ A, a.ok W A)
    (hargs : ARel (beta0 A) (3 + A.length) args args') (hc : ∃ v m', ACalls Tryd.prog f args (mem0 A) v m' ∧ v = .bool true) :
    Calls Tryd.prog f args' W fun e W' => e = .returned (.bool true) ∧ Below W.heap.size W W' := by
  have hR := rel0 hL hK hA0 hA
  obtain ⟨v, m', hcall, rfl⟩ := hc
  refine (hcall.2 _ W args' hR (by rw [mem0_size]; exact hargs)).mono ?_
  rintro e W' ⟨v', rfl, β', hv, _, hS⟩
  cases hv
  refine ⟨rfl, hS.os, hS.tape, hS.output, hS.wsz, fun k hk => hS.keep k hk fun i hi => ?_⟩
  rw [mem0_get] at hi
  split at hi
  · cases hi
  split at hi
  · cases hi
  split at hi
  · cases hi
  split at hi
  · rw [Arg0.obj_rw] at hi; cases hi
  · cases hi
end Go.AM

/-! ### F52 -/
namespace Go.AM
open Go Go.Proofs Go.Proofs.YtdokoekgdeebpaaDoor Go.RowKit Go.ChangeShapes Go.WideShapes
def KAt (k : IntKind) (m : Mem) (v : Value) (l : List Int) : Prop :=
  (l = [] ∧ (v = .slice none 0 0 ∨ ∃ b o, v = .slice (some ⟨b, o, none⟩) 0 0)) ∨
  ∃ b o cap r c, v = .slice (some ⟨b, o, some 1⟩) l.length cap ∧ l.length ≤ cap ∧ Mem.get m b = .cells r c ∧ ∀ i x, l[i]? = some x → c[o + i]? = some (.int k x)
theorem KAt.ints {m : Mem} {v : Value} {l : List Int} (h : KAt .i64 m v l) : IntsAt m v l := by
  rcases h with h | ⟨b, o, cap, r, c, h1, _, h2, h3⟩
  · exact .inl h
  · exact .inr ⟨b, o, cap, r, c, h1, h2, h3⟩
theorem cell_heap {W : World} {a : Addr} {v : Value} (h : W.cell? a = some v) : a.spot = none ∧ ∃ c t fz, W.heap[a.block]? = some (.cells c t fz) ∧ c[a.off]? = some v := by
  unfold World.cell? at h
  split at h
  · rename_i c t fz e
    split at h
    · cases h
    · rename_i hs
      exact ⟨by simpa using hs, c, t, fz, e, h⟩
  · cases h
theorem add0 (a : Addr) : a.add 0 = a := if_pos rfl
theorem mem0_arg {A : List Arg0} {i : Nat} {a : Arg0} (h : A[i]? = some a) (hn : a.es = none) : Mem.get (mem0 A) (3 + i) = .cells false a.cs := by
  obtain ⟨hi, e⟩ := List.getElem?_eq_some_iff.1 h
  rw [mem0_get, if_neg (by omega), if_neg (by omega), if_neg (by omega), dif_pos (by omega)]
  simp only [Nat.add_sub_cancel_left, e, Arg0.obj, hn]
theorem beta0_arg {A : List Arg0} {i : Nat} {a : Arg0} (h : A[i]? = some a) : (beta0 A).blk (3 + i) = a.blk ∧ (beta0 A).sh (3 + i) = a.off ∧ (beta0 A).cap (3 + i) = a.off + max a.cs.size a.cap := by
  have e : A.getD (3 + i - 3) arg0 = a := by rw [Nat.add_sub_cancel_left, List.getD_eq_getElem?_getD, h]; rfl
  refine ⟨?_, ?_, ?_⟩
  · simp only [beta0]; rw [if_neg (by omega), e]
  · simp only [beta0]; rw [if_neg (by omega), e]
  · simp only [beta0]; rw [if_neg (by omega), e]
def PartAt (A : List Arg0) (pos : Nat) (B : List Arg0) : Prop := ∀ (j : Nat) a, B[j]? = some a → A[pos + j]? = some a
theorem part_right {X Y : List Arg0} {pos : Nat} (h : X.length = pos) : PartAt (X ++ Y) pos Y := fun j a hj => by
  subst h
  rw [List.getElem?_append_right (by omega), Nat.add_sub_cancel_left]; exact hj
structure RowP (W : World) (k : IntKind) (s : Value) where
  a : Arg0
  l : List Int
  f : Nat → Value
  ok : ∀ A : List Arg0, a.ok W A
  wf : ∀ n ∈ l, (Lit.int k n).wf = true
  rel : ∀ (A : List Arg0) (i : Nat), A[i]? = some a → KAt k (mem0 A) (f i) l ∧ VRel (beta0 A) (3 + A.length) (f i) s
theorem ok0 {W : World} (hL : laidMetH Tryd.prog laid1 W) (A : List Arg0) : Arg0.ok W A ⟨1, 0, 0, #[], none⟩ := by
  obtain ⟨c0, t0, fz0, _, _, _, h0, _⟩ := of_laid0 hL
  exact ⟨fun _ => ⟨c0, t0, fz0, h0, fun i v h => by simp at h⟩, fun es h => by cases h⟩
theorem c3 : Tryd.prog.cellsOf 3 = 1 := by kernel_rfl
theorem c5 : Tryd.prog.cellsOf 5 = 1 := by kernel_rfl
theorem laidOut : laidOutB Tryd.prog = true := by kernel_rfl
theorem i64_lt {n : Int} (h : (Lit.int .i64 n).wf = true) : n < 9223372036854775808 := by
  simp [Lit.wf, IntKind.min, IntKind.max, IntKind.signed, IntKind.bits] at h
  omega
end Go.AM
namespace Go.AM
end Go.AM

/-! ### F53 -/
namespace Go.AM
open Go Go.Proofs Go.Proofs.YtdokoekgdeebpaaDoor Go.RowKit Go.ChangeShapes Go.WideShapes
theorem BAt.le {P : Nat → Prop} {m : Mem} {d d' : Nat} {v : Value} {e : BX} (h : BAt P m d v e) (hd : d ≤ d') : BAt P m d' v e := by
  induction hd with
  | refl => exact h
  | step _ ih => exact ih.up
noncomputable def fs66 : Array Field := match Tryd.prog.underlying 66 with
  | some (.struct fs) => fs
  | _ => #[]
theorem u66 : Tryd.prog.underlying 66 = some (.struct fs66) := by kernel_rfl
theorem f66 : fs66.toList.map (fun f => (f.type, f.offset)) = [(3, 0), (3, 1), (64, 2)] := by kernel_rfl
theorem u64 : Tryd.prog.underlying 64 = some (.slice 66) := by kernel_rfl
theorem c66 : Tryd.prog.cellsOf 66 = 3 := by kernel_rfl
theorem c64 : Tryd.prog.cellsOf 64 = 1 := by kernel_rfl
theorem u3' : Tryd.prog.underlying 3 = some (.int .i64) := by kernel_rfl
theorem fs66_get {i : Nat} {t o : Nat} (h : [(3, 0), (3, 1), (64, 2)][i]? = some (t, o)) : ∃ f, fs66[i]? = some f ∧ f.type = t ∧ f.offset = o := by
  rw [← f66, List.getElem?_map, Option.map_eq_some_iff] at h
  obtain ⟨f, h1, h2⟩ := h
  exact ⟨f, by simpa using h1, congrArg Prod.fst h2, congrArg Prod.snd h2⟩
theorem open_bool3 {H : Type} {enc : TypeId × Value → H} {W : World} {fuel : Nat} {cs : List Value} {x : DataW H × List MemPlace} (h : DataW.trod enc Tryd.prog W 0 (fun _ => true) true fuel 66 cs = some x) :
    ∃ (k v : Int) (s : Value) (n : Nat) (y : DataW H × List MemPlace), fuel = n + 1 ∧ cs = [.int .i64 k, .int .i64 v, s] ∧ DataW.trod enc Tryd.prog W 0 (fun _ => true) true n 64 [s] = some y := by
  obtain ⟨xs, n, rfl, _, hl, hlx, hx⟩ := DataW.trod_struct u66 h
  have hsz : fs66.size = 3 := by have := congrArg List.length f66; simpa using this
  rw [c66] at hl
  obtain ⟨a, b, c, rfl⟩ : ∃ a b c, cs = [a, b, c] := by
    match cs, hl with
    | [a, b, c], _ => exact ⟨a, b, c, rfl⟩
  obtain ⟨y0, y1, y2, rfl⟩ : ∃ a b c, xs = [a, b, c] := by
    rw [hsz] at hlx
    match xs, hlx with
    | [a, b, c], _ => exact ⟨a, b, c, rfl⟩
  obtain ⟨g0, e0, t0, o0⟩ := fs66_get (i := 0) rfl
  obtain ⟨g1, e1, t1, o1⟩ := fs66_get (i := 1) rfl
  obtain ⟨g2, e2, t2, o2⟩ := fs66_get (i := 2) rfl
  have h0 := hx 0 g0 e0
  have h1 := hx 1 g1 e1
  have h2 := hx 2 g2 e2
  rw [t0, o0, c3] at h0
  rw [t1, o1, c3] at h1
  rw [t2, o2, c64] at h2
  obtain ⟨k, hk, _⟩ := DataW.trod_int u3' h0
  obtain ⟨v, hv, _⟩ := DataW.trod_int u3' h1
  simp at hk hv
  subst hk hv
  exact ⟨k, v, c, n, y2, rfl, rfl, h2⟩
def kidCells (es : List BX) (ws : Nat → Value) : Array Value := ((List.range (es.length * 3)).map fun i => if i % 3 = 0 then .int .i64 (es.getD (i / 3) default).kind else if i % 3 = 1 then .int .i64 (es.getD (i / 3) default).var else ws (i / 3)).toArray
theorem kid_size (es : List BX) (ws : Nat → Value) : (kidCells es ws).size = es.length * 3 := by simp [kidCells]
theorem kid_get {es : List BX} {ws : Nat → Value} {i : Nat} {a : BX} (h : es[i]? = some a) : (kidCells es ws)[i * 3]? = some (.int .i64 a.kind) ∧ (kidCells es ws)[i * 3 + 1]? = some (.int .i64 a.var) ∧ (kidCells es ws)[i * 3 + 2]? = some (ws i) := by
  have hl := (List.getElem?_eq_some_iff.1 h).1
  have hd : es.getD i default = a := by rw [List.getD_eq_getElem?_getD, h]; rfl
  have key : ∀ j, j < es.length * 3 → (kidCells es ws)[j]? = some (if j % 3 = 0 then .int .i64 (es.getD (j / 3) default).kind else if j % 3 = 1 then .int .i64 (es.getD (j / 3) default).var else ws (j / 3)) := fun j hj => by
    unfold kidCells
    rw [List.getElem?_toArray, List.getElem?_map, List.getElem?_range hj]; rfl
  refine ⟨?_, ?_, ?_⟩
  · rw [key _ (by omega), if_pos (by omega), show i * 3 / 3 = i by omega, hd]
  · rw [key _ (by omega), if_neg (by omega), if_pos (by omega), show (i * 3 + 1) / 3 = i by omega, hd]
  · rw [key _ (by omega), if_neg (by omega), if_neg (by omega), show (i * 3 + 2) / 3 = i by omega]
theorem extr3 {c : Array Value} {i : Nat} {x y z : Value} (h0 : c[i]? = some x) (h1 : c[i + 1]? = some y) (h2 : c[i + 2]? = some z) : c.extract i (i + 3) = #[x, y, z] := by
  have hs := (Array.getElem?_eq_some_iff.1 h2).1
  apply Array.ext_getElem?
  intro j
  rw [Array.getElem?_extract]
  by_cases hj : j < min (i + 3) c.size - i
  · rw [if_pos hj]
    have hj3 : j = 0 ∨ j = 1 ∨ j = 2 := by omega
    rcases hj3 with rfl | rfl | rfl
    · exact h0
    · exact h1
    · exact h2
  · rw [if_neg hj]
    symm
    rw [Array.getElem?_eq_none_iff]
    show 3 ≤ j
    omega
def KidP (W : World) (s : Value) (e : BX) (d L : Nat) (B : Nat → List Arg0) (w : Nat → Value) : Prop :=
  (∀ pos, (B pos).length = L) ∧ (∀ d, BLen d e) ∧
  ∀ (A : List Arg0) (pos : Nat), PartAt A pos (B pos) → (∀ a ∈ B pos, a.ok W A) ∧ BAt (fun _ => True) (mem0 A) d (.agg #[.int .i64 e.kind, .int .i64 e.var, w pos]) e ∧ VRel (beta0 A) (3 + A.length) (w pos) s
theorem part_app {A B C : List Arg0} {pos L : Nat} (h : PartAt A pos (B ++ C)) (hL : B.length = L) : PartAt A pos B ∧ PartAt A (pos + L) C := by
  subst hL
  refine ⟨fun j a hj => h j a ?_, fun j a hj => ?_⟩
  · rw [List.getElem?_append_left (List.getElem?_eq_some_iff.1 hj).1]; exact hj
  · rw [Nat.add_assoc]
    refine h _ a ?_
    rw [List.getElem?_append_right (by omega), Nat.add_sub_cancel_left]; exact hj
theorem cells3 {W : World} {b o : Nat} {cs : List Value} (h : W.cells? 0 ⟨b, o, none⟩ 3 = some cs) : ∃ x y z, cs = [x, y, z] ∧ W.cell? ⟨b, o, none⟩ = some x ∧ W.cell? ⟨b, o + 1, none⟩ = some y ∧ W.cell? ⟨b, o + 2, none⟩ = some z := by
  unfold World.cells? at h
  rw [if_pos (Nat.zero_le _)] at h
  have hl := mapM_some_length h
  obtain ⟨x, y, z, rfl⟩ : ∃ a b c, cs = [a, b, c] := by
    match cs, hl with
    | [a, b, c], _ => exact ⟨a, b, c, rfl⟩
  have g0 := mapM_some_get h 0 0 rfl
  have g1 := mapM_some_get h 1 1 rfl
  have g2 := mapM_some_get h 2 2 rfl
  simp only [add_plain, Nat.add_zero] at g0 g1 g2
  exact ⟨x, y, z, rfl, g0, g1, g2⟩
theorem bool_of {H : Type} {enc : TypeId × Value → H} {W : World} (hL : laidMetH Tryd.prog laid1 W) (fuel : Nat) : ∀ {cs : List Value} {x : DataW H × List MemPlace}, DataW.trod enc Tryd.prog W 0 (fun _ => true) true fuel 66 cs = some x →
    ∃ (s : Value) (e : BX) (d L : Nat) (B : Nat → List Arg0) (w : Nat → Value), cs = [.int .i64 e.kind, .int .i64 e.var, s] ∧ KidP W s e d L B w := by
  induction fuel using Nat.strongRecOn with
  | ind fuel ih =>
    intro cs x h
    obtain ⟨k, v, s, n, y, rfl, rfl, h2⟩ := open_bool3 h
    rcases DataW.trod_slice u64 h2 with ⟨hcs, _⟩ | ⟨a, len, cap, elems, rest, n', rfl, hcs, _, _, hl, hm, hlen, hel, _, _⟩
    · obtain rfl : s = .slice none 0 0 := by simpa using hcs
      refine ⟨_, .mk k v [], 1, 0, fun _ => [], fun _ => .slice none 0 0, rfl, fun _ => rfl, fun d => ?_, fun A pos _ => ⟨fun a ha => (by cases ha), ⟨_, rfl, .inl ⟨rfl, _, _, rfl⟩⟩, .sliceNil⟩⟩
      cases d with
      | zero => trivial
      | succ d => exact ⟨by show (0 : Nat) ≤ _; decide, fun a ha => by cases ha⟩
    · obtain rfl : s = .slice (some a) len cap := by simpa using hcs
      rw [c66] at hel
      by_cases h0 : len = 0
      · subst h0
        refine ⟨_, .mk k v [], 1, 0, fun _ => [], fun _ => .slice (some ⟨0, 0, none⟩) 0 0, rfl, fun _ => rfl, fun d => ?_, fun A pos _ => ⟨fun a ha => (by cases ha), ⟨_, rfl, .inl ⟨rfl, _, _, rfl⟩⟩, .lost _ _ _ trivial⟩⟩
        cases d with
        | zero => trivial
        | succ d => exact ⟨by show (0 : Nat) ≤ _; decide, fun a ha => by cases ha⟩
      have hel' : ∀ i, i < len → ∃ cs y, W.cells? 0 (a.add (i * 3)) 3 = some cs ∧ DataW.trod enc Tryd.prog W 0 (fun _ => true) true n' 66 cs = some y := fun i hi => by
        have h1 := hel i hi
        rw [List.getElem?_eq_getElem (by omega), Option.bind_eq_some_iff] at h1
        obtain ⟨cs, h1, h2⟩ := h1
        exact ⟨cs, _, h1, h2⟩
      obtain ⟨b, o, hsp⟩ := a
      obtain rfl : hsp = none := by
        obtain ⟨cs, y, h1, _⟩ := hel' 0 (by omega)
        rw [Nat.zero_mul, add0] at h1
        unfold World.cells? at h1
        rw [if_pos (Nat.zero_le _)] at h1
        have hl1 := mapM_some_length h1
        have g0 := mapM_some_get h1 0 0 rfl
        rw [add0, List.getElem?_eq_getElem (by rw [hl1]; decide)] at g0
        exact (cell_heap g0).1
      simp only [add_plain] at hel'
      have hblk : ∃ c t fz, W.heap[b]? = some (.cells c t fz) := by
        obtain ⟨cs, y, h1, _⟩ := hel' 0 (by omega)
        obtain ⟨x, y, z, _, g0, _⟩ := cells3 h1
        obtain ⟨_, c, t, fz, hh, _⟩ := cell_heap g0
        exact ⟨c, t, fz, hh⟩
      obtain ⟨c, t, fz, hh⟩ := hblk
      have hc : ∀ {j : Nat} {v : Value}, W.cell? ⟨b, j, none⟩ = some v → c[j]? = some v := fun {j v} hj => by
        obtain ⟨_, c', t', fz', h3, h4⟩ := cell_heap hj
        obtain ⟨rfl, rfl, rfl⟩ : c = c' ∧ t = t' ∧ fz = fz' := by
          have : W.heap[b]? = some (.cells c' t' fz') := h3
          rw [hh] at this; injection this with this; injection this with a b c; exact ⟨a, b, c⟩
        exact h4
      have hcomb : ∀ kk, kk ≤ len → ∃ (L : Nat) (B : Nat → List Arg0) (ws : Nat → Nat → Value) (es : List BX) (d : Nat), es.length = kk ∧ (∀ pos, (B pos).length = L) ∧ (∀ a ∈ es, ∀ d, BLen d a) ∧
          ∀ (A : List Arg0) (pos : Nat), PartAt A pos (B pos) → (∀ a ∈ B pos, a.ok W A) ∧ ∀ (i : Nat) (a : BX), es[i]? = some a → BAt (fun _ => True) (mem0 A) d (.agg #[.int .i64 a.kind, .int .i64 a.var, ws pos i]) a ∧
            ∃ s, c[o + i * 3]? = some (.int .i64 a.kind) ∧ c[o + i * 3 + 1]? = some (.int .i64 a.var) ∧ c[o + i * 3 + 2]? = some s ∧ VRel (beta0 A) (3 + A.length) (ws pos i) s := by
        intro kk
        induction kk with
        | zero => intro _; exact ⟨0, fun _ => [], fun _ _ => .bool true, [], 0, rfl, fun _ => rfl, fun a ha => (by cases ha), fun A pos _ => ⟨fun a ha => (by cases ha), fun i a hi => by simp at hi⟩⟩
        | succ kk ihk =>
          intro hkk
          obtain ⟨L, B, ws, es, d, e1, e2, e3, e4⟩ := ihk (by omega)
          obtain ⟨cs, y, h1, h2⟩ := hel' kk (by omega)
          obtain ⟨s', e', d', L', B', w', rfl, f2, f3, f4⟩ := ih n' (by omega) h2
          obtain ⟨x0, x1, x2, hx, g0, g1, g2⟩ := cells3 h1
          simp only [List.cons.injEq, and_true] at hx
          obtain ⟨rfl, rfl, rfl⟩ := hx
          refine ⟨L + L', fun pos => B pos ++ B' (pos + L), fun pos i => if i < kk then ws pos i else w' (pos + L), es ++ [e'], max d d', by simp [e1], fun pos => by simp [e2, f2], fun a ha => ?_, fun A pos hp => ?_⟩
          · rcases List.mem_append.1 ha with ha | ha
            · exact e3 a ha
            · rw [List.mem_singleton.1 ha]; exact f3
          · obtain ⟨p1, p2⟩ := part_app hp (e2 pos)
            obtain ⟨o1, q1⟩ := e4 A pos p1
            obtain ⟨o2, q2, q3⟩ := f4 A (pos + L) p2
            refine ⟨fun a ha => (List.mem_append.1 ha).elim (o1 a) (o2 a), fun i a hi => ?_⟩
            by_cases hik : i < kk
            · rw [List.getElem?_append_left (by omega)] at hi
              simp only [if_pos hik]
              obtain ⟨r1, r2⟩ := q1 i a hi
              exact ⟨r1.le (Nat.le_max_left _ _), r2⟩
            · have hil := (List.getElem?_eq_some_iff.1 hi).1
              simp only [List.length_append, List.length_singleton] at hil
              obtain rfl : i = kk := by omega
              rw [List.getElem?_append_right (by omega), e1, Nat.sub_self] at hi
              obtain rfl : e' = a := by injection hi
              simp only [Nat.lt_irrefl, if_false]
              exact ⟨q2.le (Nat.le_max_right _ _), s', hc g0, hc g1, hc g2, q3⟩
      obtain ⟨L, B, ws, es, d, e1, e2, e3, e4⟩ := hcomb len (Nat.le_refl _)
      refine ⟨_, .mk k v es, d + 1, 1 + L, fun pos => [⟨b, o, cap * 3, kidCells es (ws (pos + 1)), none⟩] ++ B (pos + 1), fun pos => .slice (some ⟨3 + pos, 0, some 3⟩) len cap, rfl, fun pos => by simp [e2]; omega, fun d => ?_, fun A pos hp => ?_⟩
      · cases d with
        | zero => trivial
        | succ d => exact ⟨by show es.length ≤ _; unfold maxLen at hm; omega, fun a ha => e3 a ha d⟩
      · obtain ⟨p1, p2⟩ := part_app (L := 1) hp rfl
        obtain ⟨o2, q2⟩ := e4 A (pos + 1) p2
        have hA := p1 0 _ rfl
        rw [Nat.add_zero] at hA
        obtain ⟨b1, b2, b3⟩ := beta0_arg hA
        have hi := (List.getElem?_eq_some_iff.1 hA).1
        refine ⟨fun a ha => ?_, ⟨.slice (some ⟨3 + pos, 0, some 3⟩) len cap, rfl, .inr ⟨3 + pos, 0, cap, false, kidCells es (ws (pos + 1)), by rw [← e1]; rfl, trivial, mem0_arg hA rfl, fun i a' hia => ?_⟩⟩, ?_⟩
        · rcases List.mem_append.1 ha with ha | ha
          · rw [List.mem_singleton.1 ha]
            refine ⟨fun _ => ⟨c, t, fz, hh, fun j v' hj => ?_⟩, fun es h => by cases h⟩
            have hj3 := (Array.getElem?_eq_some_iff.1 hj).1
            replace hj3 : j < (kidCells es (ws (pos + 1))).size := hj3
            rw [kid_size] at hj3
            obtain ⟨a', ha'⟩ : ∃ a', es[j / 3]? = some a' := ⟨_, List.getElem?_eq_getElem (by omega)⟩
            obtain ⟨k0, k1, k2⟩ := kid_get (ws := ws (pos + 1)) ha'
            obtain ⟨_, s, r0, r1, r2, r3⟩ := q2 (j / 3) a' ha'
            replace hj : (kidCells es (ws (pos + 1)))[j]? = some v' := hj
            have hc3 : j = j / 3 * 3 ∨ j = j / 3 * 3 + 1 ∨ j = j / 3 * 3 + 2 := by omega
            show ∃ v'', c[o + j]? = some v'' ∧ _
            rcases hc3 with hc3 | hc3 | hc3
            · rw [hc3, k0] at hj; injection hj with hj; subst hj
              exact ⟨_, by rw [hc3]; exact r0, .int _ _⟩
            · rw [hc3, k1] at hj; injection hj with hj; subst hj
              exact ⟨_, by rw [hc3]; exact r1, .int _ _⟩
            · rw [hc3, k2] at hj; injection hj with hj; subst hj
              exact ⟨_, by rw [hc3]; exact r2, r3⟩
          · exact o2 a ha
        · replace hia : es[i]? = some a' := hia
          have hil := (List.getElem?_eq_some_iff.1 hia).1
          obtain ⟨k0, k1, k2⟩ := kid_get (ws := ws (pos + 1)) hia
          refine ⟨by rw [kid_size]; omega, ?_⟩
          rw [Nat.zero_add, extr3 k0 k1 k2]
          exact (q2 i a' hia).1
        · have := VRel.slice (β := beta0 A) (N := 3 + A.length) (3 + pos) 0 3 len cap cap (by omega) (by omega) hl (Nat.le_refl _) (by rw [b2, b3]; simp only; omega) (by unfold maxLen at hm; omega)
          rw [b1, b2] at this
          exact this
theorem bool_arg {H : Type} {enc : TypeId × Value → H} {W : World} {r : Reach} {base : Nat} {v : Value} {d : DataW H} {p : List MemPlace} (hL : laidMetH Tryd.prog laid1 W)
    (hval : Value.okWide Tryd.prog W r base 66 v) (hd : DataW.Trod enc Tryd.prog W 0 (fun _ => true) true 66 v d p) :
    ∃ (L : Nat) (B : Nat → List Arg0) (e : BX) (dd : Nat) (f : Nat → Value), (∀ pos, (B pos).length = L) ∧ (∀ d, BLen d e) ∧
      ∀ (A : List Arg0) (pos : Nat), PartAt A pos (B pos) → (∀ a ∈ B pos, a.ok W A) ∧ BAt (fun _ => True) (mem0 A) dd (f pos) e ∧ VRel (beta0 A) (3 + A.length) (f pos) v := by
  obtain ⟨cs, rfl, _⟩ := okWide_struct u66 hval
  obtain ⟨fuel, hf⟩ := hd
  obtain ⟨s, e, dd, L, B, w, hcs, h1, h2, h3⟩ := bool_of hL fuel hf
  obtain rfl : cs = #[.int .i64 e.kind, .int .i64 e.var, s] := by
    have : cs.toList = [.int .i64 e.kind, .int .i64 e.var, s] := hcs
    rw [← Array.toArray_toList (xs := cs), this]
  refine ⟨L, B, e, dd, fun pos => .agg #[.int .i64 e.kind, .int .i64 e.var, w pos], h1, h2, fun A pos hp => ?_⟩
  obtain ⟨k1, k2, k3⟩ := h3 A pos hp
  refine ⟨k1, k2, .agg _ _ rfl fun i v v' hv hv' => ?_⟩
  match i with
  | 0 => simp at hv hv'; subst hv hv'; exact .int _ _
  | 1 => simp at hv hv'; subst hv hv'; exact .int _ _
  | 2 => simp at hv hv'; subst hv hv'; exact k3
  | i + 3 => simp at hv
end Go.AM
