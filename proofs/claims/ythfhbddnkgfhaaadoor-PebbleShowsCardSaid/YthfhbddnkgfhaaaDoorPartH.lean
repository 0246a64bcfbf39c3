/- Part 8 of the proof: Contracts of the program's functions. -/
import Derived.Test.YthfhbddnkgfhaaaDoorPartG
import Derived.Test.YthfhbddnkgfhaaaDoorPartF
import Derived.Test.YthfhbddnkgfhaaaDoorRows
import Derived.ProofKit
import Derived.LaidMore
import Derived.LaidHandle
import Derived.OpenShut
import Derived.Stop.Joined
import Derived.Below
import Derived.Carry
import Derived.ChangeSlices
import Derived.WideShapes
set_option linter.unusedVariables false
set_option linter.unusedSimpArgs false
/-! ### P33 -/
namespace Go.AM
open Go.Proofs
set_option maxRecDepth 100000
set_option linter.unusedVariables false
set_option linter.unusedSimpArgs false

theorem eqB (x : Bool) : aBin Tryd.prog .eql 4 (.bool x) (.bool x) = some (.bool true) := by
  cases x <;> kernel_rfl
theorem ls_closed (G : List (List Int)) (k : Int) : (ifOk (closedE G k) (closedG G k) []).length ≤ 1024 := by
  by_cases h : closedE G k = 0
  · rw [ifOk_0 h]
    have h0 : checkG G = 0 := by
      unfold closedE at h
      split at h
      · assumption
      · exact h
    obtain ⟨N, rfl, hN⟩ := checkG_nat h0
    rw [closedG, ofs2_length]
    exact Nat.le_trans (closedUp_len _ _) (Nat.pow_le_pow_right (n := 2) (by omega) hN.ten)
  · rw [ifOk_n h]; simp

theorem okf4 : okF Tryd.prog H0 4 103 = true := by kernel_rfl
theorem spec_ShowsLaw {m : Mem} {s a b : Value} {G : List (List Int)} {gs ps : List Int} {k : Int} (hGl : GlobP m) (hG : RowsAt m s G) (ha : IntsAt m a gs) (hb : IntsAt m b ps) : ∃ v m', ACalls Tryd.prog 4 #[.agg #[s], a, .int .i64 k, b] m v m' ∧ (v = .bool true ∧ True) := by
  obtain ⟨q, cap, rfl⟩ := hG.len
  obtain ⟨qg, cg, rfl⟩ := ha.len
  obtain ⟨qp, cp, rfl⟩ := hb.len
  have E : Ext m m := .refl _
  refine wpF (args := [_, _, _, _]) mixed okf4 (fn := Tryd.f4) rfl rfl rfl (by simp) ?_
  refine cSeq ?_
  refine cRegion ?_
  refine sBox (v := .agg _) rfl ?_
  have x_ : Ext m (m.push (.cells true #[.slice q G.length cap])) := .push _ _
  replace hG := hG.ext x_
  replace ha := ha.ext x_
  replace hb := hb.ext x_
  replace E := E.trans x_
  replace hGl := hGl.ext x_
  clear x_
  have gD : Mem.get (m.push (.cells true #[.slice q G.length cap])) m.size = .cells true #[.slice q G.length cap] := gP rfl
  refine sAs (v := .bool _) rfl ?_
  refine sNil (kSeqN ?_)
  refine cSeq ?_   -- seq 1
  refine cSeq ?_
  refine cRegion ?_
  refine sLdAll A24 S24 rfl gD rfl ?_
  obtain ⟨v22, m22, h_, rfl, e_⟩ := spec_Great hG
  refine sCall1 rfl call12 rfl h_ ?_
  clear h_
  have x_ : Ext (m.push (.cells true #[.slice q G.length cap])) m22 := e_
  replace hG := hG.ext x_
  replace ha := ha.ext x_
  replace hb := hb.ext x_
  replace E := E.trans x_
  replace hGl := hGl.ext x_
  replace gD := x_.cells gD
  clear x_
  clear e_
  refine sMv (v := .bool _) rfl ?_
  by_cases h1 : greatB G = true
  ·
    rw [h1]
    refine sGno (q' := true) rfl rfl (by simp) ?_
    refine sGno (q' := true) rfl rfl (by simp) ?_
    refine sGno (q' := true) rfl rfl (by simp) ?_
    refine sP (v := .bool _) rfl ?_
    refine sMv (v := .bool _) rfl ?_
    refine sGno (q' := true) rfl rfl (by simp) ?_
    refine sGno (q' := true) rfl rfl (by simp) ?_
    refine sGno (q' := true) rfl rfl (by simp) ?_
    refine sP (v := .bool _) rfl ?_
    refine sNil (kSeqN ?_)
    refine cCondT rfl ?_
    refine cSeq ?_
    refine cRegion ?_
    obtain ⟨v28, m28, h28, rfl, e28⟩ := spec_awake hGl
    refine sCall0 rfl call13 h28 ?_
    refine sAs (v := .bool _) rfl ?_
    refine sNil (kSeqN ?_)
    refine cRet (kSeqR ?_)
    exact ⟨.inr rfl, _, rfl, rfl, trivial⟩
  ·
    rw [Bool.eq_false_iff.2 h1]
    obtain ⟨hgl, hgr⟩ := greatB_not h1
    refine sG rfl rfl ?_
    refine sMv (v := .slice _ _ _) rfl ?_
    refine sG rfl rfl ?_
    refine sLen T25 rfl ?_
    refine sG rfl rfl ?_
    refine sBin (b := 20) rfl rfl aInt_gtr ?_
    refine sP (v := .bool _) rfl ?_
    refine sMv (v := .bool _) rfl ?_
    by_cases h2 : 20 < gs.length
    ·
      rw [decide_eq_true h2]
      refine sGno (q' := true) rfl rfl (by simp) ?_
      refine sGno (q' := true) rfl rfl (by simp) ?_
      refine sGno (q' := true) rfl rfl (by simp) ?_
      refine sP (v := .bool _) rfl ?_
      refine sNil (kSeqN ?_)
      refine cCondT rfl ?_
      refine cSeq ?_
      refine cRegion ?_
      obtain ⟨v28, m28, h28, rfl, e28⟩ := spec_awake hGl
      refine sCall0 rfl call13 h28 ?_
      refine sAs (v := .bool _) rfl ?_
      refine sNil (kSeqN ?_)
      refine cRet (kSeqR ?_)
      exact ⟨.inr rfl, _, rfl, rfl, trivial⟩
    ·
      rw [decide_eq_false h2]
      have hgs : gs.length < 1000000 := by omega
      refine sG rfl rfl ?_
      refine sMv (v := .slice _ _ _) rfl ?_
      refine sG rfl rfl ?_
      refine sLen T25 rfl ?_
      refine sG rfl rfl ?_
      refine sBin (b := 1100) rfl rfl aInt_gtr ?_
      refine sP (v := .bool _) rfl ?_
      refine sNil (kSeqN ?_)
      refine cCond (p := 1100 < ps.length) rfl (fun c2 => ?_) (fun c2 => ?_)
      ·
        refine cSeq ?_
        refine cRegion ?_
        obtain ⟨v28, m28, h28, rfl, e28⟩ := spec_awake hGl
        refine sCall0 rfl call13 h28 ?_
        refine sAs (v := .bool _) rfl ?_
        refine sNil (kSeqN ?_)
        refine cRet (kSeqR ?_)
        exact ⟨.inr rfl, _, rfl, rfl, trivial⟩
      ·
        have hps : ps.length < 1000000 := by omega
        refine cSkip (kSeqN ?_)
        refine cSeq ?_
        refine cRegion ?_
        refine sLdAll A24 S24 rfl gD rfl ?_
        obtain ⟨v30, m30, h_, w30, cs30, rfl, oO, e_⟩ := spec_Own hG hgl hgr
        obtain ⟨qO, cO, rfl⟩ := oO.1.len
        have rO := oO.rows
        refine sCall1 rfl call14 rfl h_ ?_
        clear h_
        have x_ : Ext m22 m30 := e_
        replace hG := hG.ext x_
        replace ha := ha.ext x_
        replace hb := hb.ext x_
        replace E := E.trans x_
        replace hGl := hGl.ext x_
        replace gD := x_.cells gD
        clear x_
        clear e_
        refine sMv (v := .slice _ _ _) rfl ?_
        obtain ⟨v32, m32, h_, oL, e_⟩ := spec_Clone ha (by omega)
        have iL := oL.ints
        obtain ⟨qL, cL, rfl⟩ := iL.len
        refine sCall1 rfl call15 rfl h_ ?_
        clear h_
        have x_ : Ext m30 m32 := e_
        replace hG := hG.ext x_
        replace ha := ha.ext x_
        replace hb := hb.ext x_
        replace E := E.trans x_
        replace hGl := hGl.ext x_
        replace gD := x_.cells gD
        replace rO := rO.ext x_
        clear x_
        clear e_
        refine sMv (v := .slice _ _ _) rfl ?_
        obtain ⟨v38, m38, h_, oP, e_⟩ := spec_Clone hb (by omega)
        have iP := oP.ints
        obtain ⟨qP, cP, rfl⟩ := iP.len
        refine sCall1 rfl call15 rfl h_ ?_
        clear h_
        have x_ : Ext m32 m38 := e_
        replace hG := hG.ext x_
        replace ha := ha.ext x_
        replace hb := hb.ext x_
        replace E := E.trans x_
        replace hGl := hGl.ext x_
        replace gD := x_.cells gD
        replace rO := rO.ext x_
        replace iL := iL.ext x_
        clear x_
        clear e_
        refine sAlloc Z24 (by kernel_rfl) ?_
        refine sStNA S24 rfl rfl rfl rfl (by kernel_rfl) ?_
        have x_ : Ext m38 (m38.push (.cells true #[.slice qO G.length cO])) := .push _ _
        replace hG := hG.ext x_
        replace ha := ha.ext x_
        replace hb := hb.ext x_
        replace E := E.trans x_
        replace hGl := hGl.ext x_
        replace gD := x_.cells gD
        replace rO := rO.ext x_
        replace iL := iL.ext x_
        replace iP := iP.ext x_
        clear x_
        have gO : Mem.get (m38.push (.cells true #[.slice qO G.length cO])) m38.size = .cells true #[.slice qO G.length cO] := gP rfl
        refine sAs (v := .slice _ _ _) rfl ?_
        refine sAs (v := .slice _ _ _) rfl ?_
        refine sNil (kSeqN ?_)
        refine cSeq ?_
        refine cRegion ?_
        refine sLdAll A24 S24 rfl gO rfl ?_
        refine sMv (v := .int _ _) rfl ?_
        obtain ⟨v42, m42, h_, w42, rfl, o42, e_⟩ := spec_Closed (k := k) rO
        have i42 := o42.ints
        obtain ⟨q42, c42, rfl⟩ := i42.lenN
        refine sCall2 rfl call25 rfl rfl h_ ?_
        clear h_
        have x_ : Ext (m38.push (.cells true #[.slice qO G.length cO])) m42 := e_
        replace hG := hG.ext x_
        replace ha := ha.ext x_
        replace hb := hb.ext x_
        replace E := E.trans x_
        replace hGl := hGl.ext x_
        replace gD := x_.cells gD
        replace rO := rO.ext x_
        replace iL := iL.ext x_
        replace iP := iP.ext x_
        replace gO := x_.cells gO
        clear x_
        clear e_
        refine sMv (v := .tuple _) rfl ?_
        refine sP (v := .slice _ _ _) rfl ?_   -- extract ['t39', '0']
        refine sP (v := nv _) rfl ?_   -- extract ['t39', '1']
        refine sAs (v := .slice _ _ _) rfl ?_
        refine sAs (v := nv _) rfl ?_
        refine sNil (kSeqN ?_)
        refine cSeq ?_
        refine cRegion ?_
        refine sLdAll A24 S24 rfl gD rfl ?_
        refine sMv (v := .int _ _) rfl ?_
        obtain ⟨v48, m48, h_, w48, rfl, o48, e_⟩ := spec_refClosed (k := k) hG
        have i48 := o48.ints
        obtain ⟨q48, c48, rfl⟩ := i48.lenN
        refine sCall2 rfl call26 rfl rfl h_ ?_
        clear h_
        have x_ : Ext m42 m48 := e_
        replace hG := hG.ext x_
        replace ha := ha.ext x_
        replace hb := hb.ext x_
        replace E := E.trans x_
        replace hGl := hGl.ext x_
        replace gD := x_.cells gD
        replace rO := rO.ext x_
        replace iL := iL.ext x_
        replace iP := iP.ext x_
        replace gO := x_.cells gO
        replace i42 := i42.ext x_
        clear x_
        clear e_
        refine sMv (v := .tuple _) rfl ?_
        refine sP (v := .slice _ _ _) rfl ?_   -- extract ['t45', '0']
        refine sP (v := nv _) rfl ?_   -- extract ['t45', '1']
        refine sAs (v := .slice _ _ _) rfl ?_
        refine sAs (v := nv _) rfl ?_
        refine sNil (kSeqN ?_)
        refine cSeq ?_
        refine cRegion ?_
        refine sLdAll A24 S24 rfl gO rfl ?_
        refine sMv (v := .slice _ _ _) rfl ?_
        refine sMv (v := .int _ _) rfl ?_
        refine sMv (v := .slice _ _ _) rfl ?_
        obtain ⟨v56, m56, h_, rfl, e_⟩ := spec_Shows (k := k) hGl rO iL hgs iP hps
        refine sCall4 rfl call27 rfl rfl rfl rfl h_ ?_
        clear h_
        have x_ : Ext m48 m56 := e_
        replace hG := hG.ext x_
        replace ha := ha.ext x_
        replace hb := hb.ext x_
        replace E := E.trans x_
        replace hGl := hGl.ext x_
        replace gD := x_.cells gD
        replace rO := rO.ext x_
        replace iL := iL.ext x_
        replace iP := iP.ext x_
        replace gO := x_.cells gO
        replace i42 := i42.ext x_
        replace i48 := i48.ext x_
        clear x_
        clear e_
        refine sMv (v := .tuple _) rfl ?_
        refine sP (v := .bool _) rfl ?_   -- extract ['t51', '0']
        refine sP (v := nv _) rfl ?_   -- extract ['t51', '1']
        refine sAs (v := .bool _) rfl ?_
        refine sAs (v := nv _) rfl ?_
        refine sNil (kSeqN ?_)
        refine cSeq ?_
        refine cRegion ?_
        refine sLdAll A24 S24 rfl gD rfl ?_
        refine sMv (v := .slice _ _ _) rfl ?_
        refine sMv (v := .int _ _) rfl ?_
        refine sMv (v := .slice _ _ _) rfl ?_
        obtain ⟨v64, m64, h_, rfl, e_⟩ := spec_refShows (k := k) hG ha hgs hb hps
        refine sCall4 rfl call28 rfl rfl rfl rfl h_ ?_
        clear h_
        have x_ : Ext m56 m64 := e_
        replace hG := hG.ext x_
        replace ha := ha.ext x_
        replace hb := hb.ext x_
        replace E := E.trans x_
        replace hGl := hGl.ext x_
        replace gD := x_.cells gD
        replace rO := rO.ext x_
        replace iL := iL.ext x_
        replace iP := iP.ext x_
        replace gO := x_.cells gO
        replace i42 := i42.ext x_
        replace i48 := i48.ext x_
        clear x_
        clear e_
        refine sMv (v := .tuple _) rfl ?_
        refine sP (v := .bool _) rfl ?_   -- extract ['t59', '0']
        refine sP (v := nv _) rfl ?_   -- extract ['t59', '1']
        refine sAs (v := .bool _) rfl ?_
        refine sAs (v := nv _) rfl ?_
        refine sNil (kSeqN ?_)
        refine cSeq ?_
        refine cRegion ?_
        refine sMv (v := .slice _ _ _) rfl ?_
        refine sMv (v := .slice _ _ _) rfl ?_
        have h69 := spec_Equal i42 i48 (by rw [ofs_length]; exact Nat.lt_of_le_of_lt (ls_closed _ _) (by decide))
        rw [decide_eq_true rfl] at h69
        refine sCall2 rfl call22 rfl rfl h69 ?_
        refine sMv (v := .bool _) rfl ?_
        refine sG rfl rfl ?_
        refine sMv (v := nv _) rfl ?_
        refine sG rfl rfl ?_
        refine sMv (v := nv _) rfl ?_
        refine sG rfl rfl ?_
        refine sBin (v := .bool true) rfl rfl (eqlT rfl) ?_
        refine sP (v := .bool true) rfl ?_
        refine sMv (v := .bool _) rfl ?_
        refine sG rfl rfl ?_
        refine sMv (v := .bool _) rfl ?_
        refine sG rfl rfl ?_
        refine sMv (v := .bool _) rfl ?_
        refine sG rfl rfl ?_
        refine sP (v := .bool true) (eqB _) ?_
        refine sP (v := .bool true) rfl ?_
        refine sMv (v := .bool _) rfl ?_
        refine sG rfl rfl ?_
        refine sMv (v := nv _) rfl ?_
        refine sG rfl rfl ?_
        refine sMv (v := nv _) rfl ?_
        refine sG rfl rfl ?_
        refine sBin (v := .bool true) rfl rfl (eqlT rfl) ?_
        refine sP (v := .bool true) rfl ?_
        refine sMv (v := .bool _) rfl ?_
        refine sG rfl rfl ?_
        refine sLdAll A24 S24 rfl gO rfl ?_
        refine sG rfl rfl ?_
        refine sLdAll A24 S24 rfl gD rfl ?_
        refine sG rfl rfl ?_
        obtain ⟨m88, h_, e_⟩ := ls_same rO hG hgl hgr
        refine sCall2 rfl call24 rfl rfl h_ ?_
        clear h_
        have x_ : Ext m64 m88 := e_
        replace hG := hG.ext x_
        replace ha := ha.ext x_
        replace hb := hb.ext x_
        replace E := E.trans x_
        replace hGl := hGl.ext x_
        replace gD := x_.cells gD
        replace rO := rO.ext x_
        replace iL := iL.ext x_
        replace iP := iP.ext x_
        replace gO := x_.cells gO
        replace i42 := i42.ext x_
        replace i48 := i48.ext x_
        clear x_
        clear e_
        refine sP (v := .bool true) rfl ?_
        refine sMv (v := .bool _) rfl ?_
        refine sG rfl rfl ?_
        refine sMv (v := .slice _ _ _) rfl ?_
        refine sG rfl rfl ?_
        refine sMv (v := .slice _ _ _) rfl ?_
        refine sG rfl rfl ?_
        have h93 := spec_Equal iL ha (by omega)
        rw [decide_eq_true rfl] at h93
        refine sCall2 rfl call22 rfl rfl h93 ?_
        refine sP (v := .bool true) rfl ?_
        refine sMv (v := .bool _) rfl ?_
        refine sG rfl rfl ?_
        refine sMv (v := .slice _ _ _) rfl ?_
        refine sG rfl rfl ?_
        refine sMv (v := .slice _ _ _) rfl ?_
        refine sG rfl rfl ?_
        have h98 := spec_Equal iP hb (by omega)
        rw [decide_eq_true rfl] at h98
        refine sCall2 rfl call22 rfl rfl h98 ?_
        refine sP (v := .bool true) rfl ?_
        refine sMv (v := .bool _) rfl ?_
        refine sG rfl rfl ?_
        obtain ⟨v110, m110, h110, rfl, e110⟩ := spec_awake hGl
        refine sCall0 rfl call13 h110 ?_
        refine sP (v := .bool true) rfl ?_
        refine sAs (v := .bool _) rfl ?_
        refine sNil (kSeqN ?_)
        refine cRet ?_
        exact ⟨.inr rfl, _, rfl, rfl, trivial⟩

end Go.AM

/-! ### F20 -/
namespace Go.AM
open Go.Proofs Go.Proofs.YthfhbddnkgfhaaaDoor Go.ChangeShapes
set_option maxRecDepth 100000
set_option linter.unusedVariables false

theorem gAsk : Tryd.prog.globalNamed "spoondrift/pebble.asks" = some 0 := by kernel_rfl
theorem tAsk : (Tryd.prog.globals[0]?).map (·.type) = some 96 := by kernel_rfl
theorem gSize : Tryd.prog.globals.size = 1 := by kernel_rfl
theorem u4 : Tryd.prog.underlying 4 = some .bool := by kernel_rfl
theorem u5 : Tryd.prog.underlying 5 = some (.int .u8) := by kernel_rfl
theorem u94 : Tryd.prog.underlying 94 = some (.func #[79, 3, 3, 25, 93] #[4] false) := by kernel_rfl
theorem u95 : Tryd.prog.underlying 95 = some (.struct #[{ name := "so", type := 94, offset := 0, embedded := false, tag := "", pkgPath := "spoondrift/pebble", byteOffset := 0 }]) := by kernel_rfl
theorem u96 : Tryd.prog.underlying 96 = some (.array 3 95) := by kernel_rfl

theorem var_block {P : Program} {w : World} {n : String} {g : Nat} {cs : Array Value} (hg : P.globalNamed n = some g) (h : w.var? P n = some cs) : ∃ t fz, w.heap[g]? = some (.cells cs t fz) := by
  simp only [World.var?, hg, Option.bind_some] at h
  split at h
  · rename_i c t fz e
    injection h with h; subst h
    exact ⟨t, fz, e⟩
  · cases h

def tokA : Nat → List UInt8
  | 0 => [115, 112, 111, 111, 110, 100, 114, 105, 102, 116, 47, 112, 101, 98, 98, 108, 101, 46, 97, 115, 107, 115, 36, 49]
  | 1 => [115, 112, 111, 111, 110, 100, 114, 105, 102, 116, 47, 112, 101, 98, 98, 108, 101, 46, 97, 115, 107, 115, 36, 50]
  | _ => [115, 112, 111, 111, 110, 100, 114, 105, 102, 116, 47, 112, 101, 98, 98, 108, 101, 46, 97, 115, 107, 115, 36, 51]
theorem one140 : ((List.range Tryd.prog.funcs.size).filter fun f => (Tryd.prog.funcs[f]?).any (·.name.toUTF8.data.toList == tokA 0)) = [140] := by kernel_rfl
theorem one143 : ((List.range Tryd.prog.funcs.size).filter fun f => (Tryd.prog.funcs[f]?).any (·.name.toUTF8.data.toList == tokA 1)) = [143] := by kernel_rfl
theorem one144 : ((List.range Tryd.prog.funcs.size).filter fun f => (Tryd.prog.funcs[f]?).any (·.name.toUTF8.data.toList == tokA 2)) = [144] := by kernel_rfl
theorem hc95 : Tryd.prog.cellsOf 95 = 1 := by kernel_rfl
theorem hc94 : Tryd.prog.cellsOf 94 = 1 := by kernel_rfl
/-- One entry of the table of what is asked. -/
theorem entry_ask {w : World} {n q : Nat} (hq : q < 3) {cs : List Value} {y : DataW (List UInt8) × List MemPlace}
    (h : DataW.trod (funcToken Tryd.prog) Tryd.prog w 0 (fun _ => true) true n 95 cs = some y) (hy : y.1 = .agg [.held (tokA q)]) : cs = [.func (.func (askF q)) #[] #[]] := by
  obtain ⟨xs, m, rfl, hx, hl, hn, hel⟩ := DataW.trod_struct u95 h
  have h0 := hel 0 _ rfl
  rw [hx] at hy
  simp only [DataW.agg.injEq] at hy
  rw [hc95] at hl
  match cs, hl with
  | [a], _ =>
    match xs, hn, hy, h0 with
    | [e0], _, hy, h0 =>
      simp only [List.map_cons, List.map_nil, List.cons.injEq, and_true] at hy
      simp only [hc94, List.drop_zero, List.take_one, List.getElem?_cons_zero] at h0
      have h1 : DataW.trod (funcToken Tryd.prog) Tryd.prog w 0 (fun _ => true) true m 94 [a] = some (.held (tokA q), e0.2) := by
        rw [← hy]; simpa [hc94] using h0
      have : q = 0 ∨ q = 1 ∨ q = 2 := by omega
      rcases this with rfl | rfl | rfl
      · rw [func_of_trod (f0 := 140) u94 one140 h1]; rfl
      · rw [func_of_trod (f0 := 143) u94 one143 h1]; rfl
      · rw [func_of_trod (f0 := 144) u94 one144 h1]; rfl
def askD : DataW Unit := .agg [.agg [.iface "func" (.lit (.string (tokA 0)))], .agg [.iface "func" (.lit (.string (tokA 1)))], .agg [.iface "func" (.lit (.string (tokA 2)))]]
/-- What the table of what is asked holds. -/
theorem open_asks {w : World} (h : funcsAt Tryd.prog w "spoondrift/pebble.asks" askD) :
    ∃ c t fz, w.heap[0]? = some (.cells c t fz) ∧ ∀ q, q < 3 → c[q]? = some (.func (.func (askF q)) #[] #[]) := by
  obtain ⟨g, t, cs, fuel, p, hg, ht, hc, hd⟩ := h
  obtain rfl := Option.some.inj (gAsk.symm.trans hg)
  obtain rfl := Option.some.inj (tAsk.symm.trans ht)
  obtain ⟨ty, fz, hb0⟩ := var_block hg hc
  have hout : askD.funcsOut = .agg [.agg [.held (tokA 0)], .agg [.held (tokA 1)], .agg [.held (tokA 2)]] := by rfl
  rw [hout] at hd
  obtain ⟨xs, m, rfl, hx, hl, hn, hel⟩ := DataW.trod_array u96 hd
  match xs, hn with
  | [e0, e1, e2], _ =>
    simp only [Prod.mk.injEq, DataW.agg.injEq, List.map_cons, List.map_nil, List.cons.injEq, and_true] at hx
    obtain ⟨⟨x0, x1, x2⟩, _⟩ := hx
    have key : ∀ (q : Nat) (e : DataW (List UInt8) × List MemPlace), q < 3 → [e0, e1, e2][q]? = some e → e.1 = .agg [.held (tokA q)] → cs[q]? = some (.func (.func (askF q)) #[] #[]) := by
      intro q e hq he h1
      have h2 := hel q hq
      rw [he, hc95, Nat.mul_one] at h2
      have h3 := entry_ask hq h2 h1
      have := congrArg (·[0]?) h3
      simpa [List.getElem?_take, List.getElem?_drop] using this
    refine ⟨cs, ty, fz, hb0, fun q hq => ?_⟩
    have : q = 0 ∨ q = 1 ∨ q = 2 := by omega
    rcases this with rfl | rfl | rfl
    · exact key 0 e0 (by omega) rfl x0.symm
    · exact key 1 e1 (by omega) rfl x1.symm
    · exact key 2 e2 (by omega) rfl x2.symm
def laid1 : List (String × DataW Unit) := [("spoondrift/pebble.asks", Rows.laid_spoondrift_pebble_asks)]
theorem ask_data : (Rows.laid_spoondrift_pebble_asks : DataW Unit) = .iface "func table" askD := by rfl
theorem of_laid {w : World} (h : laidMetH Tryd.prog laid1 w) : ∃ c t fz, w.heap[0]? = some (.cells c t fz) ∧ ∀ q, q < 3 → c[q]? = some (.func (.func (askF q)) #[] #[]) :=
  open_asks (h.funcs (n := "spoondrift/pebble.asks") (by rw [← ask_data]; simp [laid1]))
end Go.AM

/-! ### F21 -/
namespace Go.AM
open Go.Proofs Go.Proofs.YthfhbddnkgfhaaaDoor Go.RowKit
set_option maxRecDepth 100000
set_option linter.unusedVariables false

/-- An argument's block: where it lies, and its abstract cells (each stands for the machine's cell at the same place). -/
structure Arg0 where
  blk : Nat
  off : Nat
  cap : Nat
  cs : Array Value
def arg0 : Arg0 := ⟨0, 0, 0, #[]⟩
def askCs : Array Value := #[.func (.func 140) #[] #[], .func (.func 143) #[] #[], .func (.func 144) #[] #[]]
def mem0 (A : List Arg0) : Mem := (AObj.cells false askCs :: A.map fun a => AObj.cells false a.cs).toArray
def beta0 (A : List Arg0) : Beta where
  blk i := if i < 1 then i else (A.getD (i - 1) arg0).blk
  sh i := if i < 1 then 0 else (A.getD (i - 1) arg0).off
  cap i := if i < 1 then 1000000 else (A.getD (i - 1) arg0).off + max (A.getD (i - 1) arg0).cs.size (A.getD (i - 1) arg0).cap
/-- What is known of an argument's cells, all arguments' places being known. -/
def Arg0.ok (W : World) (A : List Arg0) (a : Arg0) : Prop := ∃ c t fz, W.heap[a.blk]? = some (.cells c t fz) ∧ ∀ (i : Nat) v, a.cs[i]? = some v → ∃ v', c[a.off + i]? = some v' ∧ VRel (beta0 A) (1 + A.length) v v'
theorem mem0_size (A : List Arg0) : (mem0 A).size = 1 + A.length := by simp [mem0]; omega
theorem mem0_get (A : List Arg0) (i : Nat) : Mem.get (mem0 A) i = if i = 0 then .cells false askCs else if h : i - 1 < A.length then .cells false (A[i - 1]).cs else .dead := by
  unfold Mem.get mem0
  rw [Array.getD_eq_getD_getElem?, List.getElem?_toArray]
  match i with
  | 0 => rfl
  | i + 1 =>
    rw [if_neg (by omega)]
    simp only [List.getElem?_cons_succ, Nat.add_sub_cancel, List.getElem?_map]
    by_cases h : i < A.length
    · rw [dif_pos h, List.getElem?_eq_getElem h]; rfl
    · rw [dif_neg h, List.getElem?_eq_none (by omega)]; rfl
theorem glob0 (A : List Arg0) : GlobP (mem0 A) := ⟨false, by rw [mem0_get]; rfl⟩
theorem rel0 {W : World} (hL : laidMetH Tryd.prog laid1 W) {A : List Arg0} (hA : ∀ a ∈ A, a.ok W A) : Rel Tryd.prog (beta0 A) (mem0 A) W := by
  obtain ⟨c, t, fz, h0, hc0⟩ := of_laid hL
  refine ⟨by rw [mem0_size, gSize]; omega, fun g hg => ?_, fun i hi => ?_, fun i j _ hr _ => ?_⟩
  · rw [gSize] at hg
    exact ⟨if_pos hg, if_pos hg⟩
  · rw [mem0_get] at hi ⊢
    by_cases e0 : i = 0
    · subst e0
      rw [if_pos rfl] at hi ⊢
      refine ⟨_, h0, c, t, fz, rfl, by simp [beta0, askCs], fun j v hj => ?_, fun h => by cases h⟩
      have hf : ∀ q, VRel (beta0 A) (mem0 A).size (.func (.func q) #[] #[]) (.func (.func q) #[] #[]) := fun q => .func _ _ _ _ _ rfl (fun i v v' h => by simp at h) rfl (fun i v v' h => by simp at h)
      match j with
      | 0 => simp [askCs] at hj; subst hj; exact ⟨_, by simpa [beta0, askF] using hc0 0 (by omega), hf _⟩
      | 1 => simp [askCs] at hj; subst hj; exact ⟨_, by simpa [beta0, askF] using hc0 1 (by omega), hf _⟩
      | 2 => simp [askCs] at hj; subst hj; exact ⟨_, by simpa [beta0, askF] using hc0 2 (by omega), hf _⟩
      | j + 3 => simp [askCs] at hj
    rw [if_neg e0] at hi ⊢
    by_cases e4 : i - 1 < A.length
    · rw [dif_pos e4] at hi ⊢
      obtain ⟨c, t, fz, g1, g2⟩ := hA _ (List.getElem_mem e4)
      have hb : (beta0 A).blk i = (A[i - 1]).blk := by
        simp only [beta0]; rw [if_neg (by omega), List.getD_eq_getElem?_getD, List.getElem?_eq_getElem e4]; rfl
      have hsh : (beta0 A).sh i = (A[i - 1]).off := by
        simp only [beta0]; rw [if_neg (by omega), List.getD_eq_getElem?_getD, List.getElem?_eq_getElem e4]; rfl
      have hcp : (beta0 A).cap i = (A[i - 1]).off + max (A[i - 1]).cs.size (A[i - 1]).cap := by
        simp only [beta0]; rw [if_neg (by omega), List.getD_eq_getElem?_getD, List.getElem?_eq_getElem e4]; rfl
      refine ⟨_, by rw [hb]; exact g1, c, t, fz, rfl, by rw [hsh, hcp]; omega, fun j v hj => ?_, fun h => by cases h⟩
      obtain ⟨v', q1, q2⟩ := g2 j v hj
      exact ⟨v', by rw [hsh]; exact q1, by rw [mem0_size]; exact q2⟩
    · rw [dif_neg e4] at hi; cases hi
  · rw [mem0_get] at hr
    repeat' split at hr
    all_goals cases hr
theorem arel_nil {β : Beta} {N : Nat} : ARel β N #[] #[] := ⟨rfl, fun i v v' h => by simp at h⟩
theorem arel_cons {β : Beta} {N : Nat} {v v' : Value} {l l' : List Value} (hv : VRel β N v v') (h : ARel β N l.toArray l'.toArray) : ARel β N (v :: l).toArray (v' :: l').toArray := by
  refine ⟨by have := h.1; simp at this ⊢; exact this, fun i x x' h1 h2 => ?_⟩
  cases i with
  | zero => simp at h1 h2; subst h1 h2; exact hv
  | succ i => exact h.2 i x x' (by simpa using h1) (by simpa using h2)
/-- From the abstract call to the machine's. -/
theorem entry {f : FuncId} {args args' : Array Value} {W : World} {A : List Arg0} (hL : laidMetH Tryd.prog laid1 W) (hA : ∀ a ∈ A, a.ok W A)
    (hargs : ARel (beta0 A) (1 + A.length) args args') (hc : ∃ v m', ACalls Tryd.prog f args (mem0 A) v m' ∧ v = .bool true) :
    Calls Tryd.prog f args' W fun e W' => e = .returned (.bool true) ∧ Below W.heap.size W W' := by
  have hR := rel0 hL hA
  obtain ⟨v, m', hcall, rfl⟩ := hc
  refine (hcall.2 _ W args' hR (by rw [mem0_size]; exact hargs)).mono ?_
  rintro e W' ⟨v', rfl, β', hv, _, hS⟩
  cases hv
  refine ⟨rfl, hS.os, hS.tape, hS.output, hS.wsz, fun k hk => hS.keep k hk fun i hi => ?_⟩
  rw [mem0_get] at hi
  repeat' split at hi
  all_goals cases hi
end Go.AM

/-! ### F22 -/
namespace Go.AM
open Go Go.Proofs Go.Proofs.YthfhbddnkgfhaaaDoor Go.RowKit Go.ChangeShapes Go.WideShapes
set_option maxRecDepth 100000
set_option linter.unusedVariables false

/-- A slice of whole numbers of a kind, readable. -/
def KAt (k : IntKind) (m : Mem) (v : Value) (l : List Int) : Prop :=
  (l = [] ∧ (v = .slice none 0 0 ∨ ∃ b o, v = .slice (some ⟨b, o, none⟩) 0 0)) ∨
  ∃ b o cap r c, v = .slice (some ⟨b, o, some 1⟩) l.length cap ∧ l.length ≤ cap ∧ Mem.get m b = .cells r c ∧ ∀ i x, l[i]? = some x → c[o + i]? = some (.int k x)
theorem KAt.ints {m : Mem} {v : Value} {l : List Int} (h : KAt .i64 m v l) : IntsAt m v l := by
  rcases h with h | ⟨b, o, cap, r, c, h1, _, h2, h3⟩
  · exact .inl h
  · exact .inr ⟨b, o, cap, r, c, h1, h2, h3⟩
theorem cell_heap {W : World} {a : Addr} {v : Value} (h : W.cell? a = some v) : a.spot = none ∧ ∃ c t fz, W.heap[a.block]? = some (.cells c t fz) ∧ c[a.off]? = some v := by
  unfold World.cell? at h
  split at h
  · rename_i c t fz e
    split at h
    · cases h
    · rename_i hs
      exact ⟨by simpa using hs, c, t, fz, e, h⟩
  · cases h
theorem add_block (a : Addr) (n : Nat) : (a.add n).block = a.block := by unfold Addr.add; split <;> rfl
theorem add0 (a : Addr) : a.add 0 = a := if_pos rfl
theorem add_off {a : Addr} {n : Nat} (h : a.spot = none) : (a.add n).off = a.off + n := by
  unfold Addr.add
  split <;> simp_all
theorem mem0_arg {A : List Arg0} {i : Nat} {a : Arg0} (h : A[i]? = some a) : Mem.get (mem0 A) (1 + i) = .cells false a.cs := by
  obtain ⟨hi, e⟩ := List.getElem?_eq_some_iff.1 h
  rw [mem0_get, if_neg (by omega), dif_pos (by omega)]
  simp only [Nat.add_sub_cancel_left, e]
theorem beta0_arg {A : List Arg0} {i : Nat} {a : Arg0} (h : A[i]? = some a) : (beta0 A).blk (1 + i) = a.blk ∧ (beta0 A).sh (1 + i) = a.off ∧ (beta0 A).cap (1 + i) = a.off + max a.cs.size a.cap := by
  have e : A.getD (1 + i - 1) arg0 = a := by rw [Nat.add_sub_cancel_left, List.getD_eq_getElem?_getD, h]; rfl
  refine ⟨?_, ?_, ?_⟩
  · simp only [beta0]; rw [if_neg (by omega), e]
  · simp only [beta0]; rw [if_neg (by omega), e]
  · simp only [beta0]; rw [if_neg (by omega), e]
/-- The blocks of an argument lie from a place on. -/
def PartAt (A : List Arg0) (pos : Nat) (B : List Arg0) : Prop := ∀ (j : Nat) a, B[j]? = some a → A[pos + j]? = some a
theorem part_self {B : List Arg0} : PartAt B 0 B := fun j a h => by rwa [Nat.zero_add]
theorem part_left {X Y B : List Arg0} {pos : Nat} (h : PartAt X pos B) : PartAt (X ++ Y) pos B := fun j a hj => by
  have := h j a hj
  rw [List.getElem?_append_left (List.getElem?_eq_some_iff.1 this).1]; exact this
theorem part_right {X Y : List Arg0} {pos : Nat} (h : X.length = pos) : PartAt (X ++ Y) pos Y := fun j a hj => by
  subst h
  rw [List.getElem?_append_right (by omega), Nat.add_sub_cancel_left]; exact hj
/-- A slice of whole numbers that is read: its block, what it holds, its abstract value by the place of its block. -/
structure RowP (W : World) (k : IntKind) (s : Value) where
  a : Arg0
  l : List Int
  f : Nat → Value
  ok : ∀ A : List Arg0, a.ok W A
  wf : ∀ n ∈ l, (Lit.int k n).wf = true
  rel : ∀ (A : List Arg0) (i : Nat), A[i]? = some a → KAt k (mem0 A) (f i) l ∧ VRel (beta0 A) (1 + A.length) (f i) s
theorem ok0 {W : World} (hL : laidMetH Tryd.prog laid1 W) (A : List Arg0) : Arg0.ok W A ⟨0, 0, 0, #[]⟩ := by
  obtain ⟨c0, t0, fz0, h0, _⟩ := of_laid hL
  exact ⟨c0, t0, fz0, h0, fun i v h => by simp at h⟩
theorem row_of {H : Type} {enc : TypeId × Value → H} {W : World} {k : IntKind} {t e : TypeId} {s : Value} {fuel : Nat} {x : DataW H × List MemPlace} (hL : laidMetH Tryd.prog laid1 W)
    (ht : Tryd.prog.underlying t = some (.slice e)) (he : Tryd.prog.underlying e = some (.int k)) (hc : Tryd.prog.cellsOf e = 1)
    (hd : DataW.trod enc Tryd.prog W 0 (fun _ => true) true fuel t [s] = some x) : Nonempty (RowP W k s) := by
  rcases open_ints ht he hc hd with ⟨hcs, _⟩ | ⟨x, ln, cp, zs, hcs, _, hl, hm, hz, _, hcell, hwz⟩
  · simp at hcs
    subst hcs
    exact ⟨⟨_, [], fun _ => .slice none 0 0, ok0 hL, by simp, fun A i _ => ⟨.inl ⟨rfl, .inl rfl⟩, .sliceNil⟩⟩⟩
  · simp at hcs
    subst hcs
    rw [if_pos rfl] at hz
    by_cases h0 : ln = 0
    · subst h0
      exact ⟨⟨_, [], fun _ => .slice (some ⟨0, 0, none⟩) 0 0, ok0 hL, by simp, fun A i _ => ⟨.inl ⟨rfl, .inr ⟨_, _, rfl⟩⟩, .lost _ _ _ trivial⟩⟩⟩
    · obtain ⟨hsp, c, t1, fz, hh, _⟩ := cell_heap (hcell 0 (by omega))
      rw [add0] at hsp
      rw [add_block] at hh
      have hcs : ∀ j, j < ln → c[x.off + j]? = some (.int k (zs.getD j 0)) := fun j hj => by
        obtain ⟨_, c', t2, fz2, h2, h3⟩ := cell_heap (hcell j (by omega))
        rw [add_block, hh] at h2
        obtain ⟨rfl, rfl, rfl⟩ : c = c' ∧ t1 = t2 ∧ fz = fz2 := by injection h2 with h2; injection h2 with a b c; exact ⟨a, b, c⟩
        rwa [add_off hsp] at h3
      have hlz : (zs.take ln).length = ln := by rw [List.length_take]; omega
      refine ⟨⟨⟨x.block, x.off, cp, ((zs.take ln).map fun n => Value.int k n).toArray⟩, zs.take ln, fun i => .slice (some ⟨1 + i, 0, some 1⟩) ln cp, fun A => ⟨c, t1, fz, hh, fun j y hy => ?_⟩, fun n hn => hwz n (List.mem_of_mem_take hn), fun A i hA => ⟨?_, ?_⟩⟩⟩
      · simp only [List.getElem?_toArray, List.getElem?_map, Option.map_eq_some_iff] at hy
        obtain ⟨n, hn, rfl⟩ := hy
        rw [List.getElem?_take] at hn
        split at hn
        · refine ⟨_, ?_, .int _ _⟩
          rw [hcs j (by assumption), List.getD_eq_getElem?_getD, hn]; rfl
        · cases hn
      · refine .inr ⟨1 + i, 0, cp, false, _, by rw [hlz], by rw [hlz]; exact hl, mem0_arg hA, fun j n hn => ?_⟩
        simp only [List.getElem?_toArray, List.getElem?_map, hn, Option.map_some, Nat.zero_add]
      · obtain ⟨e1, e2, e3⟩ := beta0_arg hA
        have hi := (List.getElem?_eq_some_iff.1 hA).1
        have := VRel.slice (β := beta0 A) (N := 1 + A.length) (1 + i) 0 1 ln cp cp (by omega) (by omega) hl (Nat.le_refl _) (by rw [e2, e3]; simp only; omega)
        rw [e1, e2] at this
        obtain ⟨xb, xo, xs⟩ := x
        obtain rfl : xs = none := hsp
        exact this
/-- An argument that is a slice of whole numbers. -/
theorem ints_arg {H : Type} {enc : TypeId × Value → H} {W : World} {k : IntKind} {t e : TypeId} {r : Reach} {base : Nat} {v : Value} {d : DataW H} {p : List MemPlace} (hL : laidMetH Tryd.prog laid1 W)
    (ht : Tryd.prog.underlying t = some (.slice e)) (he : Tryd.prog.underlying e = some (.int k)) (hc : Tryd.prog.cellsOf e = 1)
    (hval : Value.okWide Tryd.prog W r base t v) (hd : DataW.Trod enc Tryd.prog W 0 (fun _ => true) true t v d p) :
    ∃ (L : Nat) (B : Nat → List Arg0) (l : List Int) (f : Nat → Value), (∀ pos, (B pos).length = L) ∧ (∀ n ∈ l, (Lit.int k n).wf = true) ∧
      ∀ (A : List Arg0) (pos : Nat), PartAt A pos (B pos) → (∀ a ∈ B pos, a.ok W A) ∧ KAt k (mem0 A) (f pos) l ∧ VRel (beta0 A) (1 + A.length) (f pos) v := by
  obtain ⟨q, len, cap, rfl⟩ := okWide_slice ht hval
  obtain ⟨fuel, hf⟩ := hd
  obtain ⟨R⟩ := row_of hL ht he hc hf
  refine ⟨1, fun _ => [R.a], R.l, R.f, fun _ => rfl, R.wf, fun A pos hp => ⟨fun a ha => ?_, R.rel A pos (hp 0 _ rfl)⟩⟩
  rw [List.mem_singleton.1 ha]; exact R.ok A
theorem u22 : Tryd.prog.underlying 22 = some (.slice 25) := by kernel_rfl
theorem u3 : Tryd.prog.underlying 3 = some (.int .i64) := by kernel_rfl
theorem u25 : Tryd.prog.underlying 25 = some (.slice 3) := by kernel_rfl
theorem u63 : Tryd.prog.underlying 63 = some (.slice 5) := by kernel_rfl
theorem u24 : Tryd.prog.underlying 24 = some (.struct #[{ name := "Needs", type := 22, offset := 0, embedded := false, tag := "", pkgPath := "", byteOffset := 0 }]) := by kernel_rfl
theorem c3 : Tryd.prog.cellsOf 3 = 1 := by kernel_rfl
theorem c5 : Tryd.prog.cellsOf 5 = 1 := by kernel_rfl
theorem c22 : Tryd.prog.cellsOf 22 = 1 := by kernel_rfl
theorem c24 : Tryd.prog.cellsOf 24 = 1 := by kernel_rfl
theorem c25 : Tryd.prog.cellsOf 25 = 1 := by kernel_rfl
theorem laidOut : laidOutB Tryd.prog = true := by kernel_rfl
theorem u8_nat {n : Int} (h : (Lit.int .u8 n).wf = true) : ∃ c : Nat, c < 256 ∧ n = Int.ofNat c := by
  have h' : 0 ≤ n ∧ n < 256 := by
    simp [Lit.wf, IntKind.min, IntKind.max, IntKind.signed, IntKind.bits] at h
    omega
  exact ⟨n.toNat, by omega, by simp; omega⟩
theorem i64_lt {n : Int} (h : (Lit.int .i64 n).wf = true) : n < 9223372036854775808 := by
  simp [Lit.wf, IntKind.min, IntKind.max, IntKind.signed, IntKind.bits] at h
  omega
/-- A cell of a slice's row, read. -/
theorem one_cell {W : World} {a : Addr} {x : List Value} (h : W.cells? 0 a 1 = some x) : ∃ s, x = [s] ∧ W.cell? (a.add 0) = some s := by
  unfold World.cells? at h
  rw [if_pos (Nat.zero_le _), List.range_one] at h
  cases e : W.cell? (a.add 0) with
  | none => simp [e] at h
  | some s => simp [e] at h; exact ⟨s, h.symm, rfl⟩
/-- An argument that is a graph. -/
theorem dag_arg {H : Type} {enc : TypeId × Value → H} {W : World} {r : Reach} {base : Nat} {v : Value} {d : DataW H} {p : List MemPlace} (hL : laidMetH Tryd.prog laid1 W)
    (hval : Value.okWide Tryd.prog W r base 24 v) (hd : DataW.Trod enc Tryd.prog W 0 (fun _ => true) true 24 v d p) :
    ∃ (L : Nat) (B : Nat → List Arg0) (G : List (List Int)) (f : Nat → Value), (∀ pos, (B pos).length = L) ∧ True ∧
      ∀ (A : List Arg0) (pos : Nat), PartAt A pos (B pos) → (∀ a ∈ B pos, a.ok W A) ∧ (∃ s, f pos = .agg #[s] ∧ RowsAt (mem0 A) s G) ∧ VRel (beta0 A) (1 + A.length) (f pos) v := by
  unfold Value.okWide at hval
  rw [u24] at hval
  obtain ⟨cs, rfl, hsz, _⟩ := hval
  rw [c24] at hsz
  obtain ⟨w, rfl⟩ : ∃ w, cs = #[w] := by
    obtain ⟨l⟩ := cs
    match l, hsz with
    | [w], _ => exact ⟨w, rfl⟩
  obtain ⟨fuel, hf⟩ := hd
  obtain ⟨xs, m, rfl, hx, hl, hn, hel⟩ := DataW.trod_struct u24 hf
  have h0 := hel 0 _ rfl
  match xs, hn, h0 with
  | [x0], _, h0 =>
    have h1 : DataW.trod enc Tryd.prog W 0 (fun _ => true) true m 22 [w] = some x0 := by simpa [c22, Value.cells] using h0
    have agg1 : ∀ {A : List Arg0} {s s' : Value}, VRel (beta0 A) (1 + A.length) s s' → VRel (beta0 A) (1 + A.length) (.agg #[s]) (.agg #[s']) := fun h => .agg _ _ rfl fun i v v' e e' => by
      match i with
      | 0 => simp at e e'; subst e e'; exact h
      | i + 1 => simp at e
    rcases DataW.trod_slice u22 h1 with ⟨hw, _⟩ | ⟨a, len, cap, elems, rest, n, _, hw, _, _, hlc, _, hlen, hcell, _, _⟩
    · simp at hw
      subst hw
      exact ⟨0, fun _ => [], [], fun _ => .agg #[.slice none 0 0], fun _ => rfl, trivial, fun A pos _ => ⟨by simp, ⟨_, rfl, .inl ⟨rfl, .inl rfl⟩⟩, agg1 .sliceNil⟩⟩
    · simp at hw
      subst hw
      by_cases hz : len = 0
      · subst hz
        exact ⟨0, fun _ => [], [], fun _ => .agg #[.slice (some ⟨0, 0, none⟩) 0 0], fun _ => rfl, trivial, fun A pos _ => ⟨by simp, ⟨_, rfl, .inl ⟨rfl, .inr ⟨_, _, rfl⟩⟩⟩, agg1 (.lost _ _ _ trivial)⟩⟩
      · have key : ∀ i : Fin len, ∃ s : Value, W.cell? ((a.add (i * 1)).add 0) = some s ∧ Nonempty (RowP W .i64 s) := fun i => by
          have h2 := hcell i i.2
          rw [c25, List.getElem?_eq_getElem (by omega), Option.bind_eq_some_iff] at h2
          obtain ⟨x, h3, h4⟩ := h2
          obtain ⟨s, rfl, h5⟩ := one_cell h3
          exact ⟨s, h5, row_of hL u25 u3 c3 h4⟩
        have hch := Classical.axiomOfChoice key
        obtain ⟨S, hS⟩ := hch
        have hR : ∀ i : Fin len, Nonempty (RowP W .i64 (S i)) := fun i => (hS i).2
        let R : (i : Fin len) → RowP W .i64 (S i) := fun i => Classical.choice (hR i)
        obtain ⟨hsp, c, t1, fz, hh, _⟩ := cell_heap (hS ⟨0, by omega⟩).1
        rw [add0] at hsp
        replace hsp : a.spot = none := by simpa [add0] using hsp
        rw [add_block, add_block] at hh
        have hcs : ∀ j : Fin len, c[a.off + j]? = some (S j) := fun j => by
          obtain ⟨hs, c', t2, fz2, h2, h3⟩ := cell_heap (hS j).1
          rw [add_block, add_block, hh] at h2
          obtain ⟨rfl, rfl, rfl⟩ : c = c' ∧ t1 = t2 ∧ fz = fz2 := by injection h2 with h2; injection h2 with a b c; exact ⟨a, b, c⟩
          rw [add0, add_off hsp] at h3
          simpa using h3
        let G : List (List Int) := List.ofFn fun i => (R i).l
        let rowsB : List Arg0 := List.ofFn fun i => (R i).a
        let outer : Nat → Arg0 := fun pos => ⟨a.block, a.off, cap, (List.ofFn fun i : Fin len => (R i).f (pos + 1 + i)).toArray⟩
        have hGl : G.length = len := List.length_ofFn
        refine ⟨1 + len, fun pos => outer pos :: rowsB, G, fun pos => .agg #[.slice (some ⟨1 + pos, 0, some 1⟩) len cap], fun pos => by simp [rowsB]; omega, trivial, fun A pos hp => ?_⟩
        have hA0 : A[pos]? = some (outer pos) := hp 0 _ rfl
        have hAi : ∀ i : Fin len, A[pos + 1 + i]? = some (R i).a := fun i => by
          have := hp (1 + i) (R i).a (by rw [Nat.add_comm 1, List.getElem?_cons_succ]; simp [rowsB])
          rwa [← Nat.add_assoc] at this
        have hrel := fun i : Fin len => (R i).rel A (pos + 1 + i) (hAi i)
        refine ⟨fun b hb => ?_, ⟨_, rfl, ?_⟩, agg1 ?_⟩
        · rcases List.mem_cons.1 hb with rfl | hb
          · refine ⟨c, t1, fz, hh, fun j y hy => ?_⟩
            have hj : j < len := by
              have := (Array.getElem?_eq_some_iff.1 hy).1
              simpa [outer] using this
            have e : y = (R ⟨j, hj⟩).f (pos + 1 + j) := by
              simp [outer, hj] at hy
              exact hy.symm
            subst e
            exact ⟨_, hcs ⟨j, hj⟩, (hrel ⟨j, hj⟩).2⟩
          · obtain ⟨i, rfl⟩ := List.mem_ofFn.1 hb
            exact (R i).ok A
        · refine .inr ⟨1 + pos, 0, cap, false, _, by rw [hGl], mem0_arg hA0, fun i g hi => ?_⟩
          have hj : i < len := by
            have := (List.getElem?_eq_some_iff.1 hi).1
            omega
          have e : g = (R ⟨i, hj⟩).l := by
            simp [G, hj] at hi
            exact hi.symm
          subst e
          exact ⟨(R ⟨i, hj⟩).f (pos + 1 + i), by simp [outer, hj], (hrel ⟨i, hj⟩).1.ints⟩
        · obtain ⟨e1, e2, e3⟩ := beta0_arg hA0
          have hi := (List.getElem?_eq_some_iff.1 hA0).1
          have := VRel.slice (β := beta0 A) (N := 1 + A.length) (1 + pos) 0 1 len cap cap (by omega) (by omega) hlc (Nat.le_refl _) (by rw [e2, e3]; simp only [outer]; omega)
          rw [e1, e2] at this
          obtain ⟨xb, xo, xs⟩ := a
          obtain rfl : xs = none := hsp
          exact this
end Go.AM
