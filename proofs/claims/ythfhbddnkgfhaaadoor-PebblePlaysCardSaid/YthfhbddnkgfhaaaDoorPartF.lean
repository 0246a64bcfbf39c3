/- Part 6 of the proof: Contracts of the program's functions. -/
import Derived.Test.YthfhbddnkgfhaaaDoorPartE
set_option linter.unusedVariables false
set_option linter.unusedSimpArgs false
/-! ### P14 -/
namespace Go.AM
open Go.Proofs
set_option maxRecDepth 100000
set_option linter.unusedVariables false
set_option linter.unusedSimpArgs false
theorem bytes76 : ∃ k, bytesOf' Tryd.prog 76 = some k ∧ k ≤ 1000 := by
  have h : (match bytesOf' Tryd.prog 76 with
    | some k => decide (k ≤ 1000)
    | none => false) = true := by kernel_rfl
  split at h
  · rename_i k e; exact ⟨k, e, of_decide_eq_true h⟩
  · cases h
theorem El55 : ElemT Tryd.prog 55 55 4 := by
  obtain ⟨k, h1, h2⟩ := bytes76
  exact ⟨_, _, _, k, T55, T55, rfl, S76, Z76, rfl, h1, h2, by decide⟩
theorem B57_0 : aBuild Tryd.prog 57 [] = some (.agg #[nv 0, nv 0, .slice none 0 0]) := by kernel_rfl
theorem B57_1 {n : Nat} : aBuild Tryd.prog 57 [(0, nv n)] = some (.agg #[nv n, nv 0, .slice none 0 0]) := by kernel_rfl
theorem B105k : aBuild Tryd.prog 105 [(0, nv 1), (1, nv 9), (2, nv 12)] = some (.agg #[nv 1, nv 9, nv 12]) := by kernel_rfl
theorem B76 {k n c : Nat} {q : Option Addr} : aBuild Tryd.prog 76 [(0, nv k), (1, .slice q n c)] = some (.agg #[nv k, .slice q n c, nv 0, nv 0]) := by kernel_rfl
theorem fillA4 {k n c : Nat} {q : Option Addr} : Instr.fill (fun i => some (i * 4, 4)) (if 1 * 4 = 0 then #[] else (Array.range (1 * 4)).map ((Value.agg #[nv 0, .slice none 0 0, nv 0, nv 0]).cells[· % (Value.agg #[nv 0, .slice none 0 0, nv 0, nv 0]).cells.size]!)) [(0, .agg #[nv k, .slice q n c, nv 0, nv 0])] = some #[nv k, .slice q n c, nv 0, nv 0] := by kernel_rfl
theorem idx105_0 : aIndex Tryd.prog 105 (.agg #[nv 1, nv 9, nv 12]) (nv 0) = some (nv 1) := by kernel_rfl
theorem idx105_1 : aIndex Tryd.prog 105 (.agg #[nv 1, nv 9, nv 12]) (nv 1) = some (nv 9) := by kernel_rfl
theorem idx105_2 : aIndex Tryd.prog 105 (.agg #[nv 1, nv 9, nv 12]) (nv 2) = some (nv 12) := by kernel_rfl
theorem idx105 {j : Nat} (h : j ≤ 2) : aIndex Tryd.prog 105 (.agg #[nv 1, nv 9, nv 12]) (nv j) = some (nv (kindM j)) := by
  have : j = 0 ∨ j = 1 ∨ j = 2 := by omega
  rcases this with rfl | rfl | rfl
  · exact idx105_0
  · exact idx105_1
  · exact idx105_2
/-- Gates of one's own: each one's wires in a place of their own. -/
def OwnG (N : Nat) (m : Mem) (v : Value) (cs : Array Value) (Gs : List (Nat × List Nat)) : Prop :=
  OwnC N m v 4 Gs.length cs ∧ ∀ (i : Nat) (g : Nat × List Nat), Gs[i]? = some g → ∃ s, cs[i * 4]? = some (nv g.1) ∧ cs[i * 4 + 1]? = some s ∧ cs[i * 4 + 2]? = some (nv 0) ∧ cs[i * 4 + 3]? = some (nv 0) ∧ OwnF N m s (ofs g.2) ∧ ∀ b, blkOf s = some b → blkOf v ≠ some b
theorem OwnG.nil (N : Nat) (m : Mem) : OwnG N m (.slice none 0 0) #[] [] := ⟨.nil _ _ _, fun i g h => by cases i <;> cases h⟩
theorem OwnG.up {N : Nat} {m m' : Mem} {v : Value} {cs : Array Value} {Gs : List (Nat × List Nat)} (h : OwnG N m v cs Gs) (hu : ∀ b, N ≤ b → b < m.size → Mem.get m' b = Mem.get m b) : OwnG N m' v cs Gs :=
  ⟨h.1.up hu, fun i g hi => by
    obtain ⟨s, h1, h2, h3, h4, ho, hb⟩ := h.2 i g hi
    exact ⟨s, h1, h2, h3, h4, ho.up hu, hb⟩⟩
theorem OwnG.ext {N : Nat} {m m' : Mem} {v : Value} {cs : Array Value} {Gs : List (Nat × List Nat)} (h : OwnG N m v cs Gs) (he : Ext m m') : OwnG N m' v cs Gs := h.up fun b _ hb => he.2 b hb
theorem OwnG.only {N b : Nat} {m m' : Mem} {v : Value} {cs : Array Value} {Gs : List (Nat × List Nat)} (h : OwnG N m v cs Gs) (ho : Only b m m') (hb : b < N) : OwnG N m' v cs Gs := h.up fun c hc _ => ho.2 c (by omega)
theorem OwnG.mono {N N' : Nat} {m : Mem} {v : Value} {cs : Array Value} {Gs : List (Nat × List Nat)} (h : OwnG N m v cs Gs) (hN : N' ≤ N) : OwnG N' m v cs Gs :=
  ⟨h.1.mono hN, fun i g hi => by
    obtain ⟨s, h1, h2, h3, h4, ho, hb⟩ := h.2 i g hi
    exact ⟨s, h1, h2, h3, h4, ho.mono hN, hb⟩⟩
theorem OwnG.grew {N : Nat} {m m' : Mem} {v v' s : Value} {cs : Array Value} {Gs : List (Nat × List Nat)} {k : Nat} {w : List Nat} (h : OwnG N m v cs Gs) (hs : OwnF N m s (ofs w)) (hap : ∀ b, blkOf s = some b → blkOf v ≠ some b) (hg : Grew m v m' v') (hc : OwnC N m' v' 4 (Gs.length + 1) (cs ++ #[nv k, s, nv 0, nv 0])) : OwnG N m' v' (cs ++ #[nv k, s, nv 0, nv 0]) (Gs ++ [(k, w)]) := by
  have hsz := h.1.size
  have hkeep : ∀ {u : Value} {l : List Int}, OwnF N m u l → (∀ b, blkOf u = some b → blkOf v ≠ some b) → OwnF N m' u l ∧ ∀ b, blkOf u = some b → blkOf v' ≠ some b := fun ho ha =>
    ⟨ho.keep fun b hb => hg.2.1 b (ho.lt hb).2 (ha b hb), fun b hb => hg.off (ha b hb) (ho.lt hb).2⟩
  refine ⟨by rw [List.length_append]; exact hc, fun i x hi => ?_⟩
  by_cases hil : i < Gs.length
  · rw [List.getElem?_append_left hil] at hi
    obtain ⟨u, h1, h2, h3, h4, ho, hb⟩ := h.2 i x hi
    obtain ⟨k1, k2⟩ := hkeep ho hb
    exact ⟨u, by rw [Array.getElem?_append_left (by omega), h1], by rw [Array.getElem?_append_left (by omega), h2], by rw [Array.getElem?_append_left (by omega), h3], by rw [Array.getElem?_append_left (by omega), h4], k1, k2⟩
  · rw [List.getElem?_append_right (by omega)] at hi
    have h1 := (List.getElem?_eq_some_iff.1 hi).1
    have h0 : i = Gs.length := by simp at h1; omega
    rw [h0, Nat.sub_self] at hi
    obtain rfl : (k, w) = x := by simpa using hi
    obtain ⟨k1, k2⟩ := hkeep hs hap
    refine ⟨s, ?_, ?_, ?_, ?_, k1, k2⟩
    · rw [Array.getElem?_append_right (by omega), show i * 4 - cs.size = 0 by rw [h0]; omega]; rfl
    · rw [Array.getElem?_append_right (by omega), show i * 4 + 1 - cs.size = 1 by rw [h0]; omega]; rfl
    · rw [Array.getElem?_append_right (by omega), show i * 4 + 2 - cs.size = 2 by rw [h0]; omega]; rfl
    · rw [Array.getElem?_append_right (by omega), show i * 4 + 3 - cs.size = 3 by rw [h0]; omega]; rfl
theorem circM_take {N : List (List Nat)} {ns : List Nat} {i : Nat} (h : i < ns.length) : circM N (ns.take (i + 1)) = circM N (ns.take i) ++ [gateM N ns[i]] := by
  rw [List.take_succ_eq_append_getElem h, circM, List.map_append]; rfl

def H48 : Nat → List (Nat × Nat) := fun id => if id = 9 then [(1,10)] else []
theorem okf48 : okF Tryd.prog H48 48 55 = true := by kernel_rfl
theorem spec_Circuit {m : Mem} {s a : Value} {G : List (List Int)} {l : List Int} (hG : RowsAt m s G) (ha : IntsAt m a l) : ∃ v m', ACalls Tryd.prog 48 #[.agg #[s], a] m v m' ∧ (∃ w cs, v = .tuple #[.agg #[nv (ifOk (gPlayE G l) G.length 0), nv 0, w], nv (gPlayE G l)] ∧ OwnG m.size m' w cs (ifOk (gPlayE G l) (circG G l) []) ∧ Ext m m') := by
  obtain ⟨q, cap, rfl⟩ := hG.len
  obtain ⟨qg, cg, rfl⟩ := ha.len
  refine wpF (args := [_, _]) mixed okf48 (fn := Tryd.f48) rfl rfl rfl (by simp) ?_
  refine cSeq ?_
  refine cRegion ?_
  refine sBox (v := .agg _) rfl ?_
  refine sAllocB (bl := m.size + 1) (by simp) Z57 (by kernel_rfl) ?_
  refine sAs (v := nv 0) rfl ?_
  refine sNil (kSeqN ?_)
  refine cSeq ?_
  refine cSeq ?_
  refine cRegion ?_
  refine sLdAll A24 S24 rfl (by simp (disch := first | omega | (simp only [Array.size_push, Array.size_setIfInBounds]; done) | (simp only [Array.size_push, Array.size_setIfInBounds]; omega)) only [gP, gPn, gS, gSn]; try rfl) rfl ?_
  refine sMv (v := .slice _ _ _) rfl ?_
  obtain ⟨v14, m9, h14, w14, rfl, o14, k14⟩ := spec_Play (m := (m.push (.cells true #[.slice q G.length cap])).push (.cells true #[nv 0, nv 0, .slice none 0 0])) (hG.ext ((Ext.push _ _).trans (.push _ _))) (ha.ext ((Ext.push _ _).trans (.push _ _)))
  have g1 : Mem.get m9 m.size = .cells true #[.slice q G.length cap] := k14.cells (by simp (disch := first | omega | (simp only [Array.size_push, Array.size_setIfInBounds]; done) | (simp only [Array.size_push, Array.size_setIfInBounds]; omega)) only [gP, gPn, gS, gSn]; try rfl)
  have g2 : Mem.get m9 (m.size + 1) = .cells true #[nv 0, nv 0, .slice none 0 0] := k14.cells (gP (by simp))
  have hz9 : m.size + 2 ≤ m9.size := by have := k14.1; simp at this; omega
  have e9 : Ext m m9 := ((Ext.push _ _).trans (.push _ _)).trans k14
  obtain ⟨q14, c14, rfl⟩ := o14.ints.lenN
  refine sCall2 rfl call42 rfl rfl h14 ?_
  refine sMv (v := .tuple _) rfl ?_
  refine sP (v := .slice _ _ _) rfl ?_   -- extract ['t12', '0']
  refine sP (v := nv _) rfl ?_   -- extract ['t12', '1']
  refine sAs (v := .slice _ _ _) rfl ?_
  refine sAs (v := nv _) rfl ?_
  refine sNil (kSeqN ?_)
  refine cSeq ?_
  refine cRegion ?_
  refine sMv (v := nv _) rfl ?_
  refine sBin (a := gPlayE G l) rfl rfl (aInt_neq (b := 0)) ?_
  refine sNil (kSeqN ?_)
  refine cCond rfl (fun c0 => ?_) (fun c0 => ?_)
  ·
    refine cSeq ?_
    refine cRegion ?_
    refine sBuild B57_0 ?_
    refine sMv (v := nv _) rfl ?_
    refine sStAll S57 rfl rfl (by simp (disch := first | omega | (simp only [Array.size_push, Array.size_setIfInBounds]; done) | (simp only [Array.size_push, Array.size_setIfInBounds]; omega)) only [gP, gPn, gS, gSn, g1, g2]; try rfl) rfl rfl (by kernel_rfl) ?_
    refine sAs (v := nv _) rfl ?_
    refine sNil (kSeqN ?_)
    refine cRet (kSeqR ?_)
    exact ⟨.inr rfl, _, resRs_agg2 A57 S57 rfl (gS rfl (by omega)) rfl, _, #[], by rw [show ifOk (gPlayE G l) G.length 0 = 0 from ifOk_n c0 _ _]; rfl, by rw [ifOk_n c0]; exact .nil _ _, e9.set (b := m.size + 1) (by omega) _⟩
  ·
    have h0 := Decidable.not_not.1 c0
    obtain ⟨N, ns, rfl, hN, rfl, hns, hnl⟩ := gPlayE_nat h0
    have h10 := hN.ten
    rw [show ifOk (gPlayE (ofs2 N) (ofs ns)) (circG (ofs2 N) (ofs ns)) [] = circM N ns by rw [ifOk_0 h0, circG, natsG_ofs2, nats_ofs], show ifOk (gPlayE (ofs2 N) (ofs ns)) (ofs2 N).length 0 = N.length by rw [ifOk_0 h0, ofs2_length]]
    rw [ofs2_length] at *
    rw [ofs_length] at *
    refine cSkip (kSeqN ?_)
    refine cSeq ?_
    refine cRegion ?_
    refine sFA F24_0 rfl ?_
    refine sLd A22 rfl (by simp (disch := first | omega | (simp only [Array.size_push, Array.size_setIfInBounds]; done) | (simp only [Array.size_push, Array.size_setIfInBounds]; omega)) only [gP, gPn, gS, gSn, g1, g2]; try rfl) rfl ?_
    refine sLen T22 rfl ?_
    refine sBuild B57_1 ?_
    refine sAllocB (bl := m9.size) rfl Z57 (by kernel_rfl) ?_
    refine sStNAB rfl S57 rfl rfl rfl rfl (by kernel_rfl) ?_
    refine sNil (kSeqN ?_)
    refine cSeq ?_
    refine cSeq ?_
    refine cRegion ?_
    refine sMv (v := .slice _ _ _) rfl ?_
    refine sLen T25 rfl ?_
    refine sMv (v := nv 0) rfl ?_
    refine sNil (kSeqN ?_)
    refine cBlock ?_
    refine wpC_loop (fun k' ρ m' => ∃ i v cs, k' = ns.length - i ∧ i ≤ ns.length ∧ Low m9.size m9 m' ∧ Mem.get m' m9.size = .cells true #[nv N.length, nv 0, v] ∧ OwnG (m9.size + 1) m' v cs (circM N (ns.take i)) ∧ Has ρ [(2, .pointer (some ⟨m.size, 0, none⟩)), (4, .pointer (some ⟨m.size + 1, 0, none⟩)), (8, .pointer (some ⟨m9.size, 0, none⟩)), (26, .slice qg ns.length cg), (27, nv ns.length), (28, nv i)]) ⟨0, _, _, rfl, Nat.zero_le _, .push _ (Nat.le_refl _) _, gP rfl, .nil _ _, rfl, rfl, rfl, rfl, rfl, rfl, trivial⟩ ?_
    rintro k' ρ m' ⟨i, v, cs, rfl, hi, hLo, g8, hO, hh⟩
    obtain ⟨qv, cv, rfl⟩ := hO.1.len
    rw [hh.env]; clear hh
    have hl8 := live g8
    have hEE : Ext m m' := Low.to_ext e9 hLo e9.1
    have f1 := hLo.cells (show m.size < m9.size by omega) g1
    have f2 := hLo.cells (show m.size + 1 < m9.size by omega) g2
    refine cSeq ?_
    refine cRegion ?_
    refine sBin rfl rfl (aInt_lss) ?_
    refine sNil (kSeqN ?_)
    refine cSeq ?_   -- seq 9
    refine cCond rfl (fun c1 => ?_) (fun c1 => ?_)
    ·
      obtain ⟨b1, o1, p1, r1, cc, e1, gg, x1⟩ := (ha.ext hEE).atN (by omega)
      cases e1
      have hni := hns ns[i] (List.getElem_mem c1)
      obtain ⟨b2, o2, p2, r2, cd, e2, gg2, x2⟩ := (hG.ext hEE).at (by rw [ofs2_length]; omega)
      rw [ofs2_length] at e2
      cases e2
      obtain ⟨s1, hs1, ha1⟩ := x2 ns[i] (ofs N[ns[i]]) (ofs2_get (by simp))
      obtain ⟨qs, csz, rfl⟩ := ha1.lenN
      have hrl := hN.row_len hni
      have hgd : N.getD ns[i] [] = N[ns[i]] := by rw [List.getD_eq_getElem?_getD, List.getElem?_eq_getElem hni]; rfl
      refine cSkip (kSeqN ?_)
      refine cSeq ?_
      refine cBlock ?_
      refine cSeq ?_
      refine cRegion ?_
      refine sIx T25 S3 rfl rfl (by omega) ?_
      refine sLd (v := nv ns[i]) A3 rfl gg (x1 i ns[i] (by simp)) ?_
      refine sAs (v := nv _) rfl ?_
      refine sNil (kSeqN ?_)
      refine cSeq ?_
      refine cRegion ?_
      refine sFA F24_0 rfl ?_
      refine sLd (v := .slice _ _ _) A22 rfl (by simp (disch := first | omega | (simp only [Array.size_push, Array.size_setIfInBounds]; done) | (simp only [Array.size_push, Array.size_setIfInBounds]; omega)) only [gP, gPn, gS, gSn, g8, f1, f2]; try rfl) rfl ?_
      refine sMv (v := nv _) rfl ?_
      refine sIx T22 S25 rfl rfl hni ?_
      refine sLd (v := .slice _ _ _) A25 rfl gg2 hs1 ?_
      obtain ⟨v37, m37, h37, o37, k37⟩ := spec_Clone ha1 (by rw [ofs_length]; omega)
      have i37 := o37.ints
      obtain ⟨q37, c37, rfl⟩ := i37.len
      refine sCall1 rfl call15 rfl h37 ?_
      refine sMv (v := nv _) rfl ?_
      refine sBuildS T25 S3 Z3 (by decide) (by decide) (by decide) (by kernel_rfl) fill1 rfl ?_
      refine sApp App25 rfl rfl (N := m'.size) (o37.ext (.push _ _)) one_ints (by have := k37.1; simp; omega) (by rw [ofs_length]; simp; omega) fun v40 m40 hO40 hL40 => ?_
      rw [show ofs N[ns[i]] ++ [Int.ofNat ns[i]] = ofs (N[ns[i]] ++ [ns[i]]) by rw [ofs_append]; rfl] at hO40
      obtain ⟨q40, c40, rfl⟩ := hO40.ints.lenN
      have hE40 : Ext m' m40 := Low.to_ext (k37.trans (.push _ _)) hL40 (Nat.le_refl _)
      have g840 := hE40.cells g8
      have hO' := hO.ext hE40
      refine sAs (v := .slice _ _ _) rfl ?_
      refine sNil (kSeqN ?_)
      refine cDrawH (hs := [(1,10)]) rfl (by decide) ?_
      refine lStepO (sFA F57_2 rfl (sNil fun e0 hm0 => ?_))
      refine lStepLd (v := .slice _ _ _) A55 rfl g840 rfl fun e1 hm1 hv1 hr1 => ?_
      refine lStepO (sBuild B105k (sNil fun e2 hm2 => ?_))
      refine lStepO (sMv (v := .slice _ _ _) rfl (sNil fun e3 hm3 => ?_))
      refine lStepLen T25 rfl fun e4 hm4 hv4 hr4 => ?_
      refine lStepO (sBin (v := nv N[ns[i]].length) (a := (N[ns[i]] ++ [ns[i]]).length) (b := 1) rfl rfl (by rw [aInt_sub (by simp; omega)]; simp) (sNil fun e5 hm5 => ?_))
      refine lStepO (sP (v := nv (kindM N[ns[i]].length)) (idx105 hrl) (sNil fun e6 hm6 => ?_))
      refine lStepO (sMv (v := .slice _ _ _) rfl (sNil fun e7 hm7 => ?_))
      refine lStepO (sBuild B76 (sNil fun e8 hm8 => ?_))
      refine lStepO (sBuildS T55 S76 Z76 (by decide) (by decide) (by decide) (by kernel_rfl) fillA4 rfl (sNil fun e9 hm9 => ?_))
      refine lStepO (sAppC El55 rfl rfl (N := m9.size + 1) (n := (circM N (ns.take i)).length) (cs := cs) (hO'.1.ext (.push _ _)) (gP rfl) rfl (by kernel_rfl) (by have := live g840; simp; omega) (by simp [circM]; omega) fun v' m4 hO4 hL4 hG4 => sNil fun e10 hm10 => ?_)
      have g84 := hL4.cells (show m9.size < m9.size + 1 by omega) ((gPn (live g840)).trans g840)
      have hgr := (hO'.ext (.push _ _)).grew (s := .slice q40 (N[ns[i]] ++ [ns[i]]).length c40) (k := kindM N[ns[i]].length) (w := N[ns[i]] ++ [ns[i]]) ((hO40.mono (by omega)).ext (.push _ _)) (fun b hb e => by
        have h1 := (hO40.lt hb).1
        have h2 := (hO.1.lt e).2
        omega) hG4 hO4
      obtain ⟨q4, cp4, rfl⟩ := hO4.len
      refine lStepO (sFA F57_2 rfl (sNil fun e11 hm11 => ?_))
      refine lStepO (sSt (v := .slice _ _ _) S55 rfl rfl g84 (by simp) rfl rfl (sNil fun e12 hm12 => ?_))
      refine ⟨?_, (kBlkN (kSeqN ?_))⟩
      ·
        refine obl_atE (e := e1) (e' := e10) (by simp) (by rfl) (by simp) ((hr1 e10.m _ _ (by rw [hm10, gPn (live g840)]; exact g840) (by rfl)).trans (congrArg some hv1.symm)) ?_
        trivial
      refine cRegion ?_
      refine sBin rfl rfl (aInt_add (b := 1) (by omega)) ?_
      refine sMv (v := nv _) rfl ?_
      refine sNil (kSeqN ?_)
      refine ⟨_, ?_, i + 1, _, cs ++ #[nv (kindM N[ns[i]].length), .slice q40 (N[ns[i]] ++ [ns[i]]).length c40, nv 0, nv 0], rfl, by omega, hLo.trans ((Low.of_ext hE40 (by omega)).trans ((Low.push _ (by have := hE40.1; omega) _).trans ((hL4.le (Nat.le_succ _)).trans (.set (Nat.le_refl _) _)))), by rw [gS rfl (live g84)]; rfl, ?_, rfl, rfl, rfl, rfl, rfl, rfl, trivial⟩
      · omega
      · rw [circM_take c1, show gateM N ns[i] = (kindM N[ns[i]].length, N[ns[i]] ++ [ns[i]]) by rw [gateM, hgd]]
        have := hgr.only (.set m9.size m4 (.cells true #[nv N.length, nv 0, .slice q4 ((circM N (ns.take i)).length + 1) cp4])) (by omega)
        exact this
    ·
      refine cExit (kSeqE (kSeqE (kBlkS (kSeqN ?_))))
      refine cSeq ?_
      refine cRegion ?_
      refine sLdAll A57 S57 rfl (by simp (disch := first | omega | (simp only [Array.size_push, Array.size_setIfInBounds]; done) | (simp only [Array.size_push, Array.size_setIfInBounds]; omega)) only [gP, gPn, gS, gSn, g8, f1, f2]; try rfl) rfl ?_
      refine sStAll S57 rfl rfl (by simp (disch := first | omega | (simp only [Array.size_push, Array.size_setIfInBounds]; done) | (simp only [Array.size_push, Array.size_setIfInBounds]; omega)) only [gP, gPn, gS, gSn, g8, f1, f2]; try rfl) rfl rfl (by kernel_rfl) ?_
      refine sAs (v := nv 0) rfl ?_
      refine sNil (kSeqN ?_)
      refine cRet ?_
      obtain rfl : i = ns.length := by omega
      refine ⟨.inr rfl, _, resRs_agg2 A57 S57 rfl (gS rfl (live f2)) rfl, _, cs, by rw [h0]; rfl, ?_, hEE.set (b := m.size + 1) (by omega) _⟩
      have := (hO.only (.set (m.size + 1) m' (.cells true #[nv N.length, nv 0, .slice qv (circM N (ns.take ns.length)).length cv])) (by omega)).mono (N' := m.size) (by omega)
      simpa only [List.take_length] using this

end Go.AM

/-! ### M28 -/
namespace Go.AM
set_option linter.unusedVariables false
set_option linter.unusedSimpArgs false
def risingB (l : List Nat) : Bool := (List.range (l.length - 1)).all fun i => decide (l.getD i 0 ≤ l.getD (i + 1) 0)
def apartB (l : List Nat) : Bool := (List.range (l.length - 1)).all fun i => decide (l.getD i 0 ≠ l.getD (i + 1) 0)
def marksM (ps : List Nat) : List Bool := (List.range 1024).map fun i => decide (i ∈ ps)
@[simp] theorem marksM_length (ps : List Nat) : (marksM ps).length = 1024 := by simp [marksM]
theorem marksM_get {ps : List Nat} {i : Nat} (h : i < 1024) : (marksM ps)[i]? = some (decide (i ∈ ps)) := by simp [marksM, h]
theorem marksM_set {ps : List Nat} {x : Nat} : (marksM ps).set x true = marksM (x :: ps) := by
  refine List.ext_getElem? fun i => ?_
  rw [List.getElem?_set, marksM_length]
  by_cases hi : i < 1024
  · rw [marksM_get hi, marksM_get hi]
    by_cases h : x = i
    · subst h; rw [if_pos rfl, if_pos hi]; simp
    · have h' : ¬ i = x := fun e => h e.symm
      rw [if_neg h]; simp [h']
  · rw [List.getElem?_eq_none (by simp; omega), List.getElem?_eq_none (by simp; omega)]
    split
    · rw [if_neg (by omega)]
    · rfl
theorem marksM_congr {ps qs : List Nat} (h : ∀ i, i < 1024 → (i ∈ ps ↔ i ∈ qs)) : marksM ps = marksM qs := by
  unfold marksM
  exact List.map_congr_left fun i hi => decide_eq_decide.2 (h i (List.mem_range.1 hi))
theorem marksM_iff {ps qs : List Nat} : marksM ps = marksM qs ↔ ∀ i, i < 1024 → (i ∈ ps ↔ i ∈ qs) := by
  refine ⟨fun h i hi => ?_, marksM_congr⟩
  have := congrArg (·[i]?) h
  simp only [marksM_get hi] at this
  exact decide_eq_decide.1 (Option.some.inj this)
/-- Where the moves from one position lead. -/
def tosM (P : List Nat) (k x : Nat) (n : Nat) : List Nat := ((List.range n).filter (wayB P k x)).map fun i => x ^^^ 2 ^ i
def closedB (P : List Nat) (k : Nat) (ps : List Nat) : Bool := ps.all fun x => (tosM P k x P.length).all fun y => decide (y ∈ ps)
theorem tosM_succ (P : List Nat) (k x n : Nat) : tosM P k x (n + 1) = tosM P k x n ++ (if wayB P k x n then [x ^^^ 2 ^ n] else []) := by
  rw [tosM, List.range_succ, List.filter_append, List.map_append, tosM]
  congr 1
  by_cases h : wayB P k x n = true
  · simp [h]
  · simp [h]
def showsB (P : List Nat) (g k : Nat) (ps : List Nat) : Bool := risingB ps && apartB ps && (decide (0 ∈ ps) && !decide (g ∈ ps)) && closedB P k ps
def showsE (G : List (List Int)) (gs : List Int) (k : Int) (ps : List Int) : Nat :=
  if withE G gs = 0 then (if (k < 0 ∨ 10 < k) ∨ ps.any (fun x => decide (x < 0 ∨ Int.ofNat (2 ^ G.length - 1) < x)) = true then 3 else 0) else withE G gs
def showsG (G : List (List Int)) (gs : List Int) (k : Int) (ps : List Int) : Bool := decide (showsE G gs k ps = 0) && showsB (needsM (natsG G)) (posM (nats gs)) k.toNat (nats ps)
theorem range_nat {n : Nat} {ps : List Int} (h : ps.any (fun x => decide (x < 0 ∨ Int.ofNat n < x)) ≠ true) : ∃ r : List Nat, ps = ofs r ∧ ∀ x ∈ r, x ≤ n := by
  have hh : ∀ x ∈ ps, 0 ≤ x ∧ x ≤ Int.ofNat n := fun x hx => by
    have : ¬ (x < 0 ∨ Int.ofNat n < x) := fun c => h (List.any_eq_true.2 ⟨x, hx, decide_eq_true c⟩)
    omega
  refine ⟨nats ps, ?_, fun x hx => ?_⟩
  · refine List.ext_getElem? fun i => ?_
    simp only [ofs, nats, List.getElem?_map, Option.map_map]
    cases hi : ps[i]? with
    | none => rfl
    | some x =>
      have := hh x (List.mem_of_getElem? hi)
      simp; omega
  · simp only [nats, List.mem_map] at hx
    obtain ⟨y, hy, rfl⟩ := hx
    have := (hh y hy).2
    simp at this ⊢; omega
end Go.AM

/-! ### P15 -/
namespace Go.AM
open Go.Proofs
set_option maxRecDepth 100000
set_option linter.unusedVariables false
set_option linter.unusedSimpArgs false
theorem callx {k : Nat} (h : callable Tryd.prog k = true) : callable Tryd.prog k = true := h
theorem call140 : callable Tryd.prog 140 = true := by kernel_rfl
theorem call141 : callable Tryd.prog 141 = true := by kernel_rfl
theorem call142 : callable Tryd.prog 142 = true := by kernel_rfl
theorem call143 : callable Tryd.prog 143 = true := by kernel_rfl
theorem call144 : callable Tryd.prog 144 = true := by kernel_rfl

theorem okf122 : okF Tryd.prog H0 122 6 = true := by kernel_rfl
theorem spec_isNaN {m : Mem} {x : Int} : ACalls Tryd.prog 122 #[.int .i64 x] m (.bool false) m := by
  suffices h : ∃ v m', ACalls Tryd.prog 122 #[.int .i64 x] m v m' ∧ (v = .bool false ∧ m' = m) by
    obtain ⟨v, m', h, rfl, rfl⟩ := h; exact h
  refine wpF (args := [_]) mixed okf122 (fn := Tryd.f122) rfl rfl rfl (by simp) ?_
  refine cSeq ?_
  refine cRegion ?_
  refine sAs (v := .bool _) rfl ?_
  refine sNil (kSeqN ?_)
  refine cSeq ?_
  refine cRegion ?_
  refine sMv (v := .int _ _) rfl ?_
  refine sMv (v := .int _ _) rfl ?_
  refine sBinI (v := .bool false) rfl rfl (by rw [aInt_neqI]; simp) ?_
  refine sAs (v := .bool _) rfl ?_
  refine sNil (kSeqN ?_)
  refine cRet ?_
  exact ⟨.inr rfl, _, rfl, rfl, rfl⟩

theorem okf111 : okF Tryd.prog H0 111 17 = true := by kernel_rfl
theorem spec_Less {m : Mem} {x y : Int} : ACalls Tryd.prog 111 #[.int .i64 x, .int .i64 y] m (.bool (decide (x < y))) m := by
  suffices h : ∃ v m', ACalls Tryd.prog 111 #[.int .i64 x, .int .i64 y] m v m' ∧ (v = .bool (decide (x < y)) ∧ m' = m) by
    obtain ⟨v, m', h, rfl, rfl⟩ := h; exact h
  refine wpF (args := [_, _]) mixed okf111 (fn := Tryd.f111) rfl rfl rfl (by simp) ?_
  refine cSeq ?_
  refine cRegion ?_
  refine sAs (v := .bool _) rfl ?_
  refine sNil (kSeqN ?_)
  refine cSeq ?_
  refine cRegion ?_
  refine sMv (v := .int _ _) rfl ?_
  refine sCall1 (v := .bool false) rfl call122 rfl spec_isNaN ?_
  refine sMv (v := .bool _) rfl ?_
  refine sGno (q' := false) rfl rfl (by simp) ?_
  refine sGno (q' := false) rfl rfl (by simp) ?_
  refine sGno (q' := false) rfl rfl (by simp) ?_
  refine sP (v := .bool _) rfl ?_   -- t11 pick ['t7', 't10', '(bool false)']
  refine sMv (v := .bool _) rfl ?_
  refine sG rfl rfl ?_
  refine sMv (v := .int _ _) rfl ?_
  refine sG rfl rfl ?_
  refine sMv (v := .int _ _) rfl ?_
  refine sG rfl rfl ?_
  refine sBinI rfl rfl aInt_lssI ?_
  refine sP (v := .bool _) rfl ?_
  refine sAs (v := .bool _) rfl ?_
  refine sNil (kSeqN ?_)
  refine cRet ?_
  exact ⟨.inr rfl, _, rfl, rfl, rfl⟩

theorem okf141 : okF Tryd.prog H0 141 21 = true := by kernel_rfl
theorem spec_IsSorted {m : Mem} {a : Value} {l : List Nat} (ha : IntsAt m a (ofs l)) (hl : l.length < 1000000) : ACalls Tryd.prog 141 #[a] m (.bool (risingB l)) m := by
  suffices h : ∃ v m', ACalls Tryd.prog 141 #[a] m v m' ∧ (v = .bool (risingB l) ∧ m' = m) by
    obtain ⟨v, m', h, rfl, rfl⟩ := h; exact h
  obtain ⟨q, cap, rfl⟩ := ha.lenN
  refine wpF (args := [_]) mixed okf141 (fn := Tryd.f141) rfl rfl rfl (by simp) ?_
  refine cSeq ?_
  refine cRegion ?_
  refine sAs (v := .bool _) rfl ?_
  refine sNil (kSeqN ?_)
  refine cSeq ?_
  refine cSeq ?_
  refine cRegion ?_
  refine sMv (v := .slice _ _ _) rfl ?_
  refine sLen T25 rfl ?_
  refine sBinI (v := .int .i64 (Int.ofNat l.length - 1)) rfl rfl (aInt_subI (b := 1) (by simp; omega)) ?_
  refine sAs (v := .int _ _) rfl ?_
  refine sNil (kSeqN ?_)
  refine cBlock ?_
  refine wpC_loop (fun k ρ m' => ∃ i : Nat, k = i ∧ i ≤ l.length ∧ (∀ j, i ≤ j + 1 → j + 1 < l.length → l.getD j 0 ≤ l.getD (j + 1) 0) ∧ m = m' ∧ Has ρ [(0, .slice q l.length cap), (3, .int .i64 (Int.ofNat i - 1))]) ⟨l.length, rfl, Nat.le_refl _, fun j h1 h2 => by omega, rfl, rfl, rfl, trivial⟩ ?_
  rintro k ρ _ ⟨i, rfl, hi, hj, rfl, hh⟩
  rw [hh.env]; clear hh
  refine cSeq ?_   -- seq 3
  refine cSeq ?_
  refine cRegion ?_
  refine sMv (v := .int _ _) rfl ?_
  refine sBinI (v := .bool (decide (1 < k))) (b := 0) rfl rfl (by
    have : aInt .gtr .i64 (Int.ofNat k - 1) 0 = some (.bool (decide (Int.ofNat k - 1 > 0))) := rfl
    rw [this]; congr 2
    exact decide_eq_decide.2 (by simp; omega)) ?_
  refine sNil (kSeqN ?_)
  refine cCond (p := 1 < k) rfl (fun c0 => ?_) (fun c0 => ?_)
  ·
    obtain ⟨j, rfl⟩ : ∃ j, k = j + 2 := ⟨k - 2, by omega⟩
    obtain ⟨b1, o1, p1, r1, cc, e1, g1, x1⟩ := ha.atN (by omega)
    cases e1
    have hk1 : Int.ofNat (j + 2) - 1 = Int.ofNat (j + 1) := by simp; omega
    rw [hk1]
    refine cSkip (kSeqN ?_)
    refine cSeq ?_
    refine cBlock ?_
    refine cSeq ?_
    refine cDraw rfl ?_
    refine sMv (v := .slice _ _ _) rfl ?_
    refine sMv (v := nv (j + 1)) rfl ?_
    refine sIx T25 S3 rfl rfl (by omega) ?_
    refine sLd (v := nv (l.getD (j + 1) 0)) A3 rfl g1 (x1 _ _ (getDeq (by omega))) ?_
    refine sMv (v := .slice _ _ _) rfl ?_
    refine sMv (v := nv (j + 1)) rfl ?_
    refine sBin (v := nv j) (a := j + 1) (b := 1) rfl rfl (aInt_sub (by omega)) ?_
    refine sIx T25 S3 rfl rfl (by omega) ?_
    refine sLd (v := nv (l.getD j 0)) A3 rfl g1 (x1 _ _ (getDeq (by omega))) ?_
    refine sCall2 rfl call111 rfl rfl spec_Less ?_
    refine sNil (kSeqN ?_)
    refine cCond (p := l.getD (j + 1) 0 < l.getD j 0) (by show Value.bool _ = Value.bool _; congr 1; exact decide_eq_decide.2 (by simp)) (fun c1 => ?_) (fun c1 => ?_)
    ·
      refine cSeq ?_
      refine cRegion ?_
      refine sAs (v := .bool _) rfl ?_
      refine sNil (kSeqN ?_)
      refine cRet (kBlkR (kSeqR (kSeqR (kBlkR (kSeqR ?_)))))
      refine ⟨.inr rfl, _, rfl, ?_, rfl⟩
      have : risingB l = false := by
        rw [risingB, Bool.eq_false_iff]
        intro h
        have := of_decide_eq_true (List.all_eq_true.1 h j (List.mem_range.2 (by omega)))
        omega
      rw [this]; rfl
    ·
      refine cSkip (kBlkN (kSeqN ?_))
      refine cRegion ?_
      refine sMv (v := nv (j + 1)) rfl ?_
      refine sBinI (v := .int .i64 (Int.ofNat (j + 1) - 1)) (a := Int.ofNat (j + 1)) (b := 1) rfl rfl (aInt_subI (by simp; omega)) ?_
      refine sAs (v := .int _ _) rfl ?_
      refine sNil (kSeqN ?_)
      refine ⟨j + 1, by omega, j + 1, rfl, by omega, fun i h1 h2 => ?_, rfl, rfl, rfl, trivial⟩
      by_cases h : i = j
      · subst h; omega
      · exact hj i (by omega) h2
  ·
    refine cExit (kSeqE (kSeqE (kBlkS (kSeqN ?_))))
    refine cSeq ?_
    refine cRegion ?_
    refine sAs (v := .bool _) rfl ?_
    refine sNil (kSeqN ?_)
    refine cRet ?_
    refine ⟨.inr rfl, _, rfl, ?_, rfl⟩
    have : risingB l = true := by
      rw [risingB, List.all_eq_true]
      intro i hi2
      have := List.mem_range.1 hi2
      exact decide_eq_true (hj i (by omega) (by omega))
    rw [this]; rfl

theorem okf142 : okF Tryd.prog H0 142 61 = true := by kernel_rfl
theorem spec_CompactC {m : Mem} {b : Nat} {l : List Nat} {C : Array Value} (hb : Mem.get m b = .cells true C) (hlC : l.length ≤ C.size) (hgd : ∀ i, i < l.length → C[i]? = some (nv (l.getD i 0))) (hl : l.length < 1000000) : ∃ v m', ACalls Tryd.prog 142 #[.slice (some ⟨b, 0, some 1⟩) l.length C.size] m v m' ∧ (∃ q n c, v = .slice q n c ∧ (n = l.length ↔ apartB l = true) ∧ But b m m' ∧ m'.size = m.size) := by
  have hbm := live hb
  refine wpF (args := [_]) mixed okf142 (fn := Tryd.f142) rfl rfl rfl (by simp) ?_
  refine cSeq ?_
  refine cRegion ?_
  refine sAs (v := .slice _ _ _) rfl ?_
  refine sNil (kSeqN ?_)
  refine cSeq ?_   -- seq 1
  refine cSeq ?_
  refine cRegion ?_
  refine sMv (v := .slice _ _ _) rfl ?_
  refine sLen T25 rfl ?_
  refine sBin (b := 2) rfl rfl aInt_lss ?_
  refine sNil (kSeqN ?_)
  refine cCond rfl (fun c0 => ?_) (fun c0 => ?_)
  ·
    refine cSeq ?_
    refine cRegion ?_
    refine sMv (v := .slice _ _ _) rfl ?_
    refine sAs (v := .slice _ _ _) rfl ?_
    refine sNil (kSeqN ?_)
    refine cRet (kSeqR ?_)
    refine ⟨.inr rfl, _, rfl, _, _, _, rfl, ⟨fun _ => ?_, fun _ => rfl⟩, ⟨Nat.le_refl _, fun _ _ _ => rfl⟩, rfl⟩
    rw [apartB, show l.length - 1 = 0 by omega]; rfl
  ·
    refine cSkip (kSeqN ?_)
    refine cSeq ?_
    refine cSeq ?_
    refine cRegion ?_
    refine sAs (v := nv 1) rfl ?_
    refine sNil (kSeqN ?_)
    refine cBlock ?_
    refine wpC_loop (fun k ρ m' => ∃ i, k = l.length - i ∧ 1 ≤ i ∧ i ≤ l.length ∧ (∀ j, j + 1 < i → l.getD j 0 ≠ l.getD (j + 1) 0) ∧ m = m' ∧ Has ρ [(0, .slice (some ⟨b, 0, some 1⟩) l.length C.size), (3, nv i)]) ⟨1, rfl, Nat.le_refl _, by omega, by omega, rfl, rfl, rfl, trivial⟩ ?_
    rintro k ρ _ ⟨i, rfl, hi1, hi, hj, rfl, hh⟩
    rw [hh.env]; clear hh
    refine cSeq ?_   -- seq 6
    refine cSeq ?_
    refine cRegion ?_
    refine sMv (v := nv _) rfl ?_
    refine sMv (v := .slice _ _ _) rfl ?_
    refine sLen T25 rfl ?_
    refine sBin rfl rfl (aInt_lss) ?_
    refine sNil (kSeqN ?_)
    refine cCond rfl (fun c1 => ?_) (fun c1 => ?_)
    ·
      obtain ⟨j, rfl⟩ : ∃ j, i = j + 1 := ⟨i - 1, by omega⟩
      refine cSkip (kSeqN ?_)
      refine cSeq ?_
      refine cBlock ?_
      refine cSeq ?_
      refine cDraw rfl ?_
      refine sMv (v := .slice _ _ _) rfl ?_
      refine sMv (v := nv _) rfl ?_
      refine sIx T25 S3 rfl rfl (by omega) ?_
      refine sLd (v := nv (l.getD (j + 1) 0)) A3 rfl (by simp (disch := first | omega | (simp only [Array.size_push, Array.size_setIfInBounds]; done) | (simp only [Array.size_push, Array.size_setIfInBounds]; omega)) only [gP, gPn, gS, gSn, hb]; try rfl) (by rw [Nat.zero_add, Nat.mul_one]; exact hgd _ (by omega)) ?_
      refine sMv (v := .slice _ _ _) rfl ?_
      refine sMv (v := nv _) rfl ?_
      refine sBin (v := nv j) (a := j + 1) (b := 1) rfl rfl (aInt_sub (by omega)) ?_
      refine sIx T25 S3 rfl rfl (by omega) ?_
      refine sLd (v := nv (l.getD j 0)) A3 rfl (by simp (disch := first | omega | (simp only [Array.size_push, Array.size_setIfInBounds]; done) | (simp only [Array.size_push, Array.size_setIfInBounds]; omega)) only [gP, gPn, gS, gSn, hb]; try rfl) (by rw [Nat.zero_add, Nat.mul_one]; exact hgd _ (by omega)) ?_
      refine sBin (a := l.getD (j + 1) 0) (b := l.getD j 0) rfl rfl aInt_eql ?_
      refine sNil (kSeqN ?_)
      refine cCond rfl (fun c2 => ?_) (fun c2 => ?_)
      ·
        have hap : apartB l = false := by
          rw [apartB, Bool.eq_false_iff]
          intro h
          exact of_decide_eq_true (List.all_eq_true.1 h j (List.mem_range.2 (by omega))) c2.symm
        refine cSeq ?_
        refine cRegion ?_
        refine sMv (v := .slice _ _ _) rfl ?_
        refine sMv (v := nv _) rfl ?_
        refine sSlLo T25 S3 rfl rfl (by omega) (by omega) ?_
        refine sAs (v := .slice _ _ _) rfl ?_
        refine sNil (kSeqN ?_)
        refine cSeq ?_
        refine cSeq ?_
        refine cRegion ?_
        refine sAs (v := nv 1) rfl ?_
        refine sNil (kSeqN ?_)
        refine cBlock ?_
        refine wpC_loop (fun k' ρ m' => ∃ (s e : Nat) (T : Array Value), k' = l.length - e ∧ 1 ≤ e ∧ e ≤ l.length - (j + 1) ∧ j + 1 ≤ s ∧ s ≤ j + e ∧ T.size = C.size ∧ (∀ i, i < l.length → ∃ x, T[i]? = some (nv x)) ∧ Mem.get m' b = .cells true T ∧ But b m m' ∧ m'.size = m.size ∧ Has ρ [(0, .slice (some ⟨b, 0, some 1⟩) l.length C.size), (3, nv s), (4, .slice (some ⟨b, 0 + (j + 1) * 1, some 1⟩) (l.length - (j + 1)) (C.size - (j + 1))), (5, nv e)]) ⟨j + 1, 1, C, rfl, Nat.le_refl _, by omega, Nat.le_refl _, by omega, rfl, fun i hi => ⟨_, hgd i hi⟩, hb, ⟨Nat.le_refl _, fun _ _ _ => rfl⟩, rfl, rfl, rfl, rfl, rfl, trivial⟩ ?_
        rintro k' ρ m' ⟨s, e, T, rfl, he1, he, hs1, hs, hT, hTd, g1, hB, hz, hh⟩
        rw [hh.env]; clear hh
        refine cSeq ?_   -- seq 13
        refine cSeq ?_
        refine cRegion ?_
        refine sMv (v := nv _) rfl ?_
        refine sMv (v := .slice _ _ _) rfl ?_
        refine sLen T25 rfl ?_
        refine sBin (a := e) (b := l.length - (j + 1)) rfl rfl aInt_lss ?_
        refine sNil (kSeqN ?_)
        refine cCond rfl (fun c3 => ?_) (fun c3 => ?_)
        ·
          refine cSkip (kSeqN ?_)
          refine cSeq ?_
          refine cBlock ?_
          refine cSeq ?_
          refine cDraw rfl ?_
          refine sMv (v := .slice _ _ _) rfl ?_
          refine sMv (v := nv _) rfl ?_
          refine sIx T25 S3 rfl rfl (by omega) ?_
          obtain ⟨x1, hx1⟩ := hTd (j + 1 + e) (by omega)
          obtain ⟨x2, hx2⟩ := hTd (j + 1 + (e - 1)) (by omega)
          refine sLd (v := nv x1) A3 rfl (by simp (disch := first | omega | (simp only [Array.size_push, Array.size_setIfInBounds]; done) | (simp only [Array.size_push, Array.size_setIfInBounds]; omega)) only [gP, gPn, gS, gSn, g1]; try rfl) (by rw [show 0 + (j + 1) * 1 + e * 1 = j + 1 + e by omega]; exact hx1) ?_
          refine sMv (v := .slice _ _ _) rfl ?_
          refine sMv (v := nv _) rfl ?_
          refine sBin (v := nv (e - 1)) (a := e) (b := 1) rfl rfl (aInt_sub (by omega)) ?_
          refine sIx T25 S3 rfl rfl (by omega) ?_
          refine sLd (v := nv x2) A3 rfl (by simp (disch := first | omega | (simp only [Array.size_push, Array.size_setIfInBounds]; done) | (simp only [Array.size_push, Array.size_setIfInBounds]; omega)) only [gP, gPn, gS, gSn, g1]; try rfl) (by rw [show 0 + (j + 1) * 1 + (e - 1) * 1 = j + 1 + (e - 1) by omega]; exact hx2) ?_
          refine sBin (a := x1) (b := x2) rfl rfl aInt_neq ?_
          refine sNil (kSeqN ?_)
          refine cCond rfl (fun c4 => ?_) (fun c4 => ?_)
          ·
            refine cSeq ?_
            refine cRegion ?_
            refine sMv (v := .slice _ _ _) rfl ?_
            refine sMv (v := nv _) rfl ?_
            refine sMv (v := .slice _ _ _) rfl ?_
            refine sMv (v := nv _) rfl ?_
            refine sIx T25 S3 rfl rfl (by omega) ?_
            refine sLd (v := nv x1) A3 rfl (by simp (disch := first | omega | (simp only [Array.size_push, Array.size_setIfInBounds]; done) | (simp only [Array.size_push, Array.size_setIfInBounds]; omega)) only [gP, gPn, gS, gSn, g1]; try rfl) (by rw [show 0 + (j + 1) * 1 + e * 1 = j + 1 + e by omega]; exact hx1) ?_
            refine sIx T25 S3 rfl rfl (by omega) ?_
            refine sSt (v := nv _) S3 rfl rfl (by simp (disch := first | omega | (simp only [Array.size_push, Array.size_setIfInBounds]; done) | (simp only [Array.size_push, Array.size_setIfInBounds]; omega)) only [gP, gPn, gS, gSn, g1]; try rfl) (by omega) rfl rfl ?_
            refine sNil (kSeqN ?_)
            refine cRegion ?_
            refine sMv (v := nv _) rfl ?_
            refine sBin rfl rfl (aInt_add (b := 1) (by omega)) ?_
            refine sAs (v := nv _) rfl ?_
            refine sNil (kBlkN (kSeqN ?_))
            refine cRegion ?_
            refine sMv (v := nv _) rfl ?_
            refine sBin rfl rfl (aInt_add (b := 1) (by omega)) ?_
            refine sAs (v := nv _) rfl ?_
            refine sNil (kSeqN ?_)
            refine ⟨_, ?_, s + 1, e + 1, T.setIfInBounds (0 + s * 1) (nv x1), rfl, by omega, by omega, by omega, by omega, by simpa using hT, fun i hi => ?_, (by simp (disch := first | omega | (simp only [Array.size_push, Array.size_setIfInBounds]; done) | (simp only [Array.size_push, Array.size_setIfInBounds]; omega)) only [gP, gPn, gS, gSn, g1]; try rfl), hB.set (.inl rfl) _, by simpa using hz, rfl, rfl, rfl, rfl, trivial⟩
            · omega
            · rw [Array.getElem?_setIfInBounds]
              split
              · exact ⟨x1, if_pos (by omega)⟩
              · exact hTd i hi
          ·
            refine cSkip (kBlkN (kSeqN ?_))
            refine cRegion ?_
            refine sMv (v := nv _) rfl ?_
            refine sBin rfl rfl (aInt_add (b := 1) (by omega)) ?_
            refine sAs (v := nv _) rfl ?_
            refine sNil (kSeqN ?_)
            refine ⟨_, ?_, s, e + 1, T, rfl, by omega, by omega, by omega, by omega, hT, hTd, g1, hB, hz, rfl, rfl, rfl, rfl, trivial⟩
            omega
        ·
          refine cExit (kSeqE (kSeqE (kBlkS (kSeqN ?_))))
          refine cSeq ?_
          refine cRegion ?_
          refine sMv (v := .slice _ _ _) rfl ?_
          refine sMv (v := nv _) rfl ?_
          refine sSlLo (k := s) T25 S3 rfl rfl (by omega) (by omega) ?_
          refine sClr T25 Z3 rfl (by simp (disch := first | omega | (simp only [Array.size_push, Array.size_setIfInBounds]; done) | (simp only [Array.size_push, Array.size_setIfInBounds]; omega)) only [gP, gPn, gS, gSn, g1]; try rfl) (by omega) ?_
          refine sNil (kSeqN ?_)
          refine cSeq ?_
          refine cRegion ?_
          refine sMv (v := .slice _ _ _) rfl ?_
          refine sMv (v := nv _) rfl ?_
          refine sSlHi (k := s) T25 S3 rfl rfl (by omega) ?_
          refine sAs (v := .slice _ _ _) rfl ?_
          refine sNil (kSeqN ?_)
          refine cRet (kBlkR (kSeqR (kSeqR (kBlkR (kSeqR ?_)))))
          exact ⟨.inr rfl, _, rfl, _, _, _, rfl, ⟨fun h => by omega, fun h => by rw [hap] at h; cases h⟩, hB.set (.inl rfl) _, by simpa using hz⟩
      ·
        refine cSkip (kBlkN (kSeqN ?_))
        refine cRegion ?_
        refine sMv (v := nv _) rfl ?_
        refine sBin rfl rfl (aInt_add (b := 1) (by omega)) ?_
        refine sAs (v := nv _) rfl ?_
        refine sNil (kSeqN ?_)
        refine ⟨_, ?_, j + 2, rfl, by omega, by omega, fun i hi => ?_, rfl, rfl, rfl, trivial⟩
        · omega
        · by_cases h : i = j
          · subst h; exact fun e => c2 e.symm
          · exact hj i (by omega)
    ·
      refine cExit (kSeqE (kSeqE (kBlkS (kSeqN ?_))))
      refine cSeq ?_
      refine cRegion ?_
      refine sMv (v := .slice _ _ _) rfl ?_
      refine sAs (v := .slice _ _ _) rfl ?_
      refine sNil (kSeqN ?_)
      refine cRet ?_
      refine ⟨.inr rfl, _, rfl, _, _, _, rfl, ⟨fun _ => ?_, fun _ => rfl⟩, ⟨Nat.le_refl _, fun _ _ _ => rfl⟩, rfl⟩
      rw [apartB, List.all_eq_true]
      intro j hj2
      have := List.mem_range.1 hj2
      exact decide_eq_true (hj j (by omega))

theorem spec_CompactNil {N : Nat} {m : Mem} : ∃ v m', ACalls Tryd.prog 142 #[.slice none 0 0] m v m' ∧ (∃ q n c, v = .slice q n c ∧ (n = ([] : List Nat).length ↔ apartB [] = true) ∧ Low N m m') := by
  refine wpF (args := [_]) mixed okf142 (fn := Tryd.f142) rfl rfl rfl (by simp) ?_
  refine cSeq ?_
  refine cRegion ?_
  refine sAs (v := .slice _ _ _) rfl ?_
  refine sNil (kSeqN ?_)
  refine cSeq ?_   -- seq 1
  refine cSeq ?_
  refine cRegion ?_
  refine sMv (v := .slice _ _ _) rfl ?_
  refine sLen T25 rfl ?_
  refine sBin (a := 0) (b := 2) rfl rfl aInt_lss ?_
  refine sNil (kSeqN ?_)
  refine cCondT' rfl (by omega) ?_
  refine cSeq ?_
  refine cRegion ?_
  refine sMv (v := .slice _ _ _) rfl ?_
  refine sAs (v := .slice _ _ _) rfl ?_
  refine sNil (kSeqN ?_)
  refine cRet (kSeqR ?_)
  exact ⟨.inr rfl, _, rfl, _, _, _, rfl, ⟨fun _ => rfl, fun _ => rfl⟩, .refl _ _⟩

theorem spec_Compact {N : Nat} {m : Mem} {a : Value} {l : List Nat} (h : OwnF N m a (ofs l)) (hl : l.length < 1000000) : ∃ v m', ACalls Tryd.prog 142 #[a] m v m' ∧ (∃ q n c, v = .slice q n c ∧ (n = l.length ↔ apartB l = true) ∧ Low N m m') := by
  by_cases h0 : 0 < l.length
  · rcases h with ⟨h, _⟩ | ⟨b, cap, c, rfl, h2, h3, h4, rfl, h6⟩
    · have : (ofs l).length = 0 := by rw [h]; rfl
      rw [ofs_length] at this; omega
    · rw [ofs_length] at h4
      obtain ⟨v, m', h1, q, n, c', rfl, hn, hB, hz⟩ := spec_CompactC (l := l) h3 h4 (fun i hi => h6 i _ (ofs_get (getDeq hi))) hl
      rw [ofs_length]
      exact ⟨_, m', h1, q, n, c', rfl, hn, by rw [hz]; exact Nat.le_refl _, fun b' hb' => hB.2 b' (by have := live h3; omega) (by omega)⟩
  · obtain rfl := List.length_eq_zero_iff.1 (show l.length = 0 by omega)
    rcases h with ⟨_, rfl⟩ | ⟨b, cap, c, rfl, h2, h3, h4, rfl, h6⟩
    · exact spec_CompactNil
    · obtain ⟨v, m', h1, q, n, c', rfl, hn, hB, hz⟩ := spec_CompactC (l := []) h3 (Nat.zero_le _) (fun i hi => by cases hi) (by simp)
      exact ⟨_, m', h1, q, n, c', rfl, hn, by rw [hz]; exact Nat.le_refl _, fun b' hb' => hB.2 b' (by have := live h3; omega) (by omega)⟩
/-! ### Marks -/
def cellsM (ps : List Nat) : Array Value := ((marksM ps).map Value.bool).toArray
@[simp] theorem cellsM_size (ps : List Nat) : (cellsM ps).size = 1024 := by simp [cellsM]
theorem cellsM_get {ps : List Nat} {i : Nat} (h : i < 1024) : (cellsM ps)[i]? = some (.bool (decide (i ∈ ps))) := by
  simp only [cellsM, List.getElem?_toArray, List.getElem?_map, marksM_get h]; rfl
theorem cellsM_set (ps : List Nat) (x : Nat) : (cellsM ps).setIfInBounds x (.bool true) = cellsM (x :: ps) := by
  rw [cellsM, cellsM, ← marksM_set, List.map_set]
  apply Array.ext_getElem?
  intro i
  simp only [Array.getElem?_setIfInBounds, List.getElem?_toArray, List.getElem?_set, List.size_toArray, List.length_map]
theorem cellsM_nil : cellsM [] = Array.replicate 1024 (.bool false) := by
  apply Array.ext_getElem?
  intro i
  by_cases h : i < 1024
  · rw [cellsM_get h, Array.getElem?_replicate, if_pos h]; simp
  · rw [Array.getElem?_eq_none (by simp; omega), Array.getElem?_eq_none (by simp; omega)]
theorem cellsM_one (ps : List Nat) : (cellsM ps).all Value.oneCell' = true := by
  rw [Array.all_eq_true]
  intro i hi
  have := cellsM_get (ps := ps) (i := i) (by simpa using hi)
  rw [Array.getElem?_eq_getElem hi] at this
  rw [Option.some.inj this]; rfl
theorem cellsM_congr {ps qs : List Nat} (h : ∀ i, i ∈ ps ↔ i ∈ qs) : cellsM ps = cellsM qs := by
  rw [cellsM, cellsM, marksM_congr fun i _ => h i]
theorem eqBools {k : Nat} : ∀ (i : Nat) (t t' : List Bool), t.length = i + k → t'.length = i + k →
    aEqElems (aEq Tryd.prog 5) Tryd.prog 4 1 k i (t.map Value.bool).toArray (t'.map Value.bool).toArray = some (decide (t.drop i = t'.drop i)) := by
  have hI : undOf Tryd.prog 4 = some .bool := by kernel_rfl
  induction k with
  | zero =>
    intro i t t' h h'
    rw [List.drop_of_length_le (by omega), List.drop_of_length_le (by omega)]; rfl
  | succ k ih =>
    intro i t t' h h'
    have e1 : ((t.map Value.bool).toArray)[i * 1]? = some (.bool (t[i]'(by omega))) := by
      rw [Nat.mul_one, List.getElem?_toArray, List.getElem?_map, List.getElem?_eq_getElem (by omega)]; rfl
    have e2 : ((t'.map Value.bool).toArray)[i * 1]? = some (.bool (t'[i]'(by omega))) := by
      rw [Nat.mul_one, List.getElem?_toArray, List.getElem?_map, List.getElem?_eq_getElem (by omega)]; rfl
    have e4 : aEq Tryd.prog 5 4 (.bool (t[i]'(by omega))) (.bool (t'[i]'(by omega))) = some (t[i]'(by omega) == t'[i]'(by omega)) := by
      simp only [aEq, hI, aEq0]
    simp only [aEqElems, aPart, A4, e1, e2, e4]
    have d1 := List.drop_eq_getElem_cons (l := t) (i := i) (by omega)
    have d2 := List.drop_eq_getElem_cons (l := t') (i := i) (by omega)
    by_cases hh : t[i]'(by omega) = t'[i]'(by omega)
    · have : (t[i]'(by omega) == t'[i]'(by omega)) = true := by rw [beq_iff_eq]; exact hh
      rw [this, ih (i + 1) t t' (by omega) (by omega), d1, d2]
      refine congrArg some (decide_eq_decide.2 ⟨fun h => by rw [h, hh], fun h => (List.cons.inj h).2⟩)
    · have : (t[i]'(by omega) == t'[i]'(by omega)) = false := by rw [beq_eq_false_iff_ne]; exact hh
      rw [this, d1, d2]
      exact congrArg some (decide_eq_false fun h => hh (List.cons.inj h).1).symm
theorem eq93 {ps qs : List Nat} : aBin Tryd.prog .eql 93 (.agg (cellsM ps)) (.agg (cellsM qs)) = some (.bool (decide (marksM ps = marksM qs))) := by
  have hG : Tryd.prog.eqGuardType Tryd.prog.depth 93 = false := by kernel_rfl
  have := eqBools (k := 1024) 0 (marksM ps) (marksM qs) (by simp) (by simp)
  simp only [List.drop_zero] at this
  have e : aEq Tryd.prog (5 + 1) 93 (.agg (cellsM ps)) (.agg (cellsM qs)) = aEqElems (aEq Tryd.prog 5) Tryd.prog 4 1 1024 0 (cellsM ps) (cellsM qs) := by
    rw [aEq.eq_def]; simp only [T93, S4]
  simp only [aBin, eqAble, hG]
  rw [show eqDepth = 5 + 1 from rfl, e, cellsM, cellsM, this]; rfl

theorem okf140 : okF Tryd.prog H0 140 22 = true := by kernel_rfl
theorem spec_asks1 {m : Mem} {vs : Array Value} {a b : Int} {s : Value} {ps qs : List Nat} (hs : IntsAt m s (ofs ps)) (hl : ps.length < 1000000) : ∃ v m', ACalls Tryd.prog 140 #[.agg vs, .int .i64 a, .int .i64 b, s, .agg (cellsM qs)] m v m' ∧ (v = .bool (risingB ps && apartB ps) ∧ Ext m m') := by
  obtain ⟨q, cap, rfl⟩ := hs.lenN
  refine wpF (args := [_, _, _, _, _]) mixed okf140 (fn := Tryd.f140) rfl rfl rfl (by simp) ?_
  refine cSeq ?_
  refine cRegion ?_
  refine sBox (v := .agg _) rfl ?_
  refine sBox (v := .agg _) rfl ?_
  refine sAs (v := .bool _) rfl ?_
  refine sNil (kSeqN ?_)
  refine cSeq ?_
  refine cRegion ?_
  refine sMv (v := .slice _ _ _) rfl ?_
  refine sCall1 rfl call141 rfl (spec_IsSorted ((hs.ext (.push _ _)).ext (.push _ _)) hl) ?_
  refine sMv (v := .bool _) rfl ?_
  by_cases hr : risingB ps = true
  ·
    rw [hr]
    refine sG rfl rfl ?_
    refine sMv (v := .slice _ _ _) rfl ?_
    refine sG rfl rfl ?_
    obtain ⟨v15, m15, h15, o15, e15⟩ := spec_Clone (m := (m.push (.cells true vs)).push (.cells true (cellsM qs))) ((hs.ext (.push _ _)).ext (.push _ _)) (by rw [ofs_length]; omega)
    obtain ⟨q15, c15, rfl⟩ := o15.ints.lenN
    refine sCall1 rfl call15 rfl h15 ?_
    refine sG rfl rfl ?_
    obtain ⟨v16, m16, h16, q16, n16, c16, rfl, hn16, k16⟩ := spec_Compact o15 hl
    refine sCall1 rfl call142 rfl h16 ?_
    refine sG rfl rfl ?_
    refine sLen T25 rfl ?_
    refine sG rfl rfl ?_
    refine sMv (v := .slice _ _ _) rfl ?_
    refine sG rfl rfl ?_
    refine sLen T25 rfl ?_
    refine sG rfl rfl ?_
    refine sBin (a := n16) (b := ps.length) rfl rfl aInt_eql ?_
    refine sP (v := .bool _) rfl ?_
    refine sAs (v := .bool _) rfl ?_
    refine sNil (kSeqN ?_)
    refine cRet ?_
    refine ⟨.inr rfl, _, rfl, ?_, Low.to_ext (((Ext.push _ _).trans (.push _ _)).trans e15) k16 (by simp; omega)⟩
    rw [Bool.true_and]
    refine congrArg Value.bool ?_
    cases h : apartB ps
    · exact decide_eq_false fun e => by rw [hn16, h] at e; cases e
    · exact decide_eq_true (hn16.2 h)
  ·
    rw [Bool.not_eq_true] at hr
    rw [hr]
    refine sGno (q' := false) rfl rfl (by simp) ?_
    refine sGno (q' := false) rfl rfl (by simp) ?_
    refine sGno (q' := false) rfl rfl (by simp) ?_
    refine sGno (q' := false) rfl rfl (by simp) ?_
    refine sGno (q' := false) rfl rfl (by simp) ?_
    refine sGno (q' := false) rfl rfl (by simp) ?_
    refine sGno (q' := false) rfl rfl (by simp) ?_
    refine sP (v := .bool _) rfl ?_
    refine sAs (v := .bool _) rfl ?_
    refine sNil (kSeqN ?_)
    refine cRet ?_
    exact ⟨.inr rfl, _, rfl, rfl, (Ext.push _ _).trans (.push _ _)⟩

theorem okf143 : okF Tryd.prog H0 143 19 = true := by kernel_rfl
theorem spec_asks2 {m : Mem} {vs : Array Value} {g : Nat} {b : Int} {s : Value} {ps : List Nat} (hg : g < 1024) : ∃ v m', ACalls Tryd.prog 143 #[.agg vs, nv g, .int .i64 b, s, .agg (cellsM ps)] m v m' ∧ (v = .bool (decide (0 ∈ ps) && !decide (g ∈ ps)) ∧ Ext m m') := by
  refine wpF (args := [_, _, _, _, _]) mixed okf143 (fn := Tryd.f143) rfl rfl rfl (by simp) ?_
  refine cSeq ?_
  refine cRegion ?_
  refine sBox (v := .agg _) rfl ?_
  refine sBox (v := .agg _) rfl ?_
  refine sAs (v := .bool _) rfl ?_
  refine sNil (kSeqN ?_)
  refine cSeq ?_
  refine cRegion ?_
  refine sIxA (i := 0) T93 S4 rfl rfl (by omega) ?_
  refine sLd (v := .bool (decide (0 ∈ ps))) A4 rfl (by simp (disch := first | omega | (simp only [Array.size_push, Array.size_setIfInBounds]; done) | (simp only [Array.size_push, Array.size_setIfInBounds]; omega)) only [gP, gPn, gS, gSn]; try rfl) (by exact cellsM_get (by omega)) ?_
  refine sMv (v := .bool _) rfl ?_
  by_cases h0 : 0 ∈ ps
  ·
    rw [decide_eq_true h0]
    refine sG rfl rfl ?_
    refine sMv (v := nv _) rfl ?_
    refine sG rfl rfl ?_
    refine sIxA (i := g) T93 S4 rfl rfl hg ?_
    refine sG rfl rfl ?_
    refine sLd (v := .bool (decide (g ∈ ps))) A4 rfl (by simp (disch := first | omega | (simp only [Array.size_push, Array.size_setIfInBounds]; done) | (simp only [Array.size_push, Array.size_setIfInBounds]; omega)) only [gP, gPn, gS, gSn]; try rfl) (by rw [Nat.zero_add, Nat.mul_one]; exact cellsM_get hg) ?_
    refine sG rfl rfl ?_
    refine sP (v := .bool (!decide (g ∈ ps))) rfl ?_
    refine sP (v := .bool _) rfl ?_
    refine sAs (v := .bool _) rfl ?_
    refine sNil (kSeqN ?_)
    refine cRet ?_
    exact ⟨.inr rfl, _, rfl, rfl, (Ext.push _ _).trans (.push _ _)⟩
  ·
    rw [decide_eq_false h0]
    refine sGno (q' := false) rfl rfl (by simp) ?_
    refine sGno (q' := false) rfl rfl (by simp) ?_
    refine sGno (q' := false) rfl rfl (by simp) ?_
    refine sGno (q' := false) rfl rfl (by simp) ?_
    refine sP (v := .bool _) rfl ?_
    refine sAs (v := .bool _) rfl ?_
    refine sNil (kSeqN ?_)
    refine cRet ?_
    exact ⟨.inr rfl, _, rfl, rfl, (Ext.push _ _).trans (.push _ _)⟩

theorem okf69 : okF Tryd.prog H0 69 12 = true := by kernel_rfl
theorem spec_Shows1 {m : Mem} {x : Int} {b n : Nat} {r : Bool} {u w : Value} (hb : Mem.get m b = .cells r #[u, w, nv n]) : ACalls Tryd.prog 69 #[.int .i64 x, .pointer (some ⟨b, 0, none⟩)] m (.bool (decide (x < 0 ∨ Int.ofNat n < x))) m := by
  suffices h : ∃ v m', ACalls Tryd.prog 69 #[.int .i64 x, .pointer (some ⟨b, 0, none⟩)] m v m' ∧ (v = .bool (decide (x < 0 ∨ Int.ofNat n < x)) ∧ m' = m) by
    obtain ⟨v, m', h, rfl, rfl⟩ := h; exact h
  refine wpF (args := [_, _]) mixed okf69 (fn := Tryd.f69) rfl rfl rfl (by simp) ?_
  refine cSeq ?_
  refine cRegion ?_
  refine sAs (v := .bool _) rfl ?_
  refine sNil (kSeqN ?_)
  refine cSeq ?_
  refine cRegion ?_
  refine sMv (v := .int _ _) rfl ?_
  refine sBinI (v := .bool (decide (x < 0))) rfl rfl rfl ?_
  refine sMv (v := .bool _) rfl ?_
  by_cases h1 : x < 0
  ·
    rw [decide_eq_true h1]
    refine sGno (q' := true) rfl rfl (by simp) ?_
    refine sGno (q' := true) rfl rfl (by simp) ?_
    refine sGno (q' := true) rfl rfl (by simp) ?_
    refine sGno (q' := true) rfl rfl (by simp) ?_
    refine sP (v := .bool _) rfl ?_
    refine sAs (v := .bool _) rfl ?_
    refine sNil (kSeqN ?_)
    refine cRet ?_
    exact ⟨.inr rfl, _, rfl, by rw [decide_eq_true (.inl h1)]; rfl, rfl⟩
  ·
    rw [decide_eq_false h1]
    refine sG rfl rfl ?_
    refine sMv (v := .int _ _) rfl ?_
    refine sG rfl rfl ?_
    refine sFA F79_2 rfl ?_
    refine sG rfl rfl ?_
    refine sLd A3 rfl (by simp (disch := first | omega | (simp only [Array.size_push, Array.size_setIfInBounds]; done) | (simp only [Array.size_push, Array.size_setIfInBounds]; omega)) only [gP, gPn, gS, gSn, hb]; try rfl) rfl ?_
    refine sG rfl rfl ?_
    refine sBinI (v := .bool (decide (x > Int.ofNat n))) (b := Int.ofNat n) rfl rfl rfl ?_
    refine sP (v := .bool _) rfl ?_
    refine sAs (v := .bool _) rfl ?_
    refine sNil (kSeqN ?_)
    refine cRet ?_
    exact ⟨.inr rfl, _, rfl, congrArg Value.bool (decide_eq_decide.2 ⟨fun h => .inr h, fun h => h.resolve_left h1⟩), rfl⟩

end Go.AM

/-! ### P16 -/
namespace Go.AM
open Go.Proofs
set_option maxRecDepth 100000
set_option linter.unusedVariables false
set_option linter.unusedSimpArgs false
theorem tosM_lt {P : List Nat} {k x n N : Nat} (hx : x < 2 ^ N) (hn : n ≤ N) : ∀ y ∈ tosM P k x n, y < 2 ^ N := by
  intro y hy
  simp only [tosM, List.mem_map, List.mem_filter, List.mem_range] at hy
  obtain ⟨i, ⟨hi, _⟩, rfl⟩ := hy
  exact Nat.xor_lt_two_pow hx (Nat.pow_lt_pow_right (by omega) (by omega))
theorem marks_closed {P : List Nat} {k : Nat} {ps acc : List Nat} (hP : P.length ≤ 10) (hps : ∀ x ∈ ps, x < 2 ^ P.length) (h : ∀ y, y ∈ acc ↔ (y ∈ ps ∨ ∃ x ∈ ps, y ∈ tosM P k x P.length)) : decide (marksM acc = marksM ps) = closedB P k ps := by
  have h1024 : 2 ^ P.length ≤ 1024 := Nat.le_trans (Nat.pow_le_pow_right (by omega) hP) (by decide)
  rw [Bool.eq_iff_iff, decide_eq_true_eq, marksM_iff, closedB, List.all_eq_true]
  constructor
  · intro hh x hx
    rw [List.all_eq_true]
    intro y hy
    have hy1 := tosM_lt (hps x hx) (Nat.le_refl _) y hy
    exact decide_eq_true ((hh y (by omega)).1 ((h y).2 (.inr ⟨x, hx, hy⟩)))
  · intro hh i hi
    rw [h i]
    refine ⟨fun hc => hc.elim id fun ⟨x, hx, hy⟩ => ?_, .inl⟩
    exact of_decide_eq_true (List.all_eq_true.1 (hh x hx) i hy)
theorem flat93 : (Value.agg (Array.replicate 1024 (.bool false))).cells.all flat0 = true := by
  rw [Array.all_eq_true]
  intro i hi
  have : (Value.agg (Array.replicate 1024 (.bool false))).cells[i] = .bool false := Array.getElem_replicate ..
  rw [this]; rfl
structure MkJ (M : Mem) (c : Nat) (acc : List Nat) (vs : Array Value) (p1 lp x k : Nat) (X : ALoop) (m' : Mem) : Prop where
  low : Low c M m'
  gc : Mem.get m' c = .cells true (cellsM acc)
  w1 : Mem.get m' p1 = .cells true vs
  w2 : Mem.get m' (p1 + 1) = .cells true #[nv x]
  w3 : Mem.get m' (p1 + 2) = .cells true #[nv k]
  lp : Mem.get m' lp = .loop X
theorem MkJ.ext {M : Mem} {c : Nat} {acc : List Nat} {vs : Array Value} {p1 lp x k : Nat} {X : ALoop} {m' m'' : Mem} (h : MkJ M c acc vs p1 lp x k X m') (he : Ext m' m'') : MkJ M c acc vs p1 lp x k X m'' :=
  ⟨h.low.trans_ext he (by have := live h.gc; omega), he.cells h.gc, he.cells h.w1, he.cells h.w2, he.cells h.w3, by rw [he.2 lp (Mem.lt_of_live (by rw [h.lp]; rfl)), h.lp]⟩

theorem okf144 : okF Tryd.prog H0 144 34 = true := by kernel_rfl
theorem spec_asks3 {m : Mem} {vs : Array Value} {a : Int} {s : Value} {N : List (List Nat)} {ps : List Nat} {k : Nat} (hB : BoardAt m (.agg vs) N) (hN : Dag N) (hs : IntsAt m s (ofs ps)) (hl : ps.length < 1000000) (hps : ∀ x ∈ ps, x < 2 ^ N.length) (hk : k < 9223372036854775808) : ∃ v m', ACalls Tryd.prog 144 #[.agg vs, .int .i64 a, nv k, s, .agg (cellsM ps)] m v m' ∧ (v = .bool (closedB (needsM N) k ps) ∧ Ext m m') := by
  obtain ⟨q, cap, rfl⟩ := hs.lenN
  have h10 := hN.ten
  have hp10 : 2 ^ N.length ≤ 2 ^ 10 := Nat.pow_le_pow_right (by omega) h10
  have hpl : (needsM N).length = N.length := needsM_length N
  have hvs : vs.size = 3 := by obtain ⟨_, _, _, _, _, _, h, _⟩ := hB; cases h; rfl
  have he : Ext m ((m.push (.cells true vs)).push (.cells true (cellsM ps))) := (Ext.push _ _).trans (.push _ _)
  refine wpF (args := [_, _, _, _, _]) mixed okf144 (fn := Tryd.f144) rfl rfl rfl (by simp) ?_
  refine cSeq ?_
  refine cRegion ?_
  refine sBox (v := .agg _) rfl ?_
  refine sBoxB (bl := m.size + 1) (v := .agg _) (by simp) rfl ?_
  refine sAs (v := .bool _) rfl ?_
  refine sNil (kSeqN ?_)
  refine cSeq ?_
  refine cRegion ?_
  refine sLdAll A93 S93 rfl (gP (by simp)) (cellsM_size ps) ?_
  refine sAllocB (bl := m.size + 2) (by simp) Z93 flat93 ?_
  refine sStNAB (by simp) S93 rfl rfl (Array.size_replicate) (cellsM_size ps) (cellsM_one ps) ?_
  refine sNil (kSeqN ?_)
  refine cSeq ?_
  refine cSeq ?_
  refine cRegion ?_
  refine sMv (v := .slice _ _ _) rfl ?_
  refine sLen T25 rfl ?_
  refine sMv (v := nv 0) rfl ?_
  refine sNil (kSeqN ?_)
  refine cBlock ?_
  refine wpC_loop (fun k' ρ m' => ∃ i acc, k' = ps.length - i ∧ i ≤ ps.length ∧ (∀ y, y ∈ acc ↔ (y ∈ ps ∨ ∃ x ∈ ps.take i, y ∈ tosM (needsM N) k x N.length)) ∧ Low (m.size + 2) ((m.push (.cells true vs)).push (.cells true (cellsM ps))) m' ∧ Mem.get m' (m.size + 2) = .cells true (cellsM acc) ∧ Has ρ [(2, nv k), (5, .pointer (some ⟨m.size, 0, none⟩)), (9, .pointer (some ⟨m.size + 1, 0, none⟩)), (11, .pointer (some ⟨m.size + 2, 0, none⟩)), (16, .slice q ps.length cap), (17, nv ps.length), (18, nv i)]) ⟨0, ps, rfl, Nat.zero_le _, by simp, .push _ (by simp) _, gP (by simp), rfl, rfl, rfl, rfl, rfl, rfl, rfl, trivial⟩ ?_
  rintro k' ρ m' ⟨i, acc, rfl, hi, hacc, hLo, hc, hh⟩
  rw [hh.env]; clear hh
  have ha : Mem.get m' m.size = .cells true vs := hLo.cells (by omega) (by rw [gPn (by simp), gP rfl])
  have hb : Mem.get m' (m.size + 1) = .cells true (cellsM ps) := hLo.cells (by omega) (gP (by simp))
  have hlc := live hc
  have hE : Ext m m' := Low.to_ext he hLo (by omega)
  refine cSeq ?_
  refine cRegion ?_
  refine sBin rfl rfl (aInt_lss) ?_
  refine sNil (kSeqN ?_)
  refine cSeq ?_   -- seq 5
  refine cCond rfl (fun c0 => ?_) (fun c0 => ?_)
  ·
    obtain ⟨b1, o1, p1, r1, cc, e1, gg, x1⟩ := (hs.ext hE).atN (by omega)
    cases e1
    have hxl := hps ps[i] (List.getElem_mem c0)
    generalize hx : ps[i] = x at *
    refine cSkip (kSeqN ?_)
    refine cSeq ?_
    refine cBlock ?_
    refine cSeq ?_
    refine cRegion ?_
    refine sIx T25 S3 rfl rfl (by omega) ?_
    refine sLd (v := nv x) A3 rfl gg (x1 i x (by rw [← hx]; simp)) ?_
    refine sAs (v := nv _) rfl ?_
    refine sNil (kSeqN ?_)
    refine cSeq ?_
    refine cRegion ?_
    refine sLdAll A79 S79 rfl (by simp (disch := first | omega | (simp only [Array.size_push, Array.size_setIfInBounds]; done) | (simp only [Array.size_push, Array.size_setIfInBounds]; omega)) only [gP, gPn, gS, gSn, ha, hb, hc]; try rfl) hvs ?_
    refine sMv (v := nv _) rfl ?_
    refine sMv (v := nv _) rfl ?_
    obtain ⟨v36, m36, h36, rfl, k36⟩ := spec_ways (m := m') (vs := vs) (x := x) (k := k)
    refine sCall3 rfl call91 rfl rfl rfl h36 ?_
    have hz36 : m36.size = m'.size + 3 := by rw [← k36]; simp
    have e36 : Ext m' m36 := by rw [← k36]; exact ((Ext.push _ _).trans (.push _ _)).trans (.push _ _)
    have w1 : Mem.get m36 m'.size = .cells true vs := by rw [← k36, gPn (by simp; omega), gPn (by simp), gP rfl]
    have w2 : Mem.get m36 (m'.size + 1) = .cells true #[nv x] := by rw [← k36, gPn (by simp), gP (by simp)]
    have w3 : Mem.get m36 (m'.size + 2) = .cells true #[nv k] := by rw [← k36, gP (by simp)]
    clear k36
    refine sNil (kSeqN ?_)
    refine cBlock ?_
    refine cRangeJ (by kernel_rfl) mixed (by kernel_rfl) rfl call102 ?_
    intro R B hround
    rw [hz36]
    rw [hz36] at hround
    have hJ : ∀ n m1 m2, n < N.length → wayB (needsM N) k x n = true → (∃ ac, (∀ y, y ∈ ac ↔ (y ∈ acc ∨ y ∈ tosM (needsM N) k x n)) ∧ MkJ ((m.push (.cells true vs)).push (.cells true (cellsM ps))) (m.size + 2) ac vs m'.size (m'.size + 3) x k R m1) → Ext m1 m2 → ∃ m3, ARound Tryd.prog (m'.size + 3) #[.agg #[nv n, nv (x ^^^ 2 ^ n)]] m2 (.bool true) m3 ∧ ((∀ c, m1.size ≤ c → c < m2.size → Mem.get m3 c = Mem.get m2 c) ∧ Mem.get m3 (m'.size + 2) = Mem.get m2 (m'.size + 2) ∧
        ∃ ac, (∀ y, y ∈ ac ↔ (y ∈ acc ∨ y ∈ tosM (needsM N) k x (n + 1))) ∧ MkJ ((m.push (.cells true vs)).push (.cells true (cellsM ps))) (m.size + 2) ac vs m'.size (m'.size + 3) x k R m3) := by
      rintro n m1 m2 hn hw ⟨ac, hac, hj1⟩ he12
      have hj2 := hj1.ext he12
      refine hround m2 _ _ hj2.lp ?_
      have hlp1 : m'.size + 3 < m1.size := Mem.lt_of_live (by rw [hj1.lp]; rfl)
      have hlp2 : m'.size + 3 < m2.size := Mem.lt_of_live (by rw [hj2.lp]; rfl)
      have h2n : 2 ^ n < 2 ^ 10 := Nat.pow_lt_pow_right (by omega) (by omega)
      have hto : x ^^^ 2 ^ n < 1024 := Nat.xor_lt_two_pow (n := 10) (by omega) h2n
      have b1 := hj2.gc
      have b4 : Mem.get ((m2.push (.cells true #[nv n, nv (x ^^^ 2 ^ n)])).setIfInBounds (m'.size + 3) (.loop B)) m2.size = .cells true #[nv n, nv (x ^^^ 2 ^ n)] := by rw [gSn (by omega), gP rfl]
      refine cRegion ?_
      refine sAlloc Z116 (by kernel_rfl) ?_
      refine sStNA S116 rfl rfl rfl rfl (by kernel_rfl) ?_
      refine sNil ?_
      refine ⟨rfl, by rw [gPn (by omega)]; exact hj2.lp, ?_⟩
      refine cBlock ?_
      refine cRegion ?_
      refine sFA F116_1 rfl ?_
      refine sLd (v := nv (x ^^^ 2 ^ n)) A3 rfl b4 rfl ?_
      refine sIxA (i := x ^^^ 2 ^ n) T93 S4 rfl rfl hto ?_
      refine sSt (v := .bool true) S4 rfl rfl (by rw [gSn (by omega), gPn (by omega)]; exact b1) (by simp; omega) rfl rfl ?_
      rw [cellsM_set, show 0 + (x ^^^ 2 ^ n) * 1 = x ^^^ 2 ^ n by omega]
      refine sNil (kBlkN ?_)
      refine ⟨rfl, ?_, fun c hc1 hc2 => ?_, ?_, (x ^^^ 2 ^ n) :: ac, fun y => ?_, ⟨?_, ?_, ?_, ?_, ?_, gS rfl (by simp only [Array.size_setIfInBounds, Array.size_push]; omega)⟩⟩
      · rw [gSn (by omega)]; refine gS rfl ?_; simp; omega
      · rw [gSn (by omega), gSn (by omega), gSn (by omega), gPn hc2]
      · rw [gSn (by omega), gSn (by omega), gSn (by omega), gPn (by omega)]
      · rw [List.mem_cons, hac y, tosM_succ, if_pos hw, List.mem_append, List.mem_singleton]
        constructor
        · rintro (h | h | h)
          · exact .inr (.inr h)
          · exact .inl h
          · exact .inr (.inl h)
        · rintro (h | h | h)
          · exact .inr (.inl h)
          · exact .inr (.inr h)
          · exact .inl h
      · exact hj2.low.trans ((Low.push _ (by omega) _).trans ((Low.set (by omega) _).trans ((Low.set (Nat.le_refl _) _).trans (.set (by omega) _))))
      · rw [gSn (by omega)]; refine gS rfl ?_; simp; omega
      · rw [gSn (by omega), gSn (by omega), gSn (by omega), gPn (by omega)]; exact hj2.w1
      · rw [gSn (by omega), gSn (by omega), gSn (by omega), gPn (by omega)]; exact hj2.w2
      · rw [gSn (by omega), gSn (by omega), gSn (by omega), gPn (by omega)]; exact hj2.w3
    obtain ⟨v2, m2, h2, hor⟩ := spec_ways1 (m := m36.push (.loop R)) (lp := m'.size + 3) (p1 := m'.size) (p2 := m'.size + 1) (p3 := m'.size + 2) (N := N) (x := x) (k := k)
      (J := fun n m2 => ∃ ac, (∀ y, y ∈ ac ↔ (y ∈ acc ∨ y ∈ tosM (needsM N) k x n)) ∧ MkJ ((m.push (.cells true vs)).push (.cells true (cellsM ps))) (m.size + 2) ac vs m'.size (m'.size + 3) x k R m2) (D := fun _ => False) hN (by omega)
      (fun n m2 ⟨ac, _, h⟩ => ⟨true, true, true, vs, h.w1, hB.ext (Low.to_ext he h.low (by omega)), h.w2, h.w3⟩)
      (fun n m2 m3 ⟨ac, h0, h⟩ hee => ⟨ac, h0, h.ext hee⟩)
      (fun n m2 hn hw ⟨ac, h0, h⟩ => ⟨ac, by rw [tosM_succ, if_neg (by rw [hw]; decide), List.append_nil]; exact h0, h⟩)
      (fun n m1 m2 hn hw h1 hee => by
        obtain ⟨m3, r1, r2, r3, r4⟩ := hJ n m1 m2 hn hw h1 hee
        exact ⟨true, m3, r1, r2, r3, fun _ => r4, fun e => by cases e⟩)
      ⟨acc, by simp [tosM], (hLo.trans_ext e36 (by omega)).trans_ext (.push _ _) (by omega), by rw [gPn (by omega)]; exact e36.cells hc, by rw [gPn (by omega)]; exact w1, by rw [gPn (by omega)]; exact w2, by rw [gPn (by omega)]; exact w3, gP (by omega)⟩
    obtain ⟨ac, hac, hj⟩ := hor.resolve_right id
    refine ⟨v2, m2, h2, hj.lp, (kBlkN (kBlkN (kSeqN ?_)))⟩
    refine cRegion ?_
    refine sBin rfl rfl (aInt_add (b := 1) (by omega)) ?_
    refine sMv (v := nv _) rfl ?_
    refine sNil (kSeqN ?_)
    refine ⟨_, ?_, i + 1, ac, rfl, by omega, fun y => ?_, hj.low.trans (.set (by omega) _), by rw [gSn (by omega)]; exact hj.gc, rfl, rfl, rfl, rfl, rfl, rfl, rfl, trivial⟩
    · omega
    · rw [hac y, hacc y, List.take_succ_eq_append_getElem c0, hx]
      constructor
      · rintro ((h | ⟨z, h, h'⟩) | h)
        · exact .inl h
        · exact .inr ⟨z, List.mem_append_left _ h, h'⟩
        · exact .inr ⟨x, by simp, h⟩
      · rintro (h | ⟨z, h, h'⟩)
        · exact .inl (.inl h)
        · rcases List.mem_append.1 h with h | h
          · exact .inl (.inr ⟨z, h, h'⟩)
          · rw [List.mem_singleton.1 h] at h'; exact .inr h'
  ·
    refine cExit (kSeqE (kSeqE (kBlkS (kSeqN ?_))))
    refine cSeq ?_
    refine cRegion ?_
    refine sLdAll A93 S93 rfl (by simp (disch := first | omega | (simp only [Array.size_push, Array.size_setIfInBounds]; done) | (simp only [Array.size_push, Array.size_setIfInBounds]; omega)) only [gP, gPn, gS, gSn, ha, hb, hc]; try rfl) (cellsM_size acc) ?_
    refine sLdAll A93 S93 rfl (by simp (disch := first | omega | (simp only [Array.size_push, Array.size_setIfInBounds]; done) | (simp only [Array.size_push, Array.size_setIfInBounds]; omega)) only [gP, gPn, gS, gSn, ha, hb, hc]; try rfl) (cellsM_size ps) ?_
    refine sP (v := .bool (decide (marksM acc = marksM ps))) eq93 ?_
    refine sAs (v := .bool _) rfl ?_
    refine sNil (kSeqN ?_)
    refine cRet ?_
    obtain rfl : i = ps.length := by omega
    rw [List.take_length] at hacc
    refine ⟨.inr rfl, _, rfl, ?_, hE⟩
    rw [← marks_closed (P := needsM N) (k := k) (by rw [hpl]; exact h10) (by rw [hpl]; exact hps) (by rw [hpl]; exact hacc)]
    rfl

end Go.AM

/-! ### P17 -/
namespace Go.AM
open Go.Proofs
set_option maxRecDepth 100000
set_option linter.unusedVariables false
set_option linter.unusedSimpArgs false
def askF : Nat → Nat
  | 0 => 140
  | 1 => 143
  | _ => 144
def askR (P : List Nat) (g k : Nat) (ps : List Nat) : Nat → Bool
  | 0 => risingB ps && apartB ps
  | 1 => decide (0 ∈ ps) && !decide (g ∈ ps)
  | _ => closedB P k ps
def GlobP (m : Mem) : Prop := ∃ r, Mem.get m 0 = .cells r #[.func (.func 140) #[] #[], .func (.func 143) #[] #[], .func (.func 144) #[] #[]]
theorem GlobP.ext {m m' : Mem} (h : GlobP m) (he : Ext m m') : GlobP m' := by
  obtain ⟨r, h⟩ := h; exact ⟨r, he.cells h⟩
theorem idx96_0 : aIndex Tryd.prog 96 (.agg #[.func (.func 140) #[] #[], .func (.func 143) #[] #[], .func (.func 144) #[] #[]]) (nv 0) = some (.agg #[.func (.func 140) #[] #[]]) := by kernel_rfl
theorem idx96_1 : aIndex Tryd.prog 96 (.agg #[.func (.func 140) #[] #[], .func (.func 143) #[] #[], .func (.func 144) #[] #[]]) (nv 1) = some (.agg #[.func (.func 143) #[] #[]]) := by kernel_rfl
theorem idx96_2 : aIndex Tryd.prog 96 (.agg #[.func (.func 140) #[] #[], .func (.func 143) #[] #[], .func (.func 144) #[] #[]]) (nv 2) = some (.agg #[.func (.func 144) #[] #[]]) := by kernel_rfl
theorem idx96 {j : Nat} (h : j < 3) : aIndex Tryd.prog 96 (.agg #[.func (.func 140) #[] #[], .func (.func 143) #[] #[], .func (.func 144) #[] #[]]) (nv j) = some (.agg #[.func (.func (askF j)) #[] #[]]) := by
  have : j = 0 ∨ j = 1 ∨ j = 2 := by omega
  rcases this with rfl | rfl | rfl
  · exact idx96_0
  · exact idx96_1
  · exact idx96_2
theorem callA {j : Nat} (h : j < 3) : callable Tryd.prog (askF j) = true := by
  have : j = 0 ∨ j = 1 ∨ j = 2 := by omega
  rcases this with rfl | rfl | rfl
  · exact call140
  · exact call143
  · exact call144
theorem spec_ask {m : Mem} {vs : Array Value} {g k j : Nat} {s : Value} {N : List (List Nat)} {ps : List Nat} (hj : j < 3) (hB : BoardAt m (.agg vs) N) (hN : Dag N) (hs : IntsAt m s (ofs ps)) (hl : ps.length < 1000000) (hps : ∀ x ∈ ps, x < 2 ^ N.length) (hg : g < 1024) (hk : k < 9223372036854775808) :
    ∃ v m', ACalls Tryd.prog (askF j) #[.agg vs, nv g, nv k, s, .agg (cellsM ps)] m v m' ∧ (v = .bool (askR (needsM N) g k ps j) ∧ Ext m m') := by
  have : j = 0 ∨ j = 1 ∨ j = 2 := by omega
  rcases this with rfl | rfl | rfl
  · exact spec_asks1 hs hl
  · exact spec_asks2 hg
  · exact spec_asks3 hB hN hs hl hps hk
theorem showsB_asks {P : List Nat} {g k : Nat} {ps : List Nat} : showsB P g k ps = (askR P g k ps 0 && askR P g k ps 1 && askR P g k ps 2) := by
  simp only [showsB, askR]
theorem A94 : isAggT Tryd.prog 94 = some false := by kernel_rfl
theorem Z95f : (Value.agg #[Value.nilFunc]).cells.all flat0 = true := by kernel_rfl

def H27 : Nat → List (Nat × Nat) := fun id => if id = 15 then [(1,5),(2,5),(7,0)] else []
theorem okf27 : okF Tryd.prog H27 27 63 = true := by kernel_rfl
theorem spec_Shows {m : Mem} {s a b : Value} {G : List (List Int)} {gs ps : List Int} {k : Int} (hGl : GlobP m) (hG : RowsAt m s G) (ha : IntsAt m a gs) (hl : gs.length < 1000000) (hb : IntsAt m b ps) (hlp : ps.length < 1000000) : ∃ v m', ACalls Tryd.prog 27 #[.agg #[s], a, .int .i64 k, b] m v m' ∧ (v = .tuple #[.bool (showsG G gs k ps), nv (showsE G gs k ps)] ∧ Ext m m') := by
  obtain ⟨q, cap, rfl⟩ := hG.len
  obtain ⟨qg, cg, rfl⟩ := ha.len
  obtain ⟨qp, cp, rfl⟩ := hb.len
  have hne : ∀ e, showsE G gs k ps = e → e ≠ 0 → showsG G gs k ps = false := fun e h1 h2 => by rw [showsG, h1, decide_eq_false h2]; rfl
  refine wpF (args := [_, _, _, _]) mixed okf27 (fn := Tryd.f27) rfl rfl rfl (by simp) ?_
  refine cSeq ?_
  refine cRegion ?_
  refine sBox (v := .agg _) rfl ?_
  refine sAs (v := .bool _) rfl ?_
  refine sAs (v := nv 0) rfl ?_
  refine sNil (kSeqN ?_)
  refine cSeq ?_
  refine cRegion ?_
  refine sLdAll A24 S24 rfl (by simp (disch := first | omega | (simp only [Array.size_push, Array.size_setIfInBounds]; done) | (simp only [Array.size_push, Array.size_setIfInBounds]; omega)) only [gP, gPn, gS, gSn]; try rfl) rfl ?_
  refine sMv (v := .slice _ _ _) rfl ?_
  obtain ⟨v11, m11, h11, vs, rfl, hv1, hv2, hv3, k11⟩ := spec_with (hG.ext (.push _ (.cells true #[.slice q G.length cap]))) (ha.ext (.push _ _)) (by omega)
  have e11 := (Ext.push m (.cells true #[.slice q G.length cap])).trans k11
  refine sCall2 rfl call62 rfl rfl h11 ?_
  refine sMv (v := .tuple _) rfl ?_
  refine sP (v := .agg _) rfl ?_   -- extract ['t17', '0']
  refine sP (v := nv _) rfl ?_   -- extract ['t17', '1']
  refine sAllocB (bl := m11.size) rfl Z79 (by kernel_rfl) ?_
  refine sStNAB rfl S79 rfl rfl rfl hv1 hv2 ?_
  refine sAs (v := nv _) rfl ?_
  refine sNil (kSeqN ?_)
  refine cSeq ?_
  refine cBlock ?_
  refine cSeq ?_
  refine cRegion ?_
  refine sMv (v := nv _) rfl ?_
  refine sBin (a := withE G gs) rfl rfl (aInt_neq (b := 0)) ?_
  refine sAs (v := .bool _) rfl ?_
  refine sNil (kSeqN ?_)
  refine cCond rfl (fun c0 => ?_) (fun c0 => ?_)
  ·
    refine cSeq ?_
    refine cRegion ?_
    refine sMv (v := nv _) rfl ?_
    refine sAs (v := .bool _) rfl ?_
    refine sAs (v := nv _) rfl ?_
    refine sNil (kSeqN ?_)
    refine cRet (kBlkR (kSeqR ?_))
    have hr : showsE G gs k ps = withE G gs := by rw [showsE, if_neg c0]
    exact ⟨.inr rfl, _, rfl, by rw [hne _ hr c0, hr]; rfl, e11.trans (.push _ _)⟩
  ·
    have h0 := Decidable.not_not.1 c0
    have hr0 : showsE G gs k ps = if (k < 0 ∨ 10 < k) ∨ ps.any (fun x => decide (x < 0 ∨ Int.ofNat (2 ^ G.length - 1) < x)) = true then 3 else 0 := by rw [showsE, if_pos h0]
    obtain ⟨N, g, rfl, hN, rfl, hg⟩ := withE_nat h0
    have hE := e11.trans (.push m11 (.cells true vs))
    have hBO := hv3 h0 N rfl
    have hB := hBO.at ((hG.ext e11))
    obtain ⟨q2, n2, c2, rfl, hO2⟩ := hBO
    have h10 := hN.ten
    have hp10 : 2 ^ N.length ≤ 2 ^ 10 := Nat.pow_le_pow_right (by omega) h10
    have hp1 := Nat.two_pow_pos N.length
    rw [ofs_length] at hl
    rw [ofs2_length] at hr0
    refine cSeq ?_
    refine cRegion ?_
    refine sMv (v := .int _ _) rfl ?_
    refine sBinI (v := .bool (decide (k < 0))) rfl rfl rfl ?_
    refine sMv (v := .bool _) rfl ?_
    by_cases h1 : k < 0
    ·
      rw [decide_eq_true h1]
      refine sGno (q' := true) rfl rfl (by simp) ?_
      refine sGno (q' := true) rfl rfl (by simp) ?_
      refine sP (v := .bool _) rfl ?_   -- t33 pick ['t30', '(bool true)', 't32']
      refine sMv (v := .bool _) rfl ?_
      refine sGno (q' := true) rfl rfl (by simp) ?_
      refine sGno (q' := true) rfl rfl (by simp) ?_
      refine sGno (q' := true) rfl rfl (by simp) ?_
      refine sP (v := .bool _) rfl ?_   -- t38 pick ['t34', '(bool true)', 't37']
      refine sAs (v := .bool _) rfl ?_
      refine sNil (kSeqN ?_)
      refine cCondT rfl ?_
      refine cSeq ?_
      refine cRegion ?_
      refine sAs (v := .bool _) rfl ?_
      refine sAs (v := nv 3) rfl ?_
      refine sNil (kSeqN ?_)
      refine cRet (kBlkR (kSeqR ?_))
      have hr : showsE (ofs2 N) (ofs g) k ps = 3 := by rw [hr0, if_pos (.inl (.inl h1))]
      exact ⟨.inr rfl, _, rfl, by rw [hne _ hr (by decide), hr]; rfl, hE⟩
    ·
      rw [decide_eq_false h1]
      refine sG rfl rfl ?_
      refine sMv (v := .int _ _) rfl ?_
      refine sG rfl rfl ?_
      refine sBinI (v := .bool (decide (k > 10))) rfl rfl rfl ?_
      refine sP (v := .bool _) rfl ?_   -- t33 pick ['t30', '(bool true)', 't32']
      refine sMv (v := .bool _) rfl ?_
      by_cases h2 : k > 10
      ·
        rw [decide_eq_true h2]
        refine sGno (q' := true) rfl rfl (by simp) ?_
        refine sGno (q' := true) rfl rfl (by simp) ?_
        refine sGno (q' := true) rfl rfl (by simp) ?_
        refine sP (v := .bool _) rfl ?_   -- t38 pick ['t34', '(bool true)', 't37']
        refine sAs (v := .bool _) rfl ?_
        refine sNil (kSeqN ?_)
        refine cCondT rfl ?_
        refine cSeq ?_
        refine cRegion ?_
        refine sAs (v := .bool _) rfl ?_
        refine sAs (v := nv 3) rfl ?_
        refine sNil (kSeqN ?_)
        refine cRet (kBlkR (kSeqR ?_))
        have hr : showsE (ofs2 N) (ofs g) k ps = 3 := by rw [hr0, if_pos (.inl (.inr h2))]
        exact ⟨.inr rfl, _, rfl, by rw [hne _ hr (by decide), hr]; rfl, hE⟩
      ·
        rw [decide_eq_false h2]
        refine sG rfl rfl ?_
        refine sMv (v := .slice _ _ _) rfl ?_
        refine sG rfl rfl ?_
        refine sMFc1 rfl ?_
        refine sG rfl rfl ?_
        refine sCall2 (v := .bool (ps.any fun x => decide (x < 0 ∨ Int.ofNat (2 ^ N.length - 1) < x))) rfl call68 rfl rfl (spec_ContainsFunc (hb.ext hE) (by omega) call69 fun x _ => spec_Shows1 (gP rfl)) ?_
        refine sP (v := .bool _) rfl ?_   -- t38 pick ['t34', '(bool true)', 't37']
        refine sAs (v := .bool _) rfl ?_
        refine sNil (kSeqN ?_)
        refine cCond (p := (ps.any fun x => decide (x < 0 ∨ Int.ofNat (2 ^ N.length - 1) < x)) = true) (by show Value.bool _ = Value.bool _; rw [Bool.decide_eq_true]) (fun c3 => ?_) (fun c3 => ?_)
        ·
          refine cSeq ?_
          refine cRegion ?_
          refine sAs (v := .bool _) rfl ?_
          refine sAs (v := nv 3) rfl ?_
          refine sNil (kSeqN ?_)
          refine cRet (kBlkR (kSeqR ?_))
          have hr : showsE (ofs2 N) (ofs g) k ps = 3 := by rw [hr0, if_pos (.inr c3)]
          exact ⟨.inr rfl, _, rfl, by rw [hne _ hr (by decide), hr]; rfl, hE⟩
        ·
          have hr : showsE (ofs2 N) (ofs g) k ps = 0 := by rw [hr0, if_neg (fun h => h.elim (fun h => by omega) c3)]
          obtain ⟨r, rfl, hrl⟩ := range_nat c3
          obtain ⟨K, rfl⟩ : ∃ K : Nat, k = Int.ofNat K := ⟨k.toNat, by simp; omega⟩
          have hK : K ≤ 10 := by simp at h2; omega
          have hsg : showsG (ofs2 N) (ofs g) (Int.ofNat K) (ofs r) = showsB (needsM N) (posM g) K r := by
            rw [showsG, hr, natsG_ofs2, nats_ofs, nats_ofs]; rfl
          rw [hsg, hr]
          clear hr hr0 hne hsg c3
          rw [ofs_length] at hlp
          have hrb : ∀ x ∈ r, x < 2 ^ N.length := fun x hx => by have := hrl x hx; omega
          refine cSkip (kBlkN (kSeqN ?_))
          refine cSeq ?_
          refine cRegion ?_
          refine sAllocB (bl := m11.size + 1) (by simp) Z93 flat93 ?_
          rw [show (Value.agg (Array.replicate 1024 (.bool false))).cells = cellsM [] from cellsM_nil.symm]
          refine sNil (kSeqN ?_)
          refine cSeq ?_
          refine cSeq ?_
          refine cRegion ?_
          refine sMv (v := .slice _ _ _) rfl ?_
          refine sLen T25 rfl ?_
          refine sMv (v := nv 0) rfl ?_
          refine sNil (kSeqN ?_)
          refine cBlock ?_
          refine wpC_loop (fun k' ρ m' => ∃ i acc, k' = r.length - i ∧ i ≤ r.length ∧ (∀ y, y ∈ acc ↔ y ∈ r.take i) ∧ Low (m11.size + 1) (m11.push (.cells true #[.slice q (ofs2 N).length cap, .slice q2 n2 c2, nv (2 ^ N.length - 1)])) m' ∧ Mem.get m' (m11.size + 1) = .cells true (cellsM acc) ∧ Has ρ [(1, .slice qg (ofs g).length cg), (2, nv K), (3, .slice qp (ofs r).length cp), (10, .pointer (some ⟨m11.size, 0, none⟩)), (12, .pointer (some ⟨m11.size + 1, 0, none⟩)), (39, .slice qp (ofs r).length cp), (40, nv r.length), (41, nv i)]) ⟨0, [], rfl, Nat.zero_le _, by simp, .push _ (by simp) _, gP (by simp), rfl, rfl, rfl, rfl, rfl, rfl, by rw [← ofs_length r]; rfl, rfl, trivial⟩ ?_
          rintro k' ρ m' ⟨i, acc, rfl, hi, hacc, hLo, hc, hh⟩
          rw [hh.env]; clear hh
          have hlc := live hc
          have hEE : Ext m m' := Low.to_ext hE hLo (by have := e11.1; omega)
          refine cSeq ?_
          refine cRegion ?_
          refine sBin rfl rfl (aInt_lss) ?_
          refine sNil (kSeqN ?_)
          refine cSeq ?_   -- seq 13
          refine cCond rfl (fun c4 => ?_) (fun c4 => ?_)
          ·
            obtain ⟨b1, o1, p1, r1, cc, e1, gg, x1⟩ := (hb.ext hEE).at (by rw [ofs_length]; omega)
            cases e1
            have hx := hrb r[i] (List.getElem_mem c4)
            refine cSkip (kSeqN ?_)
            refine cSeq ?_
            refine cBlock ?_
            refine cSeq ?_
            refine cRegion ?_
            refine sIx T25 S3 rfl rfl (by rw [ofs_length]; exact c4) ?_
            refine sLd (v := nv r[i]) A3 rfl gg (x1 i (Int.ofNat r[i]) (ofs_get (by simp))) ?_
            refine sAs (v := nv _) rfl ?_
            refine sNil (kSeqN ?_)
            refine cRegion ?_
            refine sMv (v := nv _) rfl ?_
            refine sIxA (i := r[i]) T93 S4 rfl rfl (by omega) ?_
            refine sSt (v := .bool true) S4 rfl rfl hc (by simp; omega) rfl rfl ?_
            rw [cellsM_set, show 0 + r[i] * 1 = r[i] by omega]
            refine sNil (kBlkN (kSeqN ?_))
            refine cRegion ?_
            refine sBin rfl rfl (aInt_add (b := 1) (by omega)) ?_
            refine sMv (v := nv _) rfl ?_
            refine sNil (kSeqN ?_)
            refine ⟨_, ?_, i + 1, r[i] :: acc, rfl, by omega, fun y => ?_, hLo.trans (.set (Nat.le_refl _) _), gS rfl hlc, rfl, rfl, rfl, rfl, rfl, rfl, rfl, rfl, trivial⟩
            · omega
            · rw [List.mem_cons, hacc y, List.take_succ_eq_append_getElem c4, List.mem_append, List.mem_singleton]
              exact ⟨fun h => h.symm, fun h => h.symm⟩
          ·
            obtain rfl : i = r.length := by omega
            rw [List.take_length] at hacc
            rw [cellsM_congr hacc] at hc
            clear hacc acc
            refine cExit (kSeqE (kSeqE (kBlkS (kSeqN ?_))))
            refine cSeq ?_
            refine cSeq ?_
            refine cRegion ?_
            obtain ⟨rg, hgl⟩ := hGl.ext hEE
            refine sLdAll A96 S96 rfl hgl rfl ?_
            refine sMv (v := nv 0) rfl ?_
            refine sNil (kSeqN ?_)
            refine cBlock ?_
            refine wpC_loop (fun k' ρ m2 => ∃ j, k' = 3 - j ∧ j ≤ 3 ∧ (∀ i, i < j → askR (needsM N) (posM g) K r i = true) ∧ Ext m' m2 ∧ Has ρ [(1, .slice qg (ofs g).length cg), (2, nv K), (3, .slice qp (ofs r).length cp), (10, .pointer (some ⟨m11.size, 0, none⟩)), (12, .pointer (some ⟨m11.size + 1, 0, none⟩)), (48, .agg #[.func (.func 140) #[] #[], .func (.func 143) #[] #[], .func (.func 144) #[] #[]]), (49, nv j)]) ⟨0, rfl, Nat.zero_le _, by omega, .refl _, rfl, rfl, rfl, rfl, rfl, rfl, rfl, trivial⟩ ?_
            rintro k' ρ m2 ⟨j, rfl, hj, hall, he2, hh⟩
            rw [hh.env]; clear hh
            have hc2 := he2.cells hc
            have hb2 : Mem.get m2 m11.size = .cells true #[.slice q (ofs2 N).length cap, .slice q2 n2 c2, nv (2 ^ N.length - 1)] := he2.cells (hLo.cells (by omega) (gP rfl))
            have hE2 := hEE.trans he2
            refine cSeq ?_
            refine cRegion ?_
            refine sBin (b := 3) rfl rfl aInt_lss ?_
            refine sNil (kSeqN ?_)
            refine cSeq ?_   -- seq 19
            refine cCond rfl (fun c5 => ?_) (fun c5 => ?_)
            ·
              refine cSkip (kSeqN ?_)
              refine cSeq ?_
              refine cBlock ?_
              refine cSeq ?_
              refine cRegion ?_
              refine sP (v := .agg #[.func (.func (askF j)) #[] #[]]) (idx96 c5) ?_
              refine sAlloc Z95 Z95f ?_
              refine sStNA S95 rfl rfl rfl rfl (by simp [Value.oneCell']) ?_
              refine sNil (kSeqN ?_)
              refine cSeq ?_
              refine cDrawH (hs := [(1,5),(2,5),(7,0)]) rfl (by decide) ?_
              refine lStepO (sFA F95_0 rfl (sNil fun e0 hm0 => ?_))
              refine lStepLd (v := .func _ _ _) A94 rfl (gP rfl) rfl fun e1 hm1 hv1 hr1 => ?_
              refine lStepLdA A79 S79 rfl ((gPn (live hb2)).trans hb2) rfl fun e2 hm2 hv2 hr2 => ?_
              refine lStepO (sMv (v := .slice _ _ _) rfl (sNil fun e3 hm3 => ?_))
              refine lStepO (sCall1 rfl call70 rfl (spec_position ((ha.ext hE2).ext (.push _ _)) hl fun x hx => by have := hg.lt x hx; omega) (sNil fun e4 hm4 => ?_))
              refine lStepO (sMv (v := nv _) rfl (sNil fun e5 hm5 => ?_))
              refine lStepO (sMv (v := .slice _ _ _) rfl (sNil fun e6 hm6 => ?_))
              refine lStepLdA A93 S93 rfl ((gPn (live hc2)).trans hc2) (cellsM_size r) fun e7 hm7 hv7 hr7 => ?_
              obtain ⟨v60, m60, h60, rfl, e60⟩ := spec_ask (m := m2.push (.cells true #[.func (.func (askF j)) #[] #[]])) (g := posM g) (k := K) c5 ((hB.ext (.push _ _)).ext (((hLo.to_ext (.refl _) (by simp)).trans he2).trans (.push _ _))) hN ((hb.ext hE2).ext (.push _ _)) hlp hrb (Nat.lt_of_lt_of_le (posM_lt hg.lt) hp10) (by omega)
              refine lStepO (sCall (v := .bool _) rfl (callA c5) (by simpa [evR, updO] using h60) (sNil fun e8 hm8 => ?_))
              refine lStepO (sP (v := .bool (!askR (needsM N) (posM g) K r j)) rfl (sNil fun e9 hm9 => ?_))
              refine ⟨?_, (kSeqN ?_)⟩
              ·
                refine obl_atE (e := e1) (e' := e5) (by simp) (by rfl) (by simp) ((hr1 e5.m _ _ (by rw [hm5]; exact gP rfl) (by rfl)).trans (congrArg some hv1.symm)) ?_
                refine obl_atE (e := e2) (e' := e5) (by simp) (by rfl) (by simp) ((hr2 e5.m _ (by rw [hm5]; exact (gPn (live hb2)).trans hb2)).trans (congrArg some hv2.symm)) ?_
                refine obl_atE (e := e7) (e' := e0) (by simp) (by rfl) (by simp) ((hr7 e0.m _ (by rw [hm0]; exact (gPn (live hc2)).trans hc2)).trans (congrArg some hv7.symm)) ?_
                trivial
              refine cCond (p := askR (needsM N) (posM g) K r j = false) (by show Value.bool _ = Value.bool _; cases askR (needsM N) (posM g) K r j <;> rfl) (fun c6 => ?_) (fun c6 => ?_)
              ·
                refine cSeq ?_
                refine cRegion ?_
                refine sAs (v := .bool _) rfl ?_
                refine sAs (v := nv 0) rfl ?_
                refine sNil (kSeqN ?_)
                refine cRet (kBlkR (kSeqR (kSeqR (kBlkR (kSeqR ?_)))))
                have hf : showsB (needsM N) (posM g) K r = false := by
                  rw [showsB_asks]
                  have : j = 0 ∨ j = 1 ∨ j = 2 := by omega
                  rcases this with rfl | rfl | rfl
                  · rw [c6]; rfl
                  · rw [c6]; simp
                  · rw [c6]; simp
                exact ⟨.inr rfl, _, rfl, by rw [hf]; rfl, hE2.trans ((Ext.push _ _).trans e60)⟩
              ·
                refine cSkip (kBlkN (kSeqN ?_))
                refine cRegion ?_
                refine sBin rfl rfl (aInt_add (b := 1) (by omega)) ?_
                refine sMv (v := nv _) rfl ?_
                refine sNil (kSeqN ?_)
                refine ⟨_, ?_, j + 1, rfl, by omega, fun i hi => ?_, he2.trans ((Ext.push _ _).trans e60), rfl, rfl, rfl, rfl, rfl, rfl, rfl, trivial⟩
                · omega
                · by_cases h : i = j
                  · subst h; simpa using c6
                  · exact hall i (by omega)
            ·
              refine cExit (kSeqE (kSeqE (kBlkS (kSeqN ?_))))
              refine cSeq ?_
              refine cRegion ?_
              refine sAs (v := .bool _) rfl ?_
              refine sAs (v := nv 0) rfl ?_
              refine sNil (kSeqN ?_)
              refine cRet ?_
              have ht : showsB (needsM N) (posM g) K r = true := by
                rw [showsB_asks, hall 0 (by omega), hall 1 (by omega), hall 2 (by omega)]; rfl
              exact ⟨.inr rfl, _, rfl, by rw [ht]; rfl, hE2⟩

end Go.AM

/-! ### P18 -/
namespace Go.AM
open Go.Proofs
set_option maxRecDepth 100000
set_option linter.unusedVariables false
set_option linter.unusedSimpArgs false

theorem okf93 : okF Tryd.prog H0 93 8 = true := by kernel_rfl
theorem spec_SameRow {m : Mem} {a b : Value} {l r : List Int} (ha : IntsAt m a l) (hb : IntsAt m b r) (hl : l.length < 4611686018427387904) : ACalls Tryd.prog 93 #[a, b] m (.bool (decide (l = r))) m := by
  suffices h : ∃ v m', ACalls Tryd.prog 93 #[a, b] m v m' ∧ (v = .bool (decide (l = r)) ∧ m' = m) by
    obtain ⟨v, m', h, rfl, rfl⟩ := h; exact h
  have h22 := spec_Equal ha hb hl
  obtain ⟨q, cap, rfl⟩ := ha.len
  obtain ⟨q2, cap2, rfl⟩ := hb.len
  refine wpF (args := [_, _]) mixed okf93 (fn := Tryd.f93) rfl rfl rfl (by simp) ?_
  refine cSeq ?_
  refine cRegion ?_
  refine sAs (v := .bool _) rfl ?_
  refine sNil (kSeqN ?_)
  refine cSeq ?_
  refine cRegion ?_
  refine sMv (v := .slice _ _ _) rfl ?_
  refine sMv (v := .slice _ _ _) rfl ?_
  refine sCall2 rfl call22 rfl rfl h22 ?_
  refine sAs (v := .bool _) rfl ?_
  refine sNil (kSeqN ?_)
  refine cRet ?_
  exact ⟨.inr rfl, _, rfl, rfl, rfl⟩

theorem okf92 : okF Tryd.prog H0 92 32 = true := by kernel_rfl
theorem spec_EqualRows {m : Mem} {a b : Value} {G H : List (List Int)} (ha : RowsAt m a G) (hb : RowsAt m b H) (hG : G.length < 4611686018427387904) (hl : ∀ g ∈ G, g.length < 4611686018427387904) : ACalls Tryd.prog 92 #[a, b, .func (.func 93) #[] #[]] m (.bool (decide (G = H))) m := by
  suffices h : ∃ v m', ACalls Tryd.prog 92 #[a, b, .func (.func 93) #[] #[]] m v m' ∧ (v = .bool (decide (G = H)) ∧ m' = m) by
    obtain ⟨v, m', h, rfl, rfl⟩ := h; exact h
  obtain ⟨q, cap, rfl⟩ := ha.len
  obtain ⟨q2, cap2, rfl⟩ := hb.len
  refine wpF (args := [_, _, _]) mixed okf92 (fn := Tryd.f92) rfl rfl rfl (by simp) ?_
  refine cSeq ?_
  refine cRegion ?_
  refine sAs (v := .bool _) rfl ?_
  refine sNil (kSeqN ?_)
  refine cSeq ?_   -- seq 1
  refine cSeq ?_
  refine cRegion ?_
  refine sMv (v := .slice _ _ _) rfl ?_
  refine sLen T22 rfl ?_
  refine sMv (v := .slice _ _ _) rfl ?_
  refine sLen T22 rfl ?_
  refine sBin (a := G.length) (b := H.length) rfl rfl aInt_neq ?_
  refine sNil (kSeqN ?_)
  refine cCond rfl (fun c0 => ?_) (fun c0 => ?_)
  ·
    refine cSeq ?_
    refine cRegion ?_
    refine sAs (v := .bool _) rfl ?_
    refine sNil (kSeqN ?_)
    refine cRet (kSeqR ?_)
    have hGH : ¬ (G = H) := fun e => c0 (by rw [e])
    exact ⟨.inr rfl, _, rfl, by rw [decide_eq_false hGH]; rfl, rfl⟩
  ·
    have hlen : G.length = H.length := Decidable.not_not.1 c0
    refine cSkip (kSeqN ?_)
    refine cSeq ?_
    refine cSeq ?_
    refine cRegion ?_
    refine sMv (v := .slice _ _ _) rfl ?_
    refine sLen T22 rfl ?_
    refine sMv (v := nv 0) rfl ?_
    refine sNil (kSeqN ?_)
    refine cBlock ?_
    refine wpC_loop (fun k ρ m' => ∃ i, k = G.length - i ∧ i ≤ G.length ∧ m = m' ∧ (∀ j, j < i → G[j]? = H[j]?) ∧ Has ρ [(0, .slice q G.length cap), (1, .slice q2 H.length cap2), (2, .func (.func 93) #[] #[]), (15, .slice q G.length cap), (16, nv G.length), (17, nv i)]) ⟨0, rfl, by omega, rfl, by omega, rfl, rfl, rfl, rfl, rfl, rfl, trivial⟩ ?_
    rintro k ρ _ ⟨i, rfl, hi, rfl, hj, hh⟩
    rw [hh.env]; clear hh
    refine cSeq ?_
    refine cRegion ?_
    refine sBin rfl rfl (aInt_lss) ?_
    refine sNil (kSeqN ?_)
    refine cSeq ?_   -- seq 7
    refine cCond rfl (fun c1 => ?_) (fun c1 => ?_)
    ·
      obtain ⟨b1, o1, p1, r1, cc1, e1, g1, x1⟩ := ha.at (by omega)
      obtain ⟨b2, o2, p2, r2, cc2, e2, g2, x2⟩ := hb.at (by omega)
      cases e1
      cases e2
      have hiH : i < H.length := by omega
      obtain ⟨s1, hs1, hi1⟩ := x1 i G[i] (by simp)
      obtain ⟨s2, hs2, hi2⟩ := x2 i H[i] (by simp)
      have h29 := spec_SameRow hi1 hi2 (hl _ (List.getElem_mem c1))
      obtain ⟨qa, ca, rfl⟩ := hi1.len
      obtain ⟨qb, cb, rfl⟩ := hi2.len
      refine cSkip (kSeqN ?_)
      refine cSeq ?_
      refine cBlock ?_
      refine cSeq ?_
      refine cRegion ?_
      refine sMv (v := nv _) rfl ?_
      refine sIx T22 S25 rfl rfl (by omega) ?_
      refine sLd (v := .slice _ _ _) A25 rfl g1 hs1 ?_
      refine sAs (v := nv _) rfl ?_
      refine sAs (v := .slice _ _ _) rfl ?_
      refine sNil (kSeqN ?_)
      refine cSeq ?_
      refine cRegion ?_
      refine sMv (v := .slice _ _ _) rfl ?_
      refine sMv (v := nv _) rfl ?_
      refine sIx T22 S25 rfl rfl (by omega) ?_
      refine sLd (v := .slice _ _ _) A25 rfl g2 hs2 ?_
      refine sAs (v := .slice _ _ _) rfl ?_
      refine sNil (kSeqN ?_)
      refine cSeq ?_
      refine cRegion ?_
      refine sMv (v := .func _ _ _) rfl ?_
      refine sMv (v := .slice _ _ _) rfl ?_
      refine sMv (v := .slice _ _ _) rfl ?_
      refine sCall2 rfl call93 rfl rfl h29 ?_
      refine sP (v := .bool (!decide (G[i] = H[i]))) rfl ?_
      refine sNil (kSeqN ?_)
      refine cCond (p := G[i] ≠ H[i]) (by show Value.bool _ = Value.bool _; rw [← decide_not]) (fun c2 => ?_) (fun c2 => ?_)
      ·
        refine cSeq ?_
        refine cRegion ?_
        refine sAs (v := .bool _) rfl ?_
        refine sNil (kSeqN ?_)
        refine cRet (kBlkR (kSeqR (kSeqR (kBlkR (kSeqR ?_)))))
        refine ⟨.inr rfl, _, rfl, ?_, rfl⟩
        have : G ≠ H := fun e => c2 (by subst e; rfl)
        rw [decide_eq_false this]; rfl
      ·
        refine cSkip (kBlkN (kSeqN ?_))
        refine cRegion ?_
        refine sBin rfl rfl (aInt_add (b := 1) (by omega)) ?_
        refine sMv (v := nv _) rfl ?_
        refine sNil (kSeqN ?_)
        refine ⟨_, ?_, i + 1, rfl, by omega, rfl, fun j hji => ?_, rfl, rfl, rfl, rfl, rfl, rfl, trivial⟩
        · omega
        · by_cases h : j < i
          · exact hj j h
          · obtain rfl : j = i := by omega
            rw [List.getElem?_eq_getElem c1, List.getElem?_eq_getElem hiH, Decidable.not_not.1 c2]
    ·
      refine cExit (kSeqE (kSeqE (kBlkS (kSeqN ?_))))
      refine cSeq ?_
      refine cRegion ?_
      refine sAs (v := .bool _) rfl ?_
      refine sNil (kSeqN ?_)
      refine cRet ?_
      obtain rfl : i = G.length := by omega
      have he : G = H := by
        apply List.ext_getElem? fun j => ?_
        by_cases h : j < G.length
        · exact hj j h
        · rw [List.getElem?_eq_none (by omega), List.getElem?_eq_none (by omega)]
      exact ⟨.inr rfl, _, rfl, by rw [decide_eq_true he]; rfl, rfl⟩

theorem okf65 : okF Tryd.prog H0 65 8 = true := by kernel_rfl
theorem spec_SameRows {m : Mem} {a b : Value} {G H : List (List Int)} (ha : RowsAt m a G) (hb : RowsAt m b H) (hG : G.length < 4611686018427387904) (hl : ∀ g ∈ G, g.length < 4611686018427387904) : ACalls Tryd.prog 65 #[a, b] m (.bool (decide (G = H))) m := by
  suffices h : ∃ v m', ACalls Tryd.prog 65 #[a, b] m v m' ∧ (v = .bool (decide (G = H)) ∧ m' = m) by
    obtain ⟨v, m', h, rfl, rfl⟩ := h; exact h
  have h92 := spec_EqualRows ha hb hG hl
  obtain ⟨q, cap, rfl⟩ := ha.len
  obtain ⟨q2, cap2, rfl⟩ := hb.len
  refine wpF (args := [_, _]) mixed okf65 (fn := Tryd.f65) rfl rfl rfl (by simp) ?_
  refine cSeq ?_
  refine cRegion ?_
  refine sAs (v := .bool _) rfl ?_
  refine sNil (kSeqN ?_)
  refine cSeq ?_
  refine cRegion ?_
  refine sMv (v := .slice _ _ _) rfl ?_
  refine sMv (v := .slice _ _ _) rfl ?_
  refine sCall3 rfl call92 rfl rfl rfl h92 ?_
  refine sAs (v := .bool _) rfl ?_
  refine sNil (kSeqN ?_)
  refine cRet ?_
  exact ⟨.inr rfl, _, rfl, rfl, rfl⟩

theorem okf24 : okF Tryd.prog H0 24 10 = true := by kernel_rfl
theorem spec_same {m : Mem} {a b : Value} {G H : List (List Int)} (ha : RowsAt m a G) (hb : RowsAt m b H) (hG : G.length < 4611686018427387904) (hl : ∀ g ∈ G, g.length < 4611686018427387904) : ∃ v m', ACalls Tryd.prog 24 #[.agg #[a], .agg #[b]] m v m' ∧ (v = .bool (decide (G = H)) ∧ Ext m m') := by
  have h65 := spec_SameRows (m := (m.push (.cells true #[a])).push (.cells true #[b])) ((ha.ext (.push _ _)).ext (.push _ _)) ((hb.ext (.push _ _)).ext (.push _ _)) hG hl
  obtain ⟨q, cap, rfl⟩ := ha.len
  obtain ⟨q2, cap2, rfl⟩ := hb.len
  refine wpF (args := [_, _]) mixed okf24 (fn := Tryd.f24) rfl rfl rfl (by simp) ?_
  refine cSeq ?_
  refine cRegion ?_
  refine sBox (v := .agg _) rfl ?_
  refine sBox (v := .agg _) rfl ?_
  refine sAs (v := .bool _) rfl ?_
  refine sNil (kSeqN ?_)
  refine cSeq ?_
  refine cRegion ?_
  refine sFA F24_0 rfl ?_
  refine sLd A22 rfl (by simp (disch := first | omega | (simp only [Array.size_push, Array.size_setIfInBounds]; done) | (simp only [Array.size_push, Array.size_setIfInBounds]; omega)) only [gP, gPn, gS, gSn]; try rfl) rfl ?_
  refine sFA F24_0 rfl ?_
  refine sLd A22 rfl (by simp (disch := first | omega | (simp only [Array.size_push, Array.size_setIfInBounds]; done) | (simp only [Array.size_push, Array.size_setIfInBounds]; omega)) only [gP, gPn, gS, gSn]; try rfl) rfl ?_
  refine sCall2 rfl call65 rfl rfl h65 ?_
  refine sAs (v := .bool _) rfl ?_
  refine sNil (kSeqN ?_)
  refine cRet ?_
  exact ⟨.inr rfl, _, rfl, rfl, (Ext.push _ _).trans (.push _ _)⟩

theorem okf59 : okF Tryd.prog H0 59 14 = true := by kernel_rfl
theorem spec_known {m : Mem} {a b : Value} {l r : List Int} {e : Nat} (ha : IntsAt m a l) (hb : IntsAt m b r) (hl : l.length < 4611686018427387904) : ∃ v m', ACalls Tryd.prog 59 #[a, nv e, b] m v m' ∧ (v = .bool (decide (e = 0) && decide (l = r)) ∧ m' = m) := by
  have h22 := spec_Equal ha hb hl
  obtain ⟨q, cap, rfl⟩ := ha.len
  obtain ⟨q2, cap2, rfl⟩ := hb.len
  refine wpF (args := [_, _, _]) mixed okf59 (fn := Tryd.f59) rfl rfl rfl (by simp) ?_
  refine cSeq ?_
  refine cRegion ?_
  refine sAs (v := .bool _) rfl ?_
  refine sNil (kSeqN ?_)
  refine cSeq ?_
  refine cRegion ?_
  refine sMv (v := nv _) rfl ?_
  refine sBin (a := e) (b := 0) rfl rfl aInt_eql ?_
  refine sMv (v := .bool _) rfl ?_
  by_cases h0 : e = 0
  ·
    rw [decide_eq_true h0]
    refine sG rfl rfl ?_
    refine sMv (v := .slice _ _ _) rfl ?_
    refine sG rfl rfl ?_
    refine sMv (v := .slice _ _ _) rfl ?_
    refine sG rfl rfl ?_
    refine sCall2 rfl call22 rfl rfl h22 ?_
    refine sP (v := .bool _) rfl ?_
    refine sAs (v := .bool _) rfl ?_
    refine sNil (kSeqN ?_)
    refine cRet ?_
    exact ⟨.inr rfl, _, rfl, rfl, rfl⟩
  ·
    rw [decide_eq_false h0]
    refine sGno (q' := false) rfl rfl (by simp) ?_
    refine sGno (q' := false) rfl rfl (by simp) ?_
    refine sGno (q' := false) rfl rfl (by simp) ?_
    refine sP (v := .bool _) rfl ?_
    refine sAs (v := .bool _) rfl ?_
    refine sNil (kSeqN ?_)
    refine cRet ?_
    exact ⟨.inr rfl, _, rfl, rfl, rfl⟩

theorem neq40 {a b c d : Nat} : aBin Tryd.prog .neq 40 (.agg #[nv a, nv b]) (.agg #[nv c, nv d]) = some (.bool (decide ((a, b) ≠ (c, d)))) := by
  have hG : Tryd.prog.eqGuardType Tryd.prog.depth 40 = false := by kernel_rfl
  have h3 : ∀ b c : Int, aEq Tryd.prog 5 3 (.int .i64 b) (.int .i64 c) = some (b == c) := fun b c => by
    simp only [aEq, U3, aEq0, if_true]
  have e : aEq Tryd.prog (5 + 1) 40 (.agg #[nv a, nv b]) (.agg #[nv c, nv d]) = some (decide ((a, b) = (c, d))) := by
    rw [aEq.eq_def]
    simp only [T40, S3, aEqElems, aPart, A3, nv]
    simp only [List.getElem?_toArray, Nat.zero_mul, Nat.one_mul, Nat.zero_add, List.getElem?_cons_zero, List.getElem?_cons_succ, h3]
    have e1 : ∀ x y : Nat, (Int.ofNat x == Int.ofNat y) = decide (x = y) := fun x y => by
      rw [Bool.eq_iff_iff]; simp; exact Int.ofNat_inj
    rw [e1, e1]
    by_cases h : a = c <;> by_cases h' : b = d <;> simp [h, h']
  simp only [aBin, eqAble, hG]
  rw [show eqDepth = 5 + 1 from rfl, e]
  by_cases h : (a, b) = (c, d) <;> simp [h]
/-- A slice of pairs that may be read. -/
def TwosAt (m : Mem) (v : Value) (r : List (Nat × Nat)) : Prop := (r = [] ∧ v = .slice none 0 0) ∨ ∃ b cap rw_ c, v = .slice (some ⟨b, 0, some 2⟩) r.length cap ∧ Mem.get m b = .cells rw_ c ∧ ∀ (i : Nat) (p : Nat × Nat), r[i]? = some p → c[i * 2]? = some (nv p.1) ∧ c[i * 2 + 1]? = some (nv p.2)
theorem TwosAt.len {m : Mem} {v : Value} {r : List (Nat × Nat)} (h : TwosAt m v r) : ∃ q cap, v = .slice q r.length cap := by
  rcases h with ⟨rfl, rfl⟩ | ⟨b, cap, rw_, c, rfl, _⟩ <;> exact ⟨_, _, rfl⟩
theorem TwosAt.ext {m m' : Mem} {v : Value} {r : List (Nat × Nat)} (h : TwosAt m v r) (he : Ext m m') : TwosAt m' v r := by
  rcases h with h | ⟨b, cap, rw_, c, h1, h2, h3⟩
  · exact .inl h
  · exact .inr ⟨b, cap, rw_, c, h1, he.cells h2, h3⟩
theorem TwosAt.at {m : Mem} {v : Value} {r : List (Nat × Nat)} (h : TwosAt m v r) (h0 : 0 < r.length) : ∃ b cap rw_ c, v = .slice (some ⟨b, 0, some 2⟩) r.length cap ∧ Mem.get m b = .cells rw_ c ∧ ∀ (i : Nat) (p : Nat × Nat), r[i]? = some p → c[i * 2]? = some (nv p.1) ∧ c[i * 2 + 1]? = some (nv p.2) := by
  rcases h with ⟨rfl, _⟩ | h
  · cases h0
  · exact h
theorem OwnC.pairs {N : Nat} {m : Mem} {v : Value} {r : List (Nat × Nat)} (h : OwnC N m v 2 r.length (cellsP r)) : TwosAt m v r := by
  rcases h with ⟨rfl, h, _⟩ | ⟨b, cap, c, rfl, h2, h3, h4, h5, h6, h7⟩
  · exact .inl ⟨List.length_eq_zero_iff.1 h, rfl⟩
  · refine .inr ⟨b, cap, true, c, rfl, h3, fun i p hi => ?_⟩
    have hl := (List.getElem?_eq_some_iff.1 hi).1
    have := cellsP_get hi
    exact ⟨by rw [h7 _ (by omega)]; exact this.1, by rw [h7 _ (by omega)]; exact this.2⟩
theorem extract2 {c : Array Value} {o : Nat} {x y : Value} (hx : c[o]? = some x) (hy : c[o + 1]? = some y) : c.extract o (o + 2) = #[x, y] := by
  have h1 := (Array.getElem?_eq_some_iff.1 hy).1
  apply Array.ext_getElem?
  intro i
  rw [Array.getElem?_extract]
  match i with
  | 0 => rw [if_pos (by omega)]; simpa using hx
  | 1 => rw [if_pos (by omega)]; simpa using hy
  | i + 2 => rw [if_neg (by omega)]; simp
theorem extract4 {c : Array Value} {o : Nat} {x y z w : Value} (hx : c[o]? = some x) (hy : c[o + 1]? = some y) (hz : c[o + 2]? = some z) (hw : c[o + 3]? = some w) : c.extract o (o + 4) = #[x, y, z, w] := by
  have h1 := (Array.getElem?_eq_some_iff.1 hw).1
  apply Array.ext_getElem?
  intro i
  rw [Array.getElem?_extract]
  match i with
  | 0 => rw [if_pos (by omega)]; simpa using hx
  | 1 => rw [if_pos (by omega)]; simpa using hy
  | 2 => rw [if_pos (by omega)]; simpa using hz
  | 3 => rw [if_pos (by omega)]; simpa using hw
  | i + 4 => rw [if_neg (by omega)]; simp

theorem okf23 : okF Tryd.prog H0 23 26 = true := by kernel_rfl
theorem spec_EqualP {m : Mem} {a b : Value} {l r : List (Nat × Nat)} (ha : TwosAt m a l) (hb : TwosAt m b r) (hl : l.length < 4611686018427387904) : ACalls Tryd.prog 23 #[a, b] m (.bool (decide (l = r))) m := by
  suffices h : ∃ v m', ACalls Tryd.prog 23 #[a, b] m v m' ∧ (v = .bool (decide (l = r)) ∧ m' = m) by
    obtain ⟨v, m', h, rfl, rfl⟩ := h; exact h
  obtain ⟨q, cap, rfl⟩ := ha.len
  obtain ⟨q2, cap2, rfl⟩ := hb.len
  refine wpF (args := [_, _]) mixed okf23 (fn := Tryd.f23) rfl rfl rfl (by simp) ?_
  refine cSeq ?_
  refine cRegion ?_
  refine sAs (v := .bool _) rfl ?_
  refine sNil (kSeqN ?_)
  refine cSeq ?_   -- seq 1
  refine cSeq ?_
  refine cRegion ?_
  refine sMv (v := .slice _ _ _) rfl ?_
  refine sLen T35 rfl ?_
  refine sMv (v := .slice _ _ _) rfl ?_
  refine sLen T35 rfl ?_
  refine sBin (a := l.length) (b := r.length) rfl rfl aInt_neq ?_
  refine sNil (kSeqN ?_)
  refine cCond rfl (fun c0 => ?_) (fun c0 => ?_)
  ·
    refine cSeq ?_
    refine cRegion ?_
    refine sAs (v := .bool _) rfl ?_
    refine sNil (kSeqN ?_)
    refine cRet (kSeqR ?_)
    have hGH : ¬ (l = r) := fun e => c0 (by rw [e])
    exact ⟨.inr rfl, _, rfl, by rw [decide_eq_false hGH]; rfl, rfl⟩
  ·
    have hlen : l.length = r.length := Decidable.not_not.1 c0
    refine cSkip (kSeqN ?_)
    refine cSeq ?_
    refine cSeq ?_
    refine cRegion ?_
    refine sMv (v := .slice _ _ _) rfl ?_
    refine sLen T35 rfl ?_
    refine sMv (v := nv 0) rfl ?_
    refine sNil (kSeqN ?_)
    refine cBlock ?_
    refine wpC_loop (fun k ρ m' => ∃ i, k = l.length - i ∧ i ≤ l.length ∧ m = m' ∧ (∀ j, j < i → l[j]? = r[j]?) ∧ Has ρ [(0, .slice q l.length cap), (1, .slice q2 r.length cap2), (12, nv l.length), (13, nv i)]) ⟨0, rfl, by omega, rfl, by omega, rfl, rfl, rfl, rfl, trivial⟩ ?_
    rintro k ρ _ ⟨i, rfl, hi, rfl, hj, hh⟩
    rw [hh.env]; clear hh
    refine cSeq ?_
    refine cRegion ?_
    refine sBin rfl rfl (aInt_lss) ?_
    refine sNil (kSeqN ?_)
    refine cSeq ?_   -- seq 7
    refine cCond rfl (fun c1 => ?_) (fun c1 => ?_)
    ·
      obtain ⟨b1, p1, r1, cc1, e1, g1, x1⟩ := ha.at (by omega)
      obtain ⟨b2, p2, r2, cc2, e2, g2, x2⟩ := hb.at (by omega)
      cases e1
      cases e2
      have hir : i < r.length := by omega
      have y1 := x1 i l[i] (by simp)
      have y2 := x2 i r[i] (by simp)
      have z1 := (Array.getElem?_eq_some_iff.1 y1.2).1
      have z2 := (Array.getElem?_eq_some_iff.1 y2.2).1
      refine cSkip (kSeqN ?_)
      refine cSeq ?_
      refine cBlock ?_
      refine cSeq ?_
      refine cRegion ?_
      refine sMv (v := nv _) rfl ?_
      refine sAs (v := nv _) rfl ?_
      refine sNil (kSeqN ?_)
      refine cSeq ?_
      refine cDraw rfl ?_
      refine sMv (v := .slice _ _ _) rfl ?_
      refine sMv (v := nv _) rfl ?_
      refine sIx T35 S40 rfl rfl c1 ?_
      refine sLdA A40 S40 rfl g1 (by omega) ?_
      rw [Nat.zero_add, extract2 y1.1 y1.2]
      refine sMv (v := .slice _ _ _) rfl ?_
      refine sMv (v := nv _) rfl ?_
      refine sIx T35 S40 rfl rfl hir ?_
      refine sLdA A40 S40 rfl g2 (by omega) ?_
      rw [Nat.zero_add, extract2 y2.1 y2.2]
      refine sP (v := .bool (decide ((l[i].1, l[i].2) ≠ (r[i].1, r[i].2)))) neq40 ?_
      refine sNil (kSeqN ?_)
      refine cCond rfl (fun c2 => ?_) (fun c2 => ?_)
      ·
        refine cSeq ?_
        refine cRegion ?_
        refine sAs (v := .bool _) rfl ?_
        refine sNil (kSeqN ?_)
        refine cRet (kBlkR (kSeqR (kSeqR (kBlkR (kSeqR ?_)))))
        refine ⟨.inr rfl, _, rfl, ?_, rfl⟩
        have : ¬ (l = r) := fun e => c2 (by subst e; rfl)
        rw [decide_eq_false this]; rfl
      ·
        refine cSkip (kBlkN (kSeqN ?_))
        refine cRegion ?_
        refine sBin rfl rfl (aInt_add (b := 1) (by omega)) ?_
        refine sMv (v := nv _) rfl ?_
        refine sNil (kSeqN ?_)
        refine ⟨_, ?_, i + 1, rfl, by omega, rfl, fun j hji => ?_, rfl, rfl, rfl, rfl, trivial⟩
        · omega
        · by_cases h : j < i
          · exact hj j h
          · obtain rfl : j = i := by omega
            rw [List.getElem?_eq_getElem c1, List.getElem?_eq_getElem hir]
            exact congrArg some (Decidable.not_not.1 c2)
    ·
      refine cExit (kSeqE (kSeqE (kBlkS (kSeqN ?_))))
      refine cSeq ?_
      refine cRegion ?_
      refine sAs (v := .bool _) rfl ?_
      refine sNil (kSeqN ?_)
      refine cRet ?_
      obtain rfl : i = l.length := by omega
      have he : l = r := by
        apply List.ext_getElem? fun j => ?_
        by_cases h : j < l.length
        · exact hj j h
        · rw [List.getElem?_eq_none (by omega), List.getElem?_eq_none (by omega)]
      exact ⟨.inr rfl, _, rfl, by rw [decide_eq_true he]; rfl, rfl⟩

end Go.AM

/-! ### P19 -/
namespace Go.AM
open Go.Proofs
set_option maxRecDepth 100000
set_option linter.unusedVariables false
set_option linter.unusedSimpArgs false
/-- A gate as it is compared: kind, wires, two numbers. -/
abbrev GateV := Int × List Int × Int × Int
theorem oneGate {k a b : Int} {q : Option Addr} {n c : Nat} : (#[.int .i64 k, .slice q n c, .int .i64 a, .int .i64 b] : Array Value).all Value.oneCell' = true := by kernel_rfl
def GateAt (m : Mem) (vs : Array Value) (g : GateV) : Prop := ∃ s, vs = #[.int .i64 g.1, s, .int .i64 g.2.2.1, .int .i64 g.2.2.2] ∧ IntsAt m s g.2.1
theorem GateAt.ext {m m' : Mem} {vs : Array Value} {g : GateV} (h : GateAt m vs g) (he : Ext m m') : GateAt m' vs g := by
  obtain ⟨s, h1, h2⟩ := h; exact ⟨s, h1, h2.ext he⟩
def GatesAt (m : Mem) (v : Value) (Gs : List GateV) : Prop :=
  (Gs = [] ∧ v = .slice none 0 0) ∨ ∃ b cap r c, v = .slice (some ⟨b, 0, some 4⟩) Gs.length cap ∧ Mem.get m b = .cells r c ∧ ∀ (i : Nat) (g : GateV), Gs[i]? = some g → GateAt m (c.extract (i * 4) (i * 4 + 4)) g ∧ i * 4 + 4 ≤ c.size
theorem GatesAt.len {m : Mem} {v : Value} {Gs : List GateV} (h : GatesAt m v Gs) : ∃ q cap, v = .slice q Gs.length cap := by
  rcases h with ⟨rfl, rfl⟩ | ⟨b, cap, rw_, c, rfl, _⟩ <;> exact ⟨_, _, rfl⟩
theorem GatesAt.ext {m m' : Mem} {v : Value} {Gs : List GateV} (h : GatesAt m v Gs) (he : Ext m m') : GatesAt m' v Gs := by
  rcases h with h | ⟨b, cap, rw_, c, h1, h2, h3⟩
  · exact .inl h
  · exact .inr ⟨b, cap, rw_, c, h1, he.cells h2, fun i g hi => ⟨(h3 i g hi).1.ext he, (h3 i g hi).2⟩⟩
theorem GatesAt.at {m : Mem} {v : Value} {Gs : List GateV} (h : GatesAt m v Gs) (h0 : 0 < Gs.length) : ∃ b cap r c, v = .slice (some ⟨b, 0, some 4⟩) Gs.length cap ∧ Mem.get m b = .cells r c ∧ ∀ (i : Nat) (g : GateV), Gs[i]? = some g → GateAt m (c.extract (i * 4) (i * 4 + 4)) g ∧ i * 4 + 4 ≤ c.size := by
  rcases h with ⟨rfl, _⟩ | h
  · cases h0
  · exact h
def gvM (g : Nat × List Nat) : GateV := (Int.ofNat g.1, ofs g.2, 0, 0)
theorem OwnG.gates {N : Nat} {m : Mem} {v : Value} {cs : Array Value} {Gs : List (Nat × List Nat)} (h : OwnG N m v cs Gs) : GatesAt m v (Gs.map gvM) := by
  have hsz := h.1.size
  rcases h with ⟨⟨rfl, h, _⟩ | ⟨b, cap, c, rfl, h2, h3, h4, h5, h6, h7⟩, hr⟩
  · obtain rfl := List.length_eq_zero_iff.1 h
    exact .inl ⟨rfl, rfl⟩
  · refine .inr ⟨b, cap, true, c, by rw [List.length_map], h3, fun i g hi => ?_⟩
    simp only [List.getElem?_map, Option.map_eq_some_iff] at hi
    obtain ⟨g', hi, rfl⟩ := hi
    have hl := (List.getElem?_eq_some_iff.1 hi).1
    obtain ⟨s, e1, e2, e3, e4, ho, _⟩ := hr i g' hi
    have hcap : Gs.length * 4 ≤ cap * 4 := Nat.mul_le_mul_right 4 h4
    refine ⟨⟨s, ?_, ho.ints⟩, by omega⟩
    exact extract4 (by rw [h7 _ (by omega)]; exact e1) (by rw [h7 _ (by omega)]; exact e2) (by rw [h7 _ (by omega)]; exact e3) (by rw [h7 _ (by omega)]; exact e4)

theorem okf81 : okF Tryd.prog H0 81 31 = true := by kernel_rfl
theorem spec_SameGate {m : Mem} {u w : Array Value} {g h : GateV} (hu : GateAt m u g) (hw : GateAt m w h) (hl : g.2.1.length < 4611686018427387904) : ∃ v m', ACalls Tryd.prog 81 #[.agg u, .agg w] m v m' ∧ (v = .bool (decide (g = h)) ∧ Ext m m') := by
  obtain ⟨k1, l1, a1, b1⟩ := g
  obtain ⟨k2, l2, a2, b2⟩ := h
  obtain ⟨s1, rfl, h1⟩ := hu
  obtain ⟨s2, rfl, h2⟩ := hw
  simp only at h1 h2 hl ⊢
  have h22 := spec_Equal (m := (m.push (.cells true #[.int .i64 k1, s1, .int .i64 a1, .int .i64 b1])).push (.cells true #[.int .i64 k2, s2, .int .i64 a2, .int .i64 b2])) ((h1.ext (.push _ _)).ext (.push _ _)) ((h2.ext (.push _ _)).ext (.push _ _)) hl
  obtain ⟨q1, c1, rfl⟩ := h1.len
  obtain ⟨q2, c2, rfl⟩ := h2.len
  have hE : Ext m ((m.push (.cells true #[.int .i64 k1, .slice q1 l1.length c1, .int .i64 a1, .int .i64 b1])).push (.cells true #[.int .i64 k2, .slice q2 l2.length c2, .int .i64 a2, .int .i64 b2])) := (Ext.push _ _).trans (.push _ _)
  refine wpF (args := [_, _]) mixed okf81 (fn := Tryd.f81) rfl rfl rfl (by simp) ?_
  refine cSeq ?_
  refine cRegion ?_
  refine sBox (v := .agg _) rfl ?_
  refine sBox (v := .agg _) rfl ?_
  refine sAs (v := .bool _) rfl ?_
  refine sNil (kSeqN ?_)
  refine cSeq ?_
  refine cRegion ?_
  refine sFA F76_0 rfl ?_
  refine sLd (v := .int _ _) A3 rfl (by simp (disch := first | omega | (simp only [Array.size_push, Array.size_setIfInBounds]; done) | (simp only [Array.size_push, Array.size_setIfInBounds]; omega)) only [gP, gPn, gS, gSn]; try rfl) rfl ?_
  refine sFA F76_0 rfl ?_
  refine sLd (v := .int _ _) A3 rfl (by simp (disch := first | omega | (simp only [Array.size_push, Array.size_setIfInBounds]; done) | (simp only [Array.size_push, Array.size_setIfInBounds]; omega)) only [gP, gPn, gS, gSn]; try rfl) rfl ?_
  refine sBinI rfl rfl aInt_eqlI ?_
  refine sMv (v := .bool _) rfl ?_
  by_cases e1 : k1 = k2
  ·
    rw [decide_eq_true e1]
    refine sG rfl rfl ?_
    refine sFA F76_2 rfl ?_
    refine sG rfl rfl ?_
    refine sLd (v := .int _ _) A3 rfl (by simp (disch := first | omega | (simp only [Array.size_push, Array.size_setIfInBounds]; done) | (simp only [Array.size_push, Array.size_setIfInBounds]; omega)) only [gP, gPn, gS, gSn]; try rfl) rfl ?_
    refine sG rfl rfl ?_
    refine sFA F76_2 rfl ?_
    refine sG rfl rfl ?_
    refine sLd (v := .int _ _) A3 rfl (by simp (disch := first | omega | (simp only [Array.size_push, Array.size_setIfInBounds]; done) | (simp only [Array.size_push, Array.size_setIfInBounds]; omega)) only [gP, gPn, gS, gSn]; try rfl) rfl ?_
    refine sG rfl rfl ?_
    refine sBinI rfl rfl aInt_eqlI ?_
    refine sP (v := .bool _) rfl ?_   -- t16 pick ['t10', 't15', '(bool false)']
    refine sMv (v := .bool _) rfl ?_
    by_cases e2 : a1 = a2
    ·
      rw [decide_eq_true e2]
      refine sG rfl rfl ?_
      refine sFA F76_3 rfl ?_
      refine sG rfl rfl ?_
      refine sLd (v := .int _ _) A3 rfl (by simp (disch := first | omega | (simp only [Array.size_push, Array.size_setIfInBounds]; done) | (simp only [Array.size_push, Array.size_setIfInBounds]; omega)) only [gP, gPn, gS, gSn]; try rfl) rfl ?_
      refine sG rfl rfl ?_
      refine sFA F76_3 rfl ?_
      refine sG rfl rfl ?_
      refine sLd (v := .int _ _) A3 rfl (by simp (disch := first | omega | (simp only [Array.size_push, Array.size_setIfInBounds]; done) | (simp only [Array.size_push, Array.size_setIfInBounds]; omega)) only [gP, gPn, gS, gSn]; try rfl) rfl ?_
      refine sG rfl rfl ?_
      refine sBinI rfl rfl aInt_eqlI ?_
      refine sP (v := .bool _) rfl ?_   -- t23 pick ['t17', 't22', '(bool false)']
      refine sMv (v := .bool _) rfl ?_
      by_cases e3 : b1 = b2
      ·
        rw [decide_eq_true e3]
        refine sG rfl rfl ?_
        refine sFA F76_1 rfl ?_
        refine sG rfl rfl ?_
        refine sLd A25 rfl (by simp (disch := first | omega | (simp only [Array.size_push, Array.size_setIfInBounds]; done) | (simp only [Array.size_push, Array.size_setIfInBounds]; omega)) only [gP, gPn, gS, gSn]; try rfl) rfl ?_
        refine sG rfl rfl ?_
        refine sFA F76_1 rfl ?_
        refine sG rfl rfl ?_
        refine sLd A25 rfl (by simp (disch := first | omega | (simp only [Array.size_push, Array.size_setIfInBounds]; done) | (simp only [Array.size_push, Array.size_setIfInBounds]; omega)) only [gP, gPn, gS, gSn]; try rfl) rfl ?_
        refine sG rfl rfl ?_
        refine sCall2 rfl call22 rfl rfl h22 ?_
        refine sP (v := .bool _) rfl ?_
        refine sAs (v := .bool _) rfl ?_
        refine sNil (kSeqN ?_)
        refine cRet ?_
        refine ⟨.inr rfl, _, rfl, congrArg Value.bool (decide_eq_decide.2 ?_), hE⟩
        subst e1; subst e2; subst e3
        simp
      ·
        rw [decide_eq_false e3]
        refine sGno (q' := false) rfl rfl (by simp) ?_
        refine sGno (q' := false) rfl rfl (by simp) ?_
        refine sGno (q' := false) rfl rfl (by simp) ?_
        refine sGno (q' := false) rfl rfl (by simp) ?_
        refine sGno (q' := false) rfl rfl (by simp) ?_
        refine sP (v := .bool _) rfl ?_
        refine sAs (v := .bool _) rfl ?_
        refine sNil (kSeqN ?_)
        refine cRet ?_
        refine ⟨.inr rfl, _, rfl, congrArg Value.bool (decide_eq_false ?_).symm, hE⟩
        intro e; simp at e; exact e3 e.2.2.2
    ·
      rw [decide_eq_false e2]
      refine sGno (q' := false) rfl rfl (by simp) ?_
      refine sGno (q' := false) rfl rfl (by simp) ?_
      refine sGno (q' := false) rfl rfl (by simp) ?_
      refine sGno (q' := false) rfl rfl (by simp) ?_
      refine sGno (q' := false) rfl rfl (by simp) ?_
      refine sP (v := .bool _) rfl ?_   -- t23 pick ['t17', 't22', '(bool false)']
      refine sMv (v := .bool _) rfl ?_
      refine sGno (q' := false) rfl rfl (by simp) ?_
      refine sGno (q' := false) rfl rfl (by simp) ?_
      refine sGno (q' := false) rfl rfl (by simp) ?_
      refine sGno (q' := false) rfl rfl (by simp) ?_
      refine sGno (q' := false) rfl rfl (by simp) ?_
      refine sP (v := .bool _) rfl ?_
      refine sAs (v := .bool _) rfl ?_
      refine sNil (kSeqN ?_)
      refine cRet ?_
      refine ⟨.inr rfl, _, rfl, congrArg Value.bool (decide_eq_false ?_).symm, hE⟩
      intro e; simp at e; exact e2 e.2.2.1
  ·
    rw [decide_eq_false e1]
    refine sGno (q' := false) rfl rfl (by simp) ?_
    refine sGno (q' := false) rfl rfl (by simp) ?_
    refine sGno (q' := false) rfl rfl (by simp) ?_
    refine sGno (q' := false) rfl rfl (by simp) ?_
    refine sGno (q' := false) rfl rfl (by simp) ?_
    refine sP (v := .bool _) rfl ?_   -- t16 pick ['t10', 't15', '(bool false)']
    refine sMv (v := .bool _) rfl ?_
    refine sGno (q' := false) rfl rfl (by simp) ?_
    refine sGno (q' := false) rfl rfl (by simp) ?_
    refine sGno (q' := false) rfl rfl (by simp) ?_
    refine sGno (q' := false) rfl rfl (by simp) ?_
    refine sGno (q' := false) rfl rfl (by simp) ?_
    refine sP (v := .bool _) rfl ?_   -- t23 pick ['t17', 't22', '(bool false)']
    refine sMv (v := .bool _) rfl ?_
    refine sGno (q' := false) rfl rfl (by simp) ?_
    refine sGno (q' := false) rfl rfl (by simp) ?_
    refine sGno (q' := false) rfl rfl (by simp) ?_
    refine sGno (q' := false) rfl rfl (by simp) ?_
    refine sGno (q' := false) rfl rfl (by simp) ?_
    refine sP (v := .bool _) rfl ?_
    refine sAs (v := .bool _) rfl ?_
    refine sNil (kSeqN ?_)
    refine cRet ?_
    refine ⟨.inr rfl, _, rfl, congrArg Value.bool (decide_eq_false ?_).symm, hE⟩
    intro e; simp at e; exact e1 e.1

theorem okf80 : okF Tryd.prog H0 80 32 = true := by kernel_rfl
theorem spec_EqualG {m : Mem} {a b : Value} {l r : List GateV} (ha : GatesAt m a l) (hb : GatesAt m b r) (hl : l.length < 4611686018427387904) (hw : ∀ g ∈ l, g.2.1.length < 4611686018427387904) : ∃ v m', ACalls Tryd.prog 80 #[a, b, .func (.func 81) #[] #[]] m v m' ∧ (v = .bool (decide (l = r)) ∧ Ext m m') := by
  obtain ⟨q, cap, rfl⟩ := ha.len
  obtain ⟨q2, cap2, rfl⟩ := hb.len
  refine wpF (args := [_, _, _]) mixed okf80 (fn := Tryd.f80) rfl rfl rfl (by simp) ?_
  refine cSeq ?_
  refine cRegion ?_
  refine sAs (v := .bool _) rfl ?_
  refine sNil (kSeqN ?_)
  refine cSeq ?_   -- seq 1
  refine cSeq ?_
  refine cRegion ?_
  refine sMv (v := .slice _ _ _) rfl ?_
  refine sLen T55 rfl ?_
  refine sMv (v := .slice _ _ _) rfl ?_
  refine sLen T55 rfl ?_
  refine sBin (a := l.length) (b := r.length) rfl rfl aInt_neq ?_
  refine sNil (kSeqN ?_)
  refine cCond rfl (fun c0 => ?_) (fun c0 => ?_)
  ·
    refine cSeq ?_
    refine cRegion ?_
    refine sAs (v := .bool _) rfl ?_
    refine sNil (kSeqN ?_)
    refine cRet (kSeqR ?_)
    have hGH : ¬ (l = r) := fun e => c0 (by rw [e])
    exact ⟨.inr rfl, _, rfl, by rw [decide_eq_false hGH]; rfl, .refl _⟩
  ·
    have hlen : l.length = r.length := Decidable.not_not.1 c0
    refine cSkip (kSeqN ?_)
    refine cSeq ?_
    refine cSeq ?_
    refine cRegion ?_
    refine sMv (v := .slice _ _ _) rfl ?_
    refine sLen T55 rfl ?_
    refine sMv (v := nv 0) rfl ?_
    refine sNil (kSeqN ?_)
    refine cBlock ?_
    refine wpC_loop (fun k ρ m' => ∃ i, k = l.length - i ∧ i ≤ l.length ∧ Ext m m' ∧ (∀ j, j < i → l[j]? = r[j]?) ∧ Has ρ [(0, .slice q l.length cap), (1, .slice q2 r.length cap2), (2, .func (.func 81) #[] #[]), (15, .slice q l.length cap), (16, nv l.length), (17, nv i)]) ⟨0, rfl, by omega, .refl _, by omega, rfl, rfl, rfl, rfl, rfl, rfl, trivial⟩ ?_
    rintro k ρ m' ⟨i, rfl, hi, hE, hj, hh⟩
    rw [hh.env]; clear hh
    refine cSeq ?_
    refine cRegion ?_
    refine sBin rfl rfl (aInt_lss) ?_
    refine sNil (kSeqN ?_)
    refine cSeq ?_   -- seq 7
    refine cCond rfl (fun c1 => ?_) (fun c1 => ?_)
    ·
      obtain ⟨b1, p1, r1, cc1, e1, g1, x1⟩ := (ha.ext hE).at (by omega)
      obtain ⟨b2, p2, r2, cc2, e2, g2, x2⟩ := (hb.ext hE).at (by omega)
      cases e1
      cases e2
      have hir : i < r.length := by omega
      obtain ⟨y1, z1⟩ := x1 i l[i] (by simp)
      obtain ⟨y2, z2⟩ := x2 i r[i] (by simp)
      have hs1 : (cc1.extract (i * 4) (i * 4 + 4)).size = 4 := by simp; omega
      have hs2 : (cc2.extract (i * 4) (i * 4 + 4)).size = 4 := by simp; omega
      have ho1 : (cc1.extract (i * 4) (i * 4 + 4)).all Value.oneCell' = true := by
        obtain ⟨s, e, hi⟩ := y1
        obtain ⟨_, _, rfl⟩ := hi.len
        rw [e]; exact oneGate
      have ho2 : (cc2.extract (i * 4) (i * 4 + 4)).all Value.oneCell' = true := by
        obtain ⟨s, e, hi⟩ := y2
        obtain ⟨_, _, rfl⟩ := hi.len
        rw [e]; exact oneGate
      refine cSkip (kSeqN ?_)
      refine cSeq ?_
      refine cBlock ?_
      refine cSeq ?_
      refine cRegion ?_
      refine sMv (v := nv _) rfl ?_
      refine sIx T55 S76 rfl rfl c1 ?_
      refine sLdA A76 S76 rfl g1 (by omega) ?_
      rw [Nat.zero_add]
      refine sAlloc Z76 (by kernel_rfl) ?_
      refine sAs (v := nv _) rfl ?_
      refine sStNA S76 rfl rfl rfl hs1 ho1 ?_
      refine sNil (kSeqN ?_)
      refine cSeq ?_
      refine cRegion ?_
      refine sMv (v := .slice _ _ _) rfl ?_
      refine sMv (v := nv _) rfl ?_
      refine sIx T55 S76 rfl rfl hir ?_
      refine sLdA A76 S76 rfl ((gPn (live g2)).trans g2) (by omega) ?_
      rw [Nat.zero_add]
      refine sAlloc Z76 (by kernel_rfl) ?_
      refine sStNA S76 rfl rfl rfl hs2 ho2 ?_
      refine sNil (kSeqN ?_)
      refine cSeq ?_
      refine cRegion ?_
      refine sMv (v := .func _ _ _) rfl ?_
      refine sLdAll A76 S76 rfl (by rw [gPn (by simp), gP rfl]) hs1 ?_
      refine sLdAll A76 S76 rfl (gP rfl) hs2 ?_
      obtain ⟨v29, m29, h29, rfl, e29⟩ := spec_SameGate (m := (m'.push (.cells true (cc1.extract (i * 4) (i * 4 + 4)))).push (.cells true (cc2.extract (i * 4) (i * 4 + 4)))) ((y1.ext (.push _ _)).ext (.push _ _)) ((y2.ext (.push _ _)).ext (.push _ _)) (hw _ (List.getElem_mem c1))
      refine sCall2 rfl call81 rfl rfl h29 ?_
      refine sP (v := .bool (!decide (l[i] = r[i]))) rfl ?_
      refine sNil (kSeqN ?_)
      refine cCond (p := l[i] ≠ r[i]) (by show Value.bool _ = Value.bool _; rw [← decide_not]) (fun c2 => ?_) (fun c2 => ?_)
      ·
        refine cSeq ?_
        refine cRegion ?_
        refine sAs (v := .bool _) rfl ?_
        refine sNil (kSeqN ?_)
        refine cRet (kBlkR (kSeqR (kSeqR (kBlkR (kSeqR ?_)))))
        refine ⟨.inr rfl, _, rfl, ?_, hE.trans (((Ext.push _ _).trans (.push _ _)).trans e29)⟩
        have : ¬ (l = r) := fun e => c2 (by subst e; rfl)
        rw [decide_eq_false this]; rfl
      ·
        refine cSkip (kBlkN (kSeqN ?_))
        refine cRegion ?_
        refine sBin rfl rfl (aInt_add (b := 1) (by omega)) ?_
        refine sMv (v := nv _) rfl ?_
        refine sNil (kSeqN ?_)
        refine ⟨_, ?_, i + 1, rfl, by omega, hE.trans (((Ext.push _ _).trans (.push _ _)).trans e29), fun j hji => ?_, rfl, rfl, rfl, rfl, rfl, rfl, trivial⟩
        · omega
        · by_cases h : j < i
          · exact hj j h
          · obtain rfl : j = i := by omega
            rw [List.getElem?_eq_getElem c1, List.getElem?_eq_getElem hir, Decidable.not_not.1 c2]
    ·
      refine cExit (kSeqE (kSeqE (kBlkS (kSeqN ?_))))
      refine cSeq ?_
      refine cRegion ?_
      refine sAs (v := .bool _) rfl ?_
      refine sNil (kSeqN ?_)
      refine cRet ?_
      obtain rfl : i = l.length := by omega
      have he : l = r := by
        apply List.ext_getElem? fun j => ?_
        by_cases h : j < l.length
        · exact hj j h
        · rw [List.getElem?_eq_none (by omega), List.getElem?_eq_none (by omega)]
      exact ⟨.inr rfl, _, rfl, by rw [decide_eq_true he]; rfl, hE⟩

theorem okf50 : okF Tryd.prog H0 50 24 = true := by kernel_rfl
theorem spec_Same {m : Mem} {a b : Value} {W B W' B' : Nat} {l r : List GateV} (ha : GatesAt m a l) (hb : GatesAt m b r) (hl : l.length < 4611686018427387904) (hw : ∀ g ∈ l, g.2.1.length < 4611686018427387904) : ∃ v m', ACalls Tryd.prog 50 #[.agg #[nv W, nv B, a], .agg #[nv W', nv B', b]] m v m' ∧ (v = .bool (decide (W = W' ∧ B = B' ∧ l = r)) ∧ Ext m m') := by
  have hE : Ext m ((m.push (.cells true #[nv W, nv B, a])).push (.cells true #[nv W', nv B', b])) := (Ext.push _ _).trans (.push _ _)
  obtain ⟨v22, m22, h22, rfl, e22⟩ := spec_EqualG (ha.ext hE) (hb.ext hE) hl hw
  obtain ⟨q1, c1, rfl⟩ := ha.len
  obtain ⟨q2, c2, rfl⟩ := hb.len
  refine wpF (args := [_, _]) mixed okf50 (fn := Tryd.f50) rfl rfl rfl (by simp) ?_
  refine cSeq ?_
  refine cRegion ?_
  refine sBox (v := .agg _) rfl ?_
  refine sBox (v := .agg _) rfl ?_
  refine sAs (v := .bool _) rfl ?_
  refine sNil (kSeqN ?_)
  refine cSeq ?_
  refine cRegion ?_
  refine sFA F57_0 rfl ?_
  refine sLd A3 rfl (by simp (disch := first | omega | (simp only [Array.size_push, Array.size_setIfInBounds]; done) | (simp only [Array.size_push, Array.size_setIfInBounds]; omega)) only [gP, gPn, gS, gSn]; try rfl) rfl ?_
  refine sFA F57_0 rfl ?_
  refine sLd A3 rfl (by simp (disch := first | omega | (simp only [Array.size_push, Array.size_setIfInBounds]; done) | (simp only [Array.size_push, Array.size_setIfInBounds]; omega)) only [gP, gPn, gS, gSn]; try rfl) rfl ?_
  refine sBin (a := W) (b := W') rfl rfl aInt_eql ?_
  refine sMv (v := .bool _) rfl ?_
  by_cases e1 : W = W'
  ·
    rw [decide_eq_true e1]
    refine sG rfl rfl ?_
    refine sFA F57_1 rfl ?_
    refine sG rfl rfl ?_
    refine sLd A3 rfl (by simp (disch := first | omega | (simp only [Array.size_push, Array.size_setIfInBounds]; done) | (simp only [Array.size_push, Array.size_setIfInBounds]; omega)) only [gP, gPn, gS, gSn]; try rfl) rfl ?_
    refine sG rfl rfl ?_
    refine sFA F57_1 rfl ?_
    refine sG rfl rfl ?_
    refine sLd A3 rfl (by simp (disch := first | omega | (simp only [Array.size_push, Array.size_setIfInBounds]; done) | (simp only [Array.size_push, Array.size_setIfInBounds]; omega)) only [gP, gPn, gS, gSn]; try rfl) rfl ?_
    refine sG rfl rfl ?_
    refine sBin (a := B) (b := B') rfl rfl aInt_eql ?_
    refine sP (v := .bool _) rfl ?_   -- t16 pick ['t10', 't15', '(bool false)']
    refine sMv (v := .bool _) rfl ?_
    by_cases e2 : B = B'
    ·
      rw [decide_eq_true e2]
      refine sG rfl rfl ?_
      refine sFA F57_2 rfl ?_
      refine sG rfl rfl ?_
      refine sLd A55 rfl (by simp (disch := first | omega | (simp only [Array.size_push, Array.size_setIfInBounds]; done) | (simp only [Array.size_push, Array.size_setIfInBounds]; omega)) only [gP, gPn, gS, gSn]; try rfl) rfl ?_
      refine sG rfl rfl ?_
      refine sFA F57_2 rfl ?_
      refine sG rfl rfl ?_
      refine sLd A55 rfl (by simp (disch := first | omega | (simp only [Array.size_push, Array.size_setIfInBounds]; done) | (simp only [Array.size_push, Array.size_setIfInBounds]; omega)) only [gP, gPn, gS, gSn]; try rfl) rfl ?_
      refine sG rfl rfl ?_
      refine sCall3 rfl call80 rfl rfl rfl h22 ?_
      refine sP (v := .bool _) rfl ?_
      refine sAs (v := .bool _) rfl ?_
      refine sNil (kSeqN ?_)
      refine cRet ?_
      refine ⟨.inr rfl, _, rfl, congrArg Value.bool (decide_eq_decide.2 ?_), hE.trans e22⟩
      exact ⟨fun h => ⟨e1, e2, h⟩, fun h => h.2.2⟩
    ·
      rw [decide_eq_false e2]
      refine sGno (q' := false) rfl rfl (by simp) ?_
      refine sGno (q' := false) rfl rfl (by simp) ?_
      refine sGno (q' := false) rfl rfl (by simp) ?_
      refine sGno (q' := false) rfl rfl (by simp) ?_
      refine sGno (q' := false) rfl rfl (by simp) ?_
      refine sP (v := .bool _) rfl ?_
      refine sAs (v := .bool _) rfl ?_
      refine sNil (kSeqN ?_)
      refine cRet ?_
      exact ⟨.inr rfl, _, rfl, congrArg Value.bool (decide_eq_false fun h => e2 h.2.1).symm, hE⟩
  ·
    rw [decide_eq_false e1]
    refine sGno (q' := false) rfl rfl (by simp) ?_
    refine sGno (q' := false) rfl rfl (by simp) ?_
    refine sGno (q' := false) rfl rfl (by simp) ?_
    refine sGno (q' := false) rfl rfl (by simp) ?_
    refine sGno (q' := false) rfl rfl (by simp) ?_
    refine sP (v := .bool _) rfl ?_   -- t16 pick ['t10', 't15', '(bool false)']
    refine sMv (v := .bool _) rfl ?_
    refine sGno (q' := false) rfl rfl (by simp) ?_
    refine sGno (q' := false) rfl rfl (by simp) ?_
    refine sGno (q' := false) rfl rfl (by simp) ?_
    refine sGno (q' := false) rfl rfl (by simp) ?_
    refine sGno (q' := false) rfl rfl (by simp) ?_
    refine sP (v := .bool _) rfl ?_
    refine sAs (v := .bool _) rfl ?_
    refine sNil (kSeqN ?_)
    refine cRet ?_
    exact ⟨.inr rfl, _, rfl, congrArg Value.bool (decide_eq_false fun h => e1 h.1).symm, hE⟩

end Go.AM

/-! ### P20t -/
namespace Go.AM
abbrev line4 : List (List Int) := [[], [0], [1], [2]]
abbrev line2 : List (List Int) := [[], [0]]
theorem ev_line4 : ofs2 (lineM 4) = line4 := by decide +kernel
theorem ev_line2 : ofs2 (lineM 2) = line2 := by decide +kernel
theorem ev_tree : ofs2 (treeM 2) = [[], [], [0, 1]] := by decide +kernel
theorem ev_play : gPlayE line2 [0, 1, 0] = 0 := by decide +kernel
theorem ev_play2 : playedL [0, 1, 0] = [0, 1, 3, 2] := by decide +kernel
theorem ev_play3 : gPlayE line2 [1] = 15 := by decide +kernel
theorem ev_ben : benM 4 = [0, 1, 0, 2, 3, 2, 0, 1, 0] := by decide +kernel
theorem ev_with : withE line4 [3] = 0 := by decide +kernel
theorem ev_plain : plainM line4 [3] = [0, 1, 2, 3, 2, 1, 0] := by decide +kernel
theorem ev_trade : tradeG line4 [3] = [(3, 9), (4, 7)] := by decide +kernel
theorem ev_most0 : gPlayE line4 [0, 1, 2, 3, 2, 1, 0] = 0 := by decide +kernel
theorem ev_most : mostM (playedL [0, 1, 2, 3, 2, 1, 0]) = 4 := by decide +kernel
theorem ev_short0 : shortestE line4 [3] 3 = 0 := by decide +kernel
theorem ev_short : shortestG line4 [3] 3 = [0, 1, 0, 2, 3, 2, 0, 1, 0] := by decide +kernel
theorem ev_closed0 : closedE line4 2 = 0 := by decide +kernel
theorem ev_closed : closedG line4 2 = [0, 1, 2, 3, 6] := by decide +kernel
theorem ev_shows0 : showsE line4 [3] 2 [0, 1, 2, 3, 6] = 0 := by decide +kernel
theorem ev_shows : showsG line4 [3] 2 [0, 1, 2, 3, 6] = true := by decide +kernel
theorem ev_circ : circG line2 [0, 1, 0] = [(1, [0]), (9, [0, 1]), (1, [0])] := by decide +kernel
end Go.AM

/-! ### P20 -/
namespace Go.AM
open Go.Proofs
set_option maxRecDepth 100000
set_option linter.unusedVariables false
set_option linter.unusedSimpArgs false
theorem aw_line4 {m : Mem} : ∃ w m', ACalls Tryd.prog 29 #[nv 4] m (.tuple #[.agg #[w], nv 0]) m' ∧ RowsAt m' w line4 ∧ Ext m m' := by
  obtain ⟨v, m', h, w, cs, rfl, ho, he⟩ := spec_Line (m := m) (n := 4)
  exact ⟨w, m', h, by have := ho.rows; rwa [show ifOk (benE 4) (lineM (4 : Int).toNat) [] = lineM 4 from rfl, ev_line4] at this, he⟩
theorem aw_line2 {m : Mem} : ∃ w m', ACalls Tryd.prog 29 #[nv 2] m (.tuple #[.agg #[w], nv 0]) m' ∧ RowsAt m' w line2 ∧ Ext m m' := by
  obtain ⟨v, m', h, w, cs, rfl, ho, he⟩ := spec_Line (m := m) (n := 2)
  exact ⟨w, m', h, by have := ho.rows; rwa [show ifOk (benE 2) (lineM (2 : Int).toNat) [] = lineM 2 from rfl, ev_line2] at this, he⟩
theorem aw_tree {m : Mem} : ∃ w m', ACalls Tryd.prog 31 #[nv 2] m (.tuple #[.agg #[w], nv 0]) m' ∧ RowsAt m' w [[], [], [0, 1]] ∧ Ext m m' := by
  obtain ⟨v, m', h, w, cs, rfl, ho, he⟩ := spec_Tree (m := m) (n := 2)
  exact ⟨w, m', h, by have := ho.rows; rwa [show ifOk (treeE 2) (treeM (2 : Int).toNat) [] = treeM 2 from rfl, ev_tree] at this, he⟩
theorem aw_same {m : Mem} {a b : Value} {G : List (List Int)} (ha : RowsAt m a G) (hb : RowsAt m b G) (h1 : G.length < 1000) (h2 : G.all (fun g => decide (g.length < 1000)) = true) : ∃ m', ACalls Tryd.prog 24 #[.agg #[a], .agg #[b]] m (.bool true) m' ∧ Ext m m' := by
  obtain ⟨v, m', h, rfl, he⟩ := spec_same ha hb (by omega) (fun g hg => by have := of_decide_eq_true (List.all_eq_true.1 h2 g hg); omega)
  rw [decide_eq_true rfl] at h
  exact ⟨m', h, he⟩
theorem aw_known {m : Mem} {a b : Value} {l : List Int} (ha : IntsAt m a l) (hb : IntsAt m b l) (hl : l.length < 1000) : ACalls Tryd.prog 59 #[a, nv 0, b] m (.bool true) m := by
  obtain ⟨v, m', h, rfl, he⟩ := spec_known (e := 0) ha hb (by omega)
  rw [he, decide_eq_true rfl, decide_eq_true rfl] at h
  exact h
theorem aw_play {m : Mem} {s a : Value} (hG : RowsAt m s line2) (ha : IntsAt m a (ofs [0, 1, 0])) : ∃ w m', ACalls Tryd.prog 42 #[.agg #[s], a] m (.tuple #[w, nv 0]) m' ∧ IntsAt m' w (ofs [0, 1, 3, 2]) ∧ Ext m m' := by
  obtain ⟨v, m', h, w, rfl, ho, he⟩ := spec_Play hG ha
  have e1 : gPlayE line2 (ofs [0, 1, 0]) = 0 := ev_play
  rw [e1] at h ho
  exact ⟨w, m', h, by have := ho.ints; rwa [ifOk_0 rfl, show playedL (ofs [0, 1, 0]) = [0, 1, 3, 2] from ev_play2] at this, he⟩
theorem aw_play1 {m : Mem} {s a : Value} (hG : RowsAt m s line2) (ha : IntsAt m a (ofs [1])) : ∃ w m', ACalls Tryd.prog 42 #[.agg #[s], a] m (.tuple #[w, nv 15]) m' ∧ (∃ q n c, w = .slice q n c) ∧ Ext m m' := by
  obtain ⟨v, m', h, w, rfl, ho, he⟩ := spec_Play hG ha
  have e1 : gPlayE line2 (ofs [1]) = 15 := ev_play3
  rw [e1] at h
  obtain ⟨q, c, hw⟩ := ho.ints.len
  exact ⟨w, m', h, ⟨q, _, c, hw⟩, he⟩
theorem aw_ben {m : Mem} : ∃ w m', ACalls Tryd.prog 33 #[nv 4] m (.tuple #[w, nv 0]) m' ∧ IntsAt m' w (ofs [0, 1, 0, 2, 3, 2, 0, 1, 0]) ∧ Ext m m' := by
  obtain ⟨v, m', h, w, rfl, ho, he⟩ := spec_Bennett (m := m) (n := 4)
  exact ⟨w, m', h, by have := ho.ints; rwa [show ifOk (benE 4) (benM (4 : Int).toNat) [] = benM 4 from rfl, ev_ben] at this, he⟩
theorem aw_plain {m : Mem} {s a : Value} (hG : RowsAt m s line4) (ha : IntsAt m a (ofs [3])) : ∃ w m', ACalls Tryd.prog 38 #[.agg #[s], a] m (.tuple #[w, nv 0]) m' ∧ IntsAt m' w (ofs [0, 1, 2, 3, 2, 1, 0]) ∧ Ext m m' := by
  obtain ⟨v, m', h, w, rfl, ho, he⟩ := spec_Plain hG ha (by decide)
  have e1 : withE line4 (ofs [3]) = 0 := ev_with
  rw [e1] at h ho
  exact ⟨w, m', h, by have := ho.ints; rwa [ifOk_0 rfl, show plainM line4 (ofs [3]) = _ from ev_plain] at this, he⟩
theorem aw_least {m : Mem} {s a : Value} (hG : RowsAt m s line4) (ha : IntsAt m a (ofs [3])) : ∃ m', ACalls Tryd.prog 16 #[.agg #[s], a] m (.tuple #[nv 3, nv 0]) m' ∧ Ext m m' := by
  have et : tradeG line4 (ofs [3]) = [(3, 9), (4, 7)] := ev_trade
  obtain ⟨v, m', h, rfl, he⟩ := spec_Least hG ha (by decide) (fun _ => by rw [et]; simp)
  have e1 : withE line4 (ofs [3]) = 0 := ev_with
  have e2 : leastG line4 (ofs [3]) = 3 := by rw [leastG, et]; rfl
  rw [e1, e2, ifOk_0 rfl] at h
  exact ⟨m', h, he⟩
theorem aw_most {m : Mem} {s a : Value} (hG : RowsAt m s line4) (ha : IntsAt m a (ofs [0, 1, 2, 3, 2, 1, 0])) : ∃ m', ACalls Tryd.prog 44 #[.agg #[s], a] m (.tuple #[nv 4, nv 0]) m' ∧ Ext m m' := by
  obtain ⟨v, m', h, rfl, he⟩ := spec_Most hG ha
  have e1 : gPlayE line4 (ofs [0, 1, 2, 3, 2, 1, 0]) = 0 := ev_most0
  rw [e1, ifOk_0 rfl, show mostM (playedL (ofs [0, 1, 2, 3, 2, 1, 0])) = 4 from ev_most] at h
  exact ⟨m', h, he⟩
theorem aw_trade {m : Mem} {s a : Value} (hG : RowsAt m s line4) (ha : IntsAt m a (ofs [3])) : ∃ w m', ACalls Tryd.prog 20 #[.agg #[s], a] m (.tuple #[w, nv 0]) m' ∧ TwosAt m' w [(3, 9), (4, 7)] ∧ Ext m m' := by
  obtain ⟨v, m', h, w, rfl, ho, he⟩ := spec_Trade hG ha (by decide)
  have e1 : withE line4 (ofs [3]) = 0 := ev_with
  rw [e1] at h ho
  exact ⟨w, m', h, by have := ho.pairs; rwa [ifOk_0 rfl, show tradeG line4 (ofs [3]) = _ from ev_trade] at this, he⟩
theorem aw_short {m : Mem} {s a : Value} (hG : RowsAt m s line4) (ha : IntsAt m a (ofs [3])) : ∃ w m', ACalls Tryd.prog 18 #[.agg #[s], a, nv 3] m (.tuple #[w, nv 0]) m' ∧ IntsAt m' w (ofs [0, 1, 0, 2, 3, 2, 0, 1, 0]) ∧ Ext m m' := by
  obtain ⟨v, m', h, w, rfl, ho, he⟩ := spec_Shortest (k := 3) hG ha (by decide)
  have e1 : shortestE line4 (ofs [3]) 3 = 0 := ev_short0
  rw [e1] at h ho
  exact ⟨w, m', h, by have := ho.ints; rwa [ifOk_0 rfl, show shortestG line4 (ofs [3]) 3 = _ from ev_short] at this, he⟩
theorem aw_closed {m : Mem} {s : Value} (hG : RowsAt m s line4) : ∃ w m', ACalls Tryd.prog 25 #[.agg #[s], nv 2] m (.tuple #[w, nv 0]) m' ∧ IntsAt m' w (ofs [0, 1, 2, 3, 6]) ∧ Ext m m' := by
  obtain ⟨v, m', h, w, rfl, ho, he⟩ := spec_Closed (k := 2) hG
  rw [ev_closed0] at h ho
  exact ⟨w, m', h, by have := ho.ints; rwa [ifOk_0 rfl, ev_closed] at this, he⟩
theorem aw_shows {m : Mem} {s a b : Value} (hGl : GlobP m) (hG : RowsAt m s line4) (ha : IntsAt m a (ofs [3])) (hb : IntsAt m b (ofs [0, 1, 2, 3, 6])) : ∃ m', ACalls Tryd.prog 27 #[.agg #[s], a, nv 2, b] m (.tuple #[.bool true, nv 0]) m' ∧ Ext m m' := by
  obtain ⟨v, m', h, rfl, he⟩ := spec_Shows (k := 2) hGl hG ha (by decide) hb (by decide)
  have e1 : showsE line4 (ofs [3]) 2 (ofs [0, 1, 2, 3, 6]) = 0 := ev_shows0
  have e2 : showsG line4 (ofs [3]) 2 (ofs [0, 1, 2, 3, 6]) = true := ev_shows
  rw [e1, e2] at h
  exact ⟨m', h, he⟩
abbrev circ2 : List GateV := [(1, [0], 0, 0), (9, [0, 1], 0, 0), (1, [0], 0, 0)]
theorem aw_circ {m : Mem} {s a : Value} (hG : RowsAt m s line2) (ha : IntsAt m a (ofs [0, 1, 0])) : ∃ w m', ACalls Tryd.prog 48 #[.agg #[s], a] m (.tuple #[.agg #[nv 2, nv 0, w], nv 0]) m' ∧ GatesAt m' w circ2 ∧ Ext m m' := by
  obtain ⟨v, m', h, w, cs, rfl, ho, he⟩ := spec_Circuit hG ha
  have e1 : gPlayE line2 (ofs [0, 1, 0]) = 0 := ev_play
  rw [e1] at h ho
  refine ⟨w, m', h, ?_, he⟩
  have := ho.gates
  rwa [ifOk_0 rfl, show circG line2 (ofs [0, 1, 0]) = _ from ev_circ, show List.map gvM [(1, [0]), (9, [0, 1]), (1, [0])] = circ2 from rfl] at this
theorem aw_sameC {m : Mem} {a b : Value} (ha : GatesAt m a circ2) (hb : GatesAt m b circ2) : ∃ m', ACalls Tryd.prog 50 #[.agg #[nv 2, nv 0, a], .agg #[nv 2, nv 0, b]] m (.bool true) m' ∧ Ext m m' := by
  obtain ⟨v, m', h, rfl, he⟩ := spec_Same (W := 2) (B := 0) (W' := 2) (B' := 0) ha hb (by decide) (by decide)
  rw [decide_eq_true ⟨rfl, rfl, rfl⟩] at h
  exact ⟨m', h, he⟩
theorem aw_sameP {m : Mem} {a b : Value} {l : List (Nat × Nat)} (ha : TwosAt m a l) (hb : TwosAt m b l) (hl : l.length < 1000) : ACalls Tryd.prog 23 #[a, b] m (.bool true) m := by
  have := spec_EqualP ha hb (by omega)
  rwa [decide_eq_true rfl] at this



end Go.AM

/-! ### P21 -/
namespace Go.AM
open Go.Proofs
set_option maxRecDepth 100000
set_option linter.unusedVariables false
set_option linter.unusedSimpArgs false
theorem B57_2 {n c : Nat} {q : Option Addr} {k : Nat} : aBuild Tryd.prog 57 [(0, nv k), (2, .slice q n c)] = some (.agg #[nv k, nv 0, .slice q n c]) := by kernel_rfl

theorem okf13 : okF Tryd.prog H0 13 206 = true := by kernel_rfl
theorem spec_awake {m : Mem} (hGl : GlobP m) : ∃ v m', ACalls Tryd.prog 13 #[] m v m' ∧ (v = .bool true ∧ Ext m m') := by
  refine wpF (args := []) mixed okf13 (fn := Tryd.f13) rfl rfl rfl (by simp) ?_
  refine cSeq ?_
  refine cRegion ?_
  refine sAs (v := .bool _) rfl ?_
  have E : Ext m m := .refl _
  refine sNil (kSeqN ?_)
  refine cSeq ?_
  refine cRegion ?_
  obtain ⟨wA, mA, h_, rA, e_⟩ := aw_line4 (m := m)
  obtain ⟨qA, cA, rfl⟩ := rA.len
  refine sCall1 rfl call29 rfl h_ ?_
  clear h_
  have x_ : Ext m mA := e_
  replace E := E.trans x_
  replace hGl := hGl.ext x_
  clear x_
  clear e_
  refine sMv (v := .tuple _) rfl ?_
  refine sP (v := .agg _) rfl ?_   -- extract ['t22', '0']
  refine sP (v := nv _) rfl ?_   -- extract ['t22', '1']
  refine sAlloc Z24 (by kernel_rfl) ?_
  refine sStNA S24 rfl rfl rfl rfl (by kernel_rfl) ?_
  have x_ : Ext mA (mA.push (.cells true #[.slice qA 4 cA])) := .push _ _
  replace E := E.trans x_
  replace hGl := hGl.ext x_
  replace rA := rA.ext x_
  clear x_
  have gA : Mem.get (mA.push (.cells true #[.slice qA 4 cA])) mA.size = .cells true #[.slice qA 4 cA] := gP rfl
  refine sAs (v := nv _) rfl ?_
  refine sNil (kSeqN ?_)
  refine cSeq ?_
  refine cRegion ?_
  obtain ⟨wB, mB, h_, rB, e_⟩ := aw_tree (m := (mA.push (.cells true #[.slice qA 4 cA])))
  obtain ⟨qB, cB, rfl⟩ := rB.len
  refine sCall1 rfl call31 rfl h_ ?_
  clear h_
  have x_ : Ext (mA.push (.cells true #[.slice qA 4 cA])) mB := e_
  replace E := E.trans x_
  replace hGl := hGl.ext x_
  replace rA := rA.ext x_
  replace gA := x_.cells gA
  clear x_
  clear e_
  refine sMv (v := .tuple _) rfl ?_
  refine sP (v := .agg _) rfl ?_   -- extract ['t26', '0']
  refine sP (v := nv _) rfl ?_   -- extract ['t26', '1']
  refine sAlloc Z24 (by kernel_rfl) ?_
  refine sStNA S24 rfl rfl rfl rfl (by kernel_rfl) ?_
  have x_ : Ext mB (mB.push (.cells true #[.slice qB 3 cB])) := .push _ _
  replace E := E.trans x_
  replace hGl := hGl.ext x_
  replace rA := rA.ext x_
  replace gA := x_.cells gA
  replace rB := rB.ext x_
  clear x_
  have gB : Mem.get (mB.push (.cells true #[.slice qB 3 cB])) mB.size = .cells true #[.slice qB 3 cB] := gP rfl
  refine sAs (v := nv _) rfl ?_
  refine sNil (kSeqN ?_)
  refine cSeq ?_   -- seq 3
  refine cSeq ?_
  refine cRegion ?_
  refine sMv (v := nv _) rfl ?_
  refine sBin (v := .bool false) (a := 0) (b := 0) rfl rfl (neqF rfl) ?_
  refine sMv (v := .bool _) rfl ?_
  refine sG rfl rfl ?_
  refine sMv (v := nv _) rfl ?_
  refine sG rfl rfl ?_
  refine sBin (v := .bool false) (a := 0) (b := 0) rfl rfl (neqF rfl) ?_
  refine sP (v := .bool false) rfl ?_
  refine sMv (v := .bool _) rfl ?_
  refine sG rfl rfl ?_
  refine sLdAll A24 S24 rfl gA rfl ?_
  refine sG rfl rfl ?_
  refine sBuildS (c := cellsN [0]) T25 S3 Z3 (by decide) (by decide) (by decide) (by kernel_rfl) (by kernel_rfl) rfl ?_
  have x_ : Ext (mB.push (.cells true #[.slice qB 3 cB])) ((mB.push (.cells true #[.slice qB 3 cB])).push (.cells true (cellsN [0]))) := .push _ _
  replace E := E.trans x_
  replace hGl := hGl.ext x_
  replace rA := rA.ext x_
  replace gA := x_.cells gA
  replace rB := rB.ext x_
  replace gB := x_.cells gB
  clear x_
  have i38 : IntsAt ((mB.push (.cells true #[.slice qB 3 cB])).push (.cells true (cellsN [0]))) (.slice (some ⟨(mB.push (.cells true #[.slice qB 3 cB])).size, 0, some 1⟩) 1 1) (ofs [0]) := new_ints
  refine sG rfl rfl ?_
  refine sBuildS (c := cellsN [1]) T25 S3 Z3 (by decide) (by decide) (by decide) (by kernel_rfl) (by kernel_rfl) rfl ?_
  have x_ : Ext ((mB.push (.cells true #[.slice qB 3 cB])).push (.cells true (cellsN [0]))) (((mB.push (.cells true #[.slice qB 3 cB])).push (.cells true (cellsN [0]))).push (.cells true (cellsN [1]))) := .push _ _
  replace E := E.trans x_
  replace hGl := hGl.ext x_
  replace rA := rA.ext x_
  replace gA := x_.cells gA
  replace rB := rB.ext x_
  replace gB := x_.cells gB
  replace i38 := i38.ext x_
  clear x_
  have i39 : IntsAt (((mB.push (.cells true #[.slice qB 3 cB])).push (.cells true (cellsN [0]))).push (.cells true (cellsN [1]))) (.slice (some ⟨((mB.push (.cells true #[.slice qB 3 cB])).push (.cells true (cellsN [0]))).size, 0, some 1⟩) 1 1) (ofs [1]) := new_ints
  refine sG rfl rfl ?_
  refine sBuildS (c := cellsN [2]) T25 S3 Z3 (by decide) (by decide) (by decide) (by kernel_rfl) (by kernel_rfl) rfl ?_
  have x_ : Ext (((mB.push (.cells true #[.slice qB 3 cB])).push (.cells true (cellsN [0]))).push (.cells true (cellsN [1]))) ((((mB.push (.cells true #[.slice qB 3 cB])).push (.cells true (cellsN [0]))).push (.cells true (cellsN [1]))).push (.cells true (cellsN [2]))) := .push _ _
  replace E := E.trans x_
  replace hGl := hGl.ext x_
  replace rA := rA.ext x_
  replace gA := x_.cells gA
  replace rB := rB.ext x_
  replace gB := x_.cells gB
  replace i38 := i38.ext x_
  replace i39 := i39.ext x_
  clear x_
  have i40 : IntsAt ((((mB.push (.cells true #[.slice qB 3 cB])).push (.cells true (cellsN [0]))).push (.cells true (cellsN [1]))).push (.cells true (cellsN [2]))) (.slice (some ⟨(((mB.push (.cells true #[.slice qB 3 cB])).push (.cells true (cellsN [0]))).push (.cells true (cellsN [1]))).size, 0, some 1⟩) 1 1) (ofs [2]) := new_ints
  refine sG rfl rfl ?_
  refine sBuildS (c := #[.slice none 0 0, (.slice (some ⟨(mB.push (.cells true #[.slice qB 3 cB])).size, 0, some 1⟩) 1 1), (.slice (some ⟨((mB.push (.cells true #[.slice qB 3 cB])).push (.cells true (cellsN [0]))).size, 0, some 1⟩) 1 1), (.slice (some ⟨(((mB.push (.cells true #[.slice qB 3 cB])).push (.cells true (cellsN [0]))).push (.cells true (cellsN [1]))).size, 0, some 1⟩) 1 1)]) T22 S25 Z25 (by decide) (by decide) (by decide) (by kernel_rfl) (by kernel_rfl) rfl ?_
  have x_ : Ext ((((mB.push (.cells true #[.slice qB 3 cB])).push (.cells true (cellsN [0]))).push (.cells true (cellsN [1]))).push (.cells true (cellsN [2]))) (((((mB.push (.cells true #[.slice qB 3 cB])).push (.cells true (cellsN [0]))).push (.cells true (cellsN [1]))).push (.cells true (cellsN [2]))).push (.cells true #[.slice none 0 0, (.slice (some ⟨(mB.push (.cells true #[.slice qB 3 cB])).size, 0, some 1⟩) 1 1), (.slice (some ⟨((mB.push (.cells true #[.slice qB 3 cB])).push (.cells true (cellsN [0]))).size, 0, some 1⟩) 1 1), (.slice (some ⟨(((mB.push (.cells true #[.slice qB 3 cB])).push (.cells true (cellsN [0]))).push (.cells true (cellsN [1]))).size, 0, some 1⟩) 1 1)])) := .push _ _
  replace E := E.trans x_
  replace hGl := hGl.ext x_
  replace rA := rA.ext x_
  replace gA := x_.cells gA
  replace rB := rB.ext x_
  replace gB := x_.cells gB
  replace i38 := i38.ext x_
  replace i39 := i39.ext x_
  replace i40 := i40.ext x_
  clear x_
  have r41 : RowsAt (((((mB.push (.cells true #[.slice qB 3 cB])).push (.cells true (cellsN [0]))).push (.cells true (cellsN [1]))).push (.cells true (cellsN [2]))).push (.cells true #[.slice none 0 0, (.slice (some ⟨(mB.push (.cells true #[.slice qB 3 cB])).size, 0, some 1⟩) 1 1), (.slice (some ⟨((mB.push (.cells true #[.slice qB 3 cB])).push (.cells true (cellsN [0]))).size, 0, some 1⟩) 1 1), (.slice (some ⟨(((mB.push (.cells true #[.slice qB 3 cB])).push (.cells true (cellsN [0]))).push (.cells true (cellsN [1]))).size, 0, some 1⟩) 1 1)])) (.slice (some ⟨((((mB.push (.cells true #[.slice qB 3 cB])).push (.cells true (cellsN [0]))).push (.cells true (cellsN [1]))).push (.cells true (cellsN [2]))).size, 0, some 1⟩) 4 4) line4 := by
    refine .inr ⟨_, 0, 4, true, _, rfl, gP rfl, fun i g hi => ?_⟩
    match i, hi with
    | 0, hi => cases hi; exact ⟨_, rfl, .inl ⟨rfl, .inl rfl⟩⟩
    | 1, hi => cases hi; exact ⟨_, rfl, i38⟩
    | 2, hi => cases hi; exact ⟨_, rfl, i39⟩
    | 3, hi => cases hi; exact ⟨_, rfl, i40⟩
    | i + 4, hi => simp at hi
  refine sG rfl rfl ?_
  refine sBuild B24_1 ?_
  refine sG rfl rfl ?_
  obtain ⟨m43, h_, e_⟩ := aw_same rA r41 (by decide) (by decide)
  refine sCall2 rfl call24 rfl rfl h_ ?_
  clear h_
  have x_ : Ext (((((mB.push (.cells true #[.slice qB 3 cB])).push (.cells true (cellsN [0]))).push (.cells true (cellsN [1]))).push (.cells true (cellsN [2]))).push (.cells true #[.slice none 0 0, (.slice (some ⟨(mB.push (.cells true #[.slice qB 3 cB])).size, 0, some 1⟩) 1 1), (.slice (some ⟨((mB.push (.cells true #[.slice qB 3 cB])).push (.cells true (cellsN [0]))).size, 0, some 1⟩) 1 1), (.slice (some ⟨(((mB.push (.cells true #[.slice qB 3 cB])).push (.cells true (cellsN [0]))).push (.cells true (cellsN [1]))).size, 0, some 1⟩) 1 1)])) m43 := e_
  replace E := E.trans x_
  replace hGl := hGl.ext x_
  replace rA := rA.ext x_
  replace gA := x_.cells gA
  replace rB := rB.ext x_
  replace gB := x_.cells gB
  replace i38 := i38.ext x_
  replace i39 := i39.ext x_
  replace i40 := i40.ext x_
  replace r41 := r41.ext x_
  clear x_
  clear e_
  refine sG rfl rfl ?_
  refine sP (v := .bool false) rfl ?_
  refine sP (v := .bool false) rfl ?_
  refine sMv (v := .bool _) rfl ?_
  refine sG rfl rfl ?_
  refine sLdAll A24 S24 rfl gB rfl ?_
  refine sG rfl rfl ?_
  refine sBuildS (c := cellsN [0, 1]) T25 S3 Z3 (by decide) (by decide) (by decide) (by kernel_rfl) (by kernel_rfl) rfl ?_
  have x_ : Ext m43 (m43.push (.cells true (cellsN [0, 1]))) := .push _ _
  replace E := E.trans x_
  replace hGl := hGl.ext x_
  replace rA := rA.ext x_
  replace gA := x_.cells gA
  replace rB := rB.ext x_
  replace gB := x_.cells gB
  clear x_
  have i48 : IntsAt (m43.push (.cells true (cellsN [0, 1]))) (.slice (some ⟨m43.size, 0, some 1⟩) 2 2) (ofs [0, 1]) := new_ints
  refine sG rfl rfl ?_
  refine sBuildS (c := #[.slice none 0 0, .slice none 0 0, (.slice (some ⟨m43.size, 0, some 1⟩) 2 2)]) T22 S25 Z25 (by decide) (by decide) (by decide) (by kernel_rfl) (by kernel_rfl) rfl ?_
  have x_ : Ext (m43.push (.cells true (cellsN [0, 1]))) ((m43.push (.cells true (cellsN [0, 1]))).push (.cells true #[.slice none 0 0, .slice none 0 0, (.slice (some ⟨m43.size, 0, some 1⟩) 2 2)])) := .push _ _
  replace E := E.trans x_
  replace hGl := hGl.ext x_
  replace rA := rA.ext x_
  replace gA := x_.cells gA
  replace rB := rB.ext x_
  replace gB := x_.cells gB
  replace i48 := i48.ext x_
  clear x_
  have r49 : RowsAt ((m43.push (.cells true (cellsN [0, 1]))).push (.cells true #[.slice none 0 0, .slice none 0 0, (.slice (some ⟨m43.size, 0, some 1⟩) 2 2)])) (.slice (some ⟨(m43.push (.cells true (cellsN [0, 1]))).size, 0, some 1⟩) 3 3) [[], [], [0, 1]] := by
    refine .inr ⟨_, 0, 3, true, _, rfl, gP rfl, fun i g hi => ?_⟩
    match i, hi with
    | 0, hi => cases hi; exact ⟨_, rfl, .inl ⟨rfl, .inl rfl⟩⟩
    | 1, hi => cases hi; exact ⟨_, rfl, .inl ⟨rfl, .inl rfl⟩⟩
    | 2, hi => cases hi; exact ⟨_, rfl, i48⟩
    | i + 3, hi => simp at hi
  refine sG rfl rfl ?_
  refine sBuild B24_1 ?_
  refine sG rfl rfl ?_
  obtain ⟨m51, h_, e_⟩ := aw_same rB r49 (by decide) (by decide)
  refine sCall2 rfl call24 rfl rfl h_ ?_
  clear h_
  have x_ : Ext ((m43.push (.cells true (cellsN [0, 1]))).push (.cells true #[.slice none 0 0, .slice none 0 0, (.slice (some ⟨m43.size, 0, some 1⟩) 2 2)])) m51 := e_
  replace E := E.trans x_
  replace hGl := hGl.ext x_
  replace rA := rA.ext x_
  replace gA := x_.cells gA
  replace rB := rB.ext x_
  replace gB := x_.cells gB
  replace i48 := i48.ext x_
  replace r49 := r49.ext x_
  clear x_
  clear e_
  refine sG rfl rfl ?_
  refine sP (v := .bool false) rfl ?_
  refine sP (v := .bool false) rfl ?_
  refine sNil (kSeqN ?_)
  refine cCondF rfl ?_
  refine cSkip (kSeqN ?_)
  refine cSeq ?_
  refine cRegion ?_
  obtain ⟨wD, mD, h_, rD, e_⟩ := aw_line2 (m := m51)
  obtain ⟨qD, cD, rfl⟩ := rD.len
  refine sCall1 rfl call29 rfl h_ ?_
  clear h_
  have x_ : Ext m51 mD := e_
  replace E := E.trans x_
  replace hGl := hGl.ext x_
  replace rA := rA.ext x_
  replace gA := x_.cells gA
  clear x_
  clear e_
  refine sMv (v := .tuple _) rfl ?_
  refine sP (v := .agg _) rfl ?_   -- extract ['t54', '0']
  refine sP (v := nv _) rfl ?_   -- extract ['t54', '1']
  refine sAlloc Z24 (by kernel_rfl) ?_
  refine sStNA S24 rfl rfl rfl rfl (by kernel_rfl) ?_
  have x_ : Ext mD (mD.push (.cells true #[.slice qD 2 cD])) := .push _ _
  replace E := E.trans x_
  replace hGl := hGl.ext x_
  replace rA := rA.ext x_
  replace gA := x_.cells gA
  replace rD := rD.ext x_
  clear x_
  have gD : Mem.get (mD.push (.cells true #[.slice qD 2 cD])) mD.size = .cells true #[.slice qD 2 cD] := gP rfl
  refine sAs (v := nv _) rfl ?_
  refine sNil (kSeqN ?_)
  refine cSeq ?_
  refine cRegion ?_
  refine sLdAll A24 S24 rfl gD rfl ?_
  refine sBuildS (c := cellsN [0, 1, 0]) T25 S3 Z3 (by decide) (by decide) (by decide) (by kernel_rfl) (by kernel_rfl) rfl ?_
  have x_ : Ext (mD.push (.cells true #[.slice qD 2 cD])) ((mD.push (.cells true #[.slice qD 2 cD])).push (.cells true (cellsN [0, 1, 0]))) := .push _ _
  replace E := E.trans x_
  replace hGl := hGl.ext x_
  replace rA := rA.ext x_
  replace gA := x_.cells gA
  replace rD := rD.ext x_
  replace gD := x_.cells gD
  clear x_
  have j : IntsAt ((mD.push (.cells true #[.slice qD 2 cD])).push (.cells true (cellsN [0, 1, 0]))) (.slice (some ⟨(mD.push (.cells true #[.slice qD 2 cD])).size, 0, some 1⟩) 3 3) (ofs [0, 1, 0]) := new_ints
  obtain ⟨w61, m61, h_, i61, e_⟩ := aw_play rD j
  obtain ⟨q61, c61, rfl⟩ := i61.lenN
  refine sCall2 rfl call42 rfl rfl h_ ?_
  clear h_
  have x_ : Ext ((mD.push (.cells true #[.slice qD 2 cD])).push (.cells true (cellsN [0, 1, 0]))) m61 := e_
  replace E := E.trans x_
  replace hGl := hGl.ext x_
  replace rA := rA.ext x_
  replace gA := x_.cells gA
  replace rD := rD.ext x_
  replace gD := x_.cells gD
  replace j := j.ext x_
  clear x_
  clear e_
  refine sMv (v := .tuple _) rfl ?_
  refine sP (v := .slice _ _ _) rfl ?_   -- extract ['t58', '0']
  refine sP (v := nv _) rfl ?_   -- extract ['t58', '1']
  refine sAs (v := .slice _ _ _) rfl ?_
  refine sAs (v := nv _) rfl ?_
  refine sNil (kSeqN ?_)
  refine cSeq ?_
  refine cRegion ?_
  refine sLdAll A24 S24 rfl gD rfl ?_
  refine sBuildS (c := cellsN [1]) T25 S3 Z3 (by decide) (by decide) (by decide) (by kernel_rfl) (by kernel_rfl) rfl ?_
  have x_ : Ext m61 (m61.push (.cells true (cellsN [1]))) := .push _ _
  replace E := E.trans x_
  replace hGl := hGl.ext x_
  replace rA := rA.ext x_
  replace gA := x_.cells gA
  replace rD := rD.ext x_
  replace gD := x_.cells gD
  replace i61 := i61.ext x_
  clear x_
  have j : IntsAt (m61.push (.cells true (cellsN [1]))) (.slice (some ⟨m61.size, 0, some 1⟩) 1 1) (ofs [1]) := new_ints
  obtain ⟨w67, m67, h_, ⟨q67, n67, c67, rfl⟩, e_⟩ := aw_play1 rD j
  refine sCall2 rfl call42 rfl rfl h_ ?_
  clear h_
  have x_ : Ext (m61.push (.cells true (cellsN [1]))) m67 := e_
  replace E := E.trans x_
  replace hGl := hGl.ext x_
  replace rA := rA.ext x_
  replace gA := x_.cells gA
  replace rD := rD.ext x_
  replace gD := x_.cells gD
  replace i61 := i61.ext x_
  replace j := j.ext x_
  clear x_
  clear e_
  refine sMv (v := .tuple _) rfl ?_
  refine sP (v := .slice _ _ _) rfl ?_   -- extract ['t64', '0']
  refine sP (v := nv _) rfl ?_   -- extract ['t64', '1']
  refine sAs (v := nv _) rfl ?_
  refine sNil (kSeqN ?_)
  refine cSeq ?_
  refine cRegion ?_
  obtain ⟨w71, m71, h_, i71, e_⟩ := aw_ben (m := m67)
  obtain ⟨q71, c71, rfl⟩ := i71.lenN
  refine sCall1 rfl call33 rfl h_ ?_
  clear h_
  have x_ : Ext m67 m71 := e_
  replace E := E.trans x_
  replace hGl := hGl.ext x_
  replace rA := rA.ext x_
  replace gA := x_.cells gA
  replace rD := rD.ext x_
  replace gD := x_.cells gD
  replace i61 := i61.ext x_
  clear x_
  clear e_
  refine sMv (v := .tuple _) rfl ?_
  refine sP (v := .slice _ _ _) rfl ?_   -- extract ['t70', '0']
  refine sP (v := nv _) rfl ?_   -- extract ['t70', '1']
  refine sAs (v := .slice _ _ _) rfl ?_
  refine sAs (v := nv _) rfl ?_
  refine sNil (kSeqN ?_)
  refine cSeq ?_
  refine cRegion ?_
  refine sLdAll A24 S24 rfl gA rfl ?_
  refine sBuildS (c := cellsN [3]) T25 S3 Z3 (by decide) (by decide) (by decide) (by kernel_rfl) (by kernel_rfl) rfl ?_
  have x_ : Ext m71 (m71.push (.cells true (cellsN [3]))) := .push _ _
  replace E := E.trans x_
  replace hGl := hGl.ext x_
  replace rA := rA.ext x_
  replace gA := x_.cells gA
  replace rD := rD.ext x_
  replace gD := x_.cells gD
  replace i61 := i61.ext x_
  replace i71 := i71.ext x_
  clear x_
  have j : IntsAt (m71.push (.cells true (cellsN [3]))) (.slice (some ⟨m71.size, 0, some 1⟩) 1 1) (ofs [3]) := new_ints
  obtain ⟨w77, m77, h_, i77, e_⟩ := aw_plain rA j
  obtain ⟨q77, c77, rfl⟩ := i77.lenN
  refine sCall2 rfl call38 rfl rfl h_ ?_
  clear h_
  have x_ : Ext (m71.push (.cells true (cellsN [3]))) m77 := e_
  replace E := E.trans x_
  replace hGl := hGl.ext x_
  replace rA := rA.ext x_
  replace gA := x_.cells gA
  replace rD := rD.ext x_
  replace gD := x_.cells gD
  replace i61 := i61.ext x_
  replace i71 := i71.ext x_
  replace j := j.ext x_
  clear x_
  clear e_
  refine sMv (v := .tuple _) rfl ?_
  refine sP (v := .slice _ _ _) rfl ?_   -- extract ['t74', '0']
  refine sP (v := nv _) rfl ?_   -- extract ['t74', '1']
  refine sAs (v := .slice _ _ _) rfl ?_
  refine sAs (v := nv _) rfl ?_
  refine sNil (kSeqN ?_)
  refine cSeq ?_
  refine cRegion ?_
  refine sLdAll A24 S24 rfl gA rfl ?_
  refine sBuildS (c := cellsN [3]) T25 S3 Z3 (by decide) (by decide) (by decide) (by kernel_rfl) (by kernel_rfl) rfl ?_
  have x_ : Ext m77 (m77.push (.cells true (cellsN [3]))) := .push _ _
  replace E := E.trans x_
  replace hGl := hGl.ext x_
  replace rA := rA.ext x_
  replace gA := x_.cells gA
  replace rD := rD.ext x_
  replace gD := x_.cells gD
  replace i61 := i61.ext x_
  replace i71 := i71.ext x_
  replace i77 := i77.ext x_
  clear x_
  have j : IntsAt (m77.push (.cells true (cellsN [3]))) (.slice (some ⟨m77.size, 0, some 1⟩) 1 1) (ofs [3]) := new_ints
  obtain ⟨m83, h_, e_⟩ := aw_least rA j
  refine sCall2 rfl call16 rfl rfl h_ ?_
  clear h_
  have x_ : Ext (m77.push (.cells true (cellsN [3]))) m83 := e_
  replace E := E.trans x_
  replace hGl := hGl.ext x_
  replace rA := rA.ext x_
  replace gA := x_.cells gA
  replace rD := rD.ext x_
  replace gD := x_.cells gD
  replace i61 := i61.ext x_
  replace i71 := i71.ext x_
  replace i77 := i77.ext x_
  replace j := j.ext x_
  clear x_
  clear e_
  refine sMv (v := .tuple _) rfl ?_
  refine sP (v := nv _) rfl ?_   -- extract ['t80', '0']
  refine sP (v := nv _) rfl ?_   -- extract ['t80', '1']
  refine sAs (v := nv _) rfl ?_
  refine sAs (v := nv _) rfl ?_
  refine sNil (kSeqN ?_)
  refine cSeq ?_
  refine cRegion ?_
  refine sLdAll A24 S24 rfl gA rfl ?_
  refine sBuildS (c := cellsN [0, 1, 2, 3, 2, 1, 0]) T25 S3 Z3 (by decide) (by decide) (by decide) (by kernel_rfl) (by kernel_rfl) rfl ?_
  have x_ : Ext m83 (m83.push (.cells true (cellsN [0, 1, 2, 3, 2, 1, 0]))) := .push _ _
  replace E := E.trans x_
  replace hGl := hGl.ext x_
  replace rA := rA.ext x_
  replace gA := x_.cells gA
  replace rD := rD.ext x_
  replace gD := x_.cells gD
  replace i61 := i61.ext x_
  replace i71 := i71.ext x_
  replace i77 := i77.ext x_
  clear x_
  have j : IntsAt (m83.push (.cells true (cellsN [0, 1, 2, 3, 2, 1, 0]))) (.slice (some ⟨m83.size, 0, some 1⟩) 7 7) (ofs [0, 1, 2, 3, 2, 1, 0]) := new_ints
  obtain ⟨m89, h_, e_⟩ := aw_most rA j
  refine sCall2 rfl call44 rfl rfl h_ ?_
  clear h_
  have x_ : Ext (m83.push (.cells true (cellsN [0, 1, 2, 3, 2, 1, 0]))) m89 := e_
  replace E := E.trans x_
  replace hGl := hGl.ext x_
  replace rA := rA.ext x_
  replace gA := x_.cells gA
  replace rD := rD.ext x_
  replace gD := x_.cells gD
  replace i61 := i61.ext x_
  replace i71 := i71.ext x_
  replace i77 := i77.ext x_
  replace j := j.ext x_
  clear x_
  clear e_
  refine sMv (v := .tuple _) rfl ?_
  refine sP (v := nv _) rfl ?_   -- extract ['t86', '0']
  refine sP (v := nv _) rfl ?_   -- extract ['t86', '1']
  refine sAs (v := nv _) rfl ?_
  refine sAs (v := nv _) rfl ?_
  refine sNil (kSeqN ?_)
  refine cSeq ?_   -- seq 12
  refine cSeq ?_
  refine cRegion ?_
  refine sMv (v := .slice _ _ _) rfl ?_
  refine sMv (v := nv _) rfl ?_
  refine sBuildS (c := cellsN [0, 1, 3, 2]) T25 S3 Z3 (by decide) (by decide) (by decide) (by kernel_rfl) (by kernel_rfl) rfl ?_
  have x_ : Ext m89 (m89.push (.cells true (cellsN [0, 1, 3, 2]))) := .push _ _
  replace E := E.trans x_
  replace hGl := hGl.ext x_
  replace rA := rA.ext x_
  replace gA := x_.cells gA
  replace rD := rD.ext x_
  replace gD := x_.cells gD
  replace i61 := i61.ext x_
  replace i71 := i71.ext x_
  replace i77 := i77.ext x_
  clear x_
  have j : IntsAt (m89.push (.cells true (cellsN [0, 1, 3, 2]))) (.slice (some ⟨m89.size, 0, some 1⟩) 4 4) (ofs [0, 1, 3, 2]) := new_ints
  refine sCall3 rfl call59 rfl rfl rfl (aw_known i61 j (by decide)) ?_
  refine sP (v := .bool false) rfl ?_
  refine sMv (v := .bool _) rfl ?_
  refine sG rfl rfl ?_
  refine sMv (v := nv _) rfl ?_
  refine sG rfl rfl ?_
  refine sBin (v := .bool false) (a := 15) (b := 15) rfl rfl (neqF rfl) ?_
  refine sP (v := .bool false) rfl ?_
  refine sMv (v := .bool _) rfl ?_
  refine sG rfl rfl ?_
  refine sMv (v := .slice _ _ _) rfl ?_
  refine sG rfl rfl ?_
  refine sMv (v := nv _) rfl ?_
  refine sG rfl rfl ?_
  refine sBuildS (c := cellsN [0, 1, 0, 2, 3, 2, 0, 1, 0]) T25 S3 Z3 (by decide) (by decide) (by decide) (by kernel_rfl) (by kernel_rfl) rfl ?_
  have x_ : Ext (m89.push (.cells true (cellsN [0, 1, 3, 2]))) ((m89.push (.cells true (cellsN [0, 1, 3, 2]))).push (.cells true (cellsN [0, 1, 0, 2, 3, 2, 0, 1, 0]))) := .push _ _
  replace E := E.trans x_
  replace hGl := hGl.ext x_
  replace rA := rA.ext x_
  replace gA := x_.cells gA
  replace rD := rD.ext x_
  replace gD := x_.cells gD
  replace i61 := i61.ext x_
  replace i71 := i71.ext x_
  replace i77 := i77.ext x_
  clear x_
  have j : IntsAt ((m89.push (.cells true (cellsN [0, 1, 3, 2]))).push (.cells true (cellsN [0, 1, 0, 2, 3, 2, 0, 1, 0]))) (.slice (some ⟨(m89.push (.cells true (cellsN [0, 1, 3, 2]))).size, 0, some 1⟩) 9 9) (ofs [0, 1, 0, 2, 3, 2, 0, 1, 0]) := new_ints
  refine sG rfl rfl ?_
  refine sCall3 rfl call59 rfl rfl rfl (aw_known i71 j (by decide)) ?_
  refine sG rfl rfl ?_
  refine sP (v := .bool false) rfl ?_
  refine sP (v := .bool false) rfl ?_
  refine sMv (v := .bool _) rfl ?_
  refine sG rfl rfl ?_
  refine sMv (v := .slice _ _ _) rfl ?_
  refine sG rfl rfl ?_
  refine sMv (v := nv _) rfl ?_
  refine sG rfl rfl ?_
  refine sBuildS (c := cellsN [0, 1, 2, 3, 2, 1, 0]) T25 S3 Z3 (by decide) (by decide) (by decide) (by kernel_rfl) (by kernel_rfl) rfl ?_
  have x_ : Ext ((m89.push (.cells true (cellsN [0, 1, 3, 2]))).push (.cells true (cellsN [0, 1, 0, 2, 3, 2, 0, 1, 0]))) (((m89.push (.cells true (cellsN [0, 1, 3, 2]))).push (.cells true (cellsN [0, 1, 0, 2, 3, 2, 0, 1, 0]))).push (.cells true (cellsN [0, 1, 2, 3, 2, 1, 0]))) := .push _ _
  replace E := E.trans x_
  replace hGl := hGl.ext x_
  replace rA := rA.ext x_
  replace gA := x_.cells gA
  replace rD := rD.ext x_
  replace gD := x_.cells gD
  replace i61 := i61.ext x_
  replace i71 := i71.ext x_
  replace i77 := i77.ext x_
  clear x_
  have j : IntsAt (((m89.push (.cells true (cellsN [0, 1, 3, 2]))).push (.cells true (cellsN [0, 1, 0, 2, 3, 2, 0, 1, 0]))).push (.cells true (cellsN [0, 1, 2, 3, 2, 1, 0]))) (.slice (some ⟨((m89.push (.cells true (cellsN [0, 1, 3, 2]))).push (.cells true (cellsN [0, 1, 0, 2, 3, 2, 0, 1, 0]))).size, 0, some 1⟩) 7 7) (ofs [0, 1, 2, 3, 2, 1, 0]) := new_ints
  refine sG rfl rfl ?_
  refine sCall3 rfl call59 rfl rfl rfl (aw_known i77 j (by decide)) ?_
  refine sG rfl rfl ?_
  refine sP (v := .bool false) rfl ?_
  refine sP (v := .bool false) rfl ?_
  refine sMv (v := .bool _) rfl ?_
  refine sG rfl rfl ?_
  refine sMv (v := nv _) rfl ?_
  refine sG rfl rfl ?_
  refine sBin (v := .bool false) (a := 0) (b := 0) rfl rfl (neqF rfl) ?_
  refine sP (v := .bool false) rfl ?_
  refine sMv (v := .bool _) rfl ?_
  refine sG rfl rfl ?_
  refine sMv (v := nv _) rfl ?_
  refine sG rfl rfl ?_
  refine sBin (v := .bool false) (a := 3) (b := 3) rfl rfl (neqF rfl) ?_
  refine sP (v := .bool false) rfl ?_
  refine sMv (v := .bool _) rfl ?_
  refine sG rfl rfl ?_
  refine sMv (v := nv _) rfl ?_
  refine sG rfl rfl ?_
  refine sBin (v := .bool false) (a := 0) (b := 0) rfl rfl (neqF rfl) ?_
  refine sP (v := .bool false) rfl ?_
  refine sMv (v := .bool _) rfl ?_
  refine sG rfl rfl ?_
  refine sMv (v := nv _) rfl ?_
  refine sG rfl rfl ?_
  refine sBin (v := .bool false) (a := 4) (b := 4) rfl rfl (neqF rfl) ?_
  refine sP (v := .bool false) rfl ?_
  refine sNil (kSeqN ?_)
  refine cCondF rfl ?_
  refine cSkip (kSeqN ?_)
  refine cSeq ?_
  refine cRegion ?_
  refine sLdAll A24 S24 rfl gA rfl ?_
  refine sBuildS (c := cellsN [3]) T25 S3 Z3 (by decide) (by decide) (by decide) (by kernel_rfl) (by kernel_rfl) rfl ?_
  have x_ : Ext (((m89.push (.cells true (cellsN [0, 1, 3, 2]))).push (.cells true (cellsN [0, 1, 0, 2, 3, 2, 0, 1, 0]))).push (.cells true (cellsN [0, 1, 2, 3, 2, 1, 0]))) ((((m89.push (.cells true (cellsN [0, 1, 3, 2]))).push (.cells true (cellsN [0, 1, 0, 2, 3, 2, 0, 1, 0]))).push (.cells true (cellsN [0, 1, 2, 3, 2, 1, 0]))).push (.cells true (cellsN [3]))) := .push _ _
  replace E := E.trans x_
  replace hGl := hGl.ext x_
  replace rA := rA.ext x_
  replace gA := x_.cells gA
  replace rD := rD.ext x_
  replace gD := x_.cells gD
  replace i71 := i71.ext x_
  clear x_
  have j : IntsAt ((((m89.push (.cells true (cellsN [0, 1, 3, 2]))).push (.cells true (cellsN [0, 1, 0, 2, 3, 2, 0, 1, 0]))).push (.cells true (cellsN [0, 1, 2, 3, 2, 1, 0]))).push (.cells true (cellsN [3]))) (.slice (some ⟨(((m89.push (.cells true (cellsN [0, 1, 3, 2]))).push (.cells true (cellsN [0, 1, 0, 2, 3, 2, 0, 1, 0]))).push (.cells true (cellsN [0, 1, 2, 3, 2, 1, 0]))).size, 0, some 1⟩) 1 1) (ofs [3]) := new_ints
  obtain ⟨w134, m134, h_, i134, e_⟩ := aw_trade rA j
  obtain ⟨q134, c134, rfl⟩ := i134.len
  refine sCall2 rfl call20 rfl rfl h_ ?_
  clear h_
  have x_ : Ext ((((m89.push (.cells true (cellsN [0, 1, 3, 2]))).push (.cells true (cellsN [0, 1, 0, 2, 3, 2, 0, 1, 0]))).push (.cells true (cellsN [0, 1, 2, 3, 2, 1, 0]))).push (.cells true (cellsN [3]))) m134 := e_
  replace E := E.trans x_
  replace hGl := hGl.ext x_
  replace rA := rA.ext x_
  replace gA := x_.cells gA
  replace rD := rD.ext x_
  replace gD := x_.cells gD
  replace i71 := i71.ext x_
  replace j := j.ext x_
  clear x_
  clear e_
  refine sMv (v := .tuple _) rfl ?_
  refine sP (v := .slice _ _ _) rfl ?_   -- extract ['t131', '0']
  refine sP (v := nv _) rfl ?_   -- extract ['t131', '1']
  refine sAs (v := .slice _ _ _) rfl ?_
  refine sAs (v := nv _) rfl ?_
  refine sNil (kSeqN ?_)
  refine cSeq ?_
  refine cRegion ?_
  refine sLdAll A24 S24 rfl gA rfl ?_
  refine sBuildS (c := cellsN [3]) T25 S3 Z3 (by decide) (by decide) (by decide) (by kernel_rfl) (by kernel_rfl) rfl ?_
  have x_ : Ext m134 (m134.push (.cells true (cellsN [3]))) := .push _ _
  replace E := E.trans x_
  replace hGl := hGl.ext x_
  replace rA := rA.ext x_
  replace gA := x_.cells gA
  replace rD := rD.ext x_
  replace gD := x_.cells gD
  replace i71 := i71.ext x_
  replace i134 := i134.ext x_
  clear x_
  have j : IntsAt (m134.push (.cells true (cellsN [3]))) (.slice (some ⟨m134.size, 0, some 1⟩) 1 1) (ofs [3]) := new_ints
  obtain ⟨w140, m140, h_, i140, e_⟩ := aw_short rA j
  obtain ⟨q140, c140, rfl⟩ := i140.lenN
  refine sCall3 rfl call18 rfl rfl rfl h_ ?_
  clear h_
  have x_ : Ext (m134.push (.cells true (cellsN [3]))) m140 := e_
  replace E := E.trans x_
  replace hGl := hGl.ext x_
  replace rA := rA.ext x_
  replace gA := x_.cells gA
  replace rD := rD.ext x_
  replace gD := x_.cells gD
  replace i71 := i71.ext x_
  replace i134 := i134.ext x_
  replace j := j.ext x_
  clear x_
  clear e_
  refine sMv (v := .tuple _) rfl ?_
  refine sP (v := .slice _ _ _) rfl ?_   -- extract ['t137', '0']
  refine sP (v := nv _) rfl ?_   -- extract ['t137', '1']
  refine sAs (v := .slice _ _ _) rfl ?_
  refine sAs (v := nv _) rfl ?_
  refine sNil (kSeqN ?_)
  refine cSeq ?_
  refine cRegion ?_
  refine sLdAll A24 S24 rfl gA rfl ?_
  obtain ⟨w145, m145, h_, i145, e_⟩ := aw_closed rA
  obtain ⟨q145, c145, rfl⟩ := i145.lenN
  refine sCall2 rfl call25 rfl rfl h_ ?_
  clear h_
  have x_ : Ext m140 m145 := e_
  replace E := E.trans x_
  replace hGl := hGl.ext x_
  replace rA := rA.ext x_
  replace gA := x_.cells gA
  replace rD := rD.ext x_
  replace gD := x_.cells gD
  replace i71 := i71.ext x_
  replace i134 := i134.ext x_
  replace i140 := i140.ext x_
  clear x_
  clear e_
  refine sMv (v := .tuple _) rfl ?_
  refine sP (v := .slice _ _ _) rfl ?_   -- extract ['t143', '0']
  refine sP (v := nv _) rfl ?_   -- extract ['t143', '1']
  refine sAs (v := .slice _ _ _) rfl ?_
  refine sAs (v := nv _) rfl ?_
  refine sNil (kSeqN ?_)
  refine cSeq ?_
  refine cRegion ?_
  refine sLdAll A24 S24 rfl gA rfl ?_
  refine sBuildS (c := cellsN [3]) T25 S3 Z3 (by decide) (by decide) (by decide) (by kernel_rfl) (by kernel_rfl) rfl ?_
  have x_ : Ext m145 (m145.push (.cells true (cellsN [3]))) := .push _ _
  replace E := E.trans x_
  replace hGl := hGl.ext x_
  replace rA := rA.ext x_
  replace gA := x_.cells gA
  replace rD := rD.ext x_
  replace gD := x_.cells gD
  replace i71 := i71.ext x_
  replace i134 := i134.ext x_
  replace i140 := i140.ext x_
  replace i145 := i145.ext x_
  clear x_
  have j : IntsAt (m145.push (.cells true (cellsN [3]))) (.slice (some ⟨m145.size, 0, some 1⟩) 1 1) (ofs [3]) := new_ints
  refine sBuildS (c := cellsN [0, 1, 2, 3, 6]) T25 S3 Z3 (by decide) (by decide) (by decide) (by kernel_rfl) (by kernel_rfl) rfl ?_
  have x_ : Ext (m145.push (.cells true (cellsN [3]))) ((m145.push (.cells true (cellsN [3]))).push (.cells true (cellsN [0, 1, 2, 3, 6]))) := .push _ _
  replace E := E.trans x_
  replace hGl := hGl.ext x_
  replace rA := rA.ext x_
  replace gA := x_.cells gA
  replace rD := rD.ext x_
  replace gD := x_.cells gD
  replace i71 := i71.ext x_
  replace i134 := i134.ext x_
  replace i140 := i140.ext x_
  replace i145 := i145.ext x_
  replace j := j.ext x_
  clear x_
  have j2 : IntsAt ((m145.push (.cells true (cellsN [3]))).push (.cells true (cellsN [0, 1, 2, 3, 6]))) (.slice (some ⟨(m145.push (.cells true (cellsN [3]))).size, 0, some 1⟩) 5 5) (ofs [0, 1, 2, 3, 6]) := new_ints
  obtain ⟨m152, h_, e_⟩ := aw_shows hGl rA j j2
  refine sCall4 rfl call27 rfl rfl rfl rfl h_ ?_
  clear h_
  have x_ : Ext ((m145.push (.cells true (cellsN [3]))).push (.cells true (cellsN [0, 1, 2, 3, 6]))) m152 := e_
  replace E := E.trans x_
  replace hGl := hGl.ext x_
  replace rA := rA.ext x_
  replace gA := x_.cells gA
  replace rD := rD.ext x_
  replace gD := x_.cells gD
  replace i71 := i71.ext x_
  replace i134 := i134.ext x_
  replace i140 := i140.ext x_
  replace i145 := i145.ext x_
  replace j := j.ext x_
  replace j2 := j2.ext x_
  clear x_
  clear e_
  refine sMv (v := .tuple _) rfl ?_
  refine sP (v := .bool _) rfl ?_   -- extract ['t148', '0']
  refine sP (v := nv _) rfl ?_   -- extract ['t148', '1']
  refine sAs (v := .bool _) rfl ?_
  refine sAs (v := nv _) rfl ?_
  refine sNil (kSeqN ?_)
  refine cSeq ?_
  refine cRegion ?_
  refine sLdAll A24 S24 rfl gD rfl ?_
  refine sBuildS (c := cellsN [0, 1, 0]) T25 S3 Z3 (by decide) (by decide) (by decide) (by kernel_rfl) (by kernel_rfl) rfl ?_
  have x_ : Ext m152 (m152.push (.cells true (cellsN [0, 1, 0]))) := .push _ _
  replace E := E.trans x_
  replace hGl := hGl.ext x_
  replace rA := rA.ext x_
  replace gA := x_.cells gA
  replace rD := rD.ext x_
  replace gD := x_.cells gD
  replace i71 := i71.ext x_
  replace i134 := i134.ext x_
  replace i140 := i140.ext x_
  replace i145 := i145.ext x_
  clear x_
  have j : IntsAt (m152.push (.cells true (cellsN [0, 1, 0]))) (.slice (some ⟨m152.size, 0, some 1⟩) 3 3) (ofs [0, 1, 0]) := new_ints
  obtain ⟨w158, m158, h_, i158, e_⟩ := aw_circ rD j
  obtain ⟨q158, c158, rfl⟩ := i158.len
  refine sCall2 rfl call48 rfl rfl h_ ?_
  clear h_
  have x_ : Ext (m152.push (.cells true (cellsN [0, 1, 0]))) m158 := e_
  replace E := E.trans x_
  replace hGl := hGl.ext x_
  replace rA := rA.ext x_
  replace gA := x_.cells gA
  replace rD := rD.ext x_
  replace gD := x_.cells gD
  replace i71 := i71.ext x_
  replace i134 := i134.ext x_
  replace i140 := i140.ext x_
  replace i145 := i145.ext x_
  replace j := j.ext x_
  clear x_
  clear e_
  refine sMv (v := .tuple _) rfl ?_
  refine sP (v := .agg _) rfl ?_   -- extract ['t155', '0']
  refine sP (v := nv _) rfl ?_   -- extract ['t155', '1']
  refine sAlloc Z57 (by kernel_rfl) ?_
  refine sStNA S57 rfl rfl rfl rfl (by kernel_rfl) ?_
  have x_ : Ext m158 (m158.push (.cells true #[nv 2, nv 0, .slice q158 3 c158])) := .push _ _
  replace E := E.trans x_
  replace hGl := hGl.ext x_
  replace rA := rA.ext x_
  replace gA := x_.cells gA
  replace rD := rD.ext x_
  replace gD := x_.cells gD
  replace i71 := i71.ext x_
  replace i134 := i134.ext x_
  replace i140 := i140.ext x_
  replace i145 := i145.ext x_
  replace i158 := i158.ext x_
  clear x_
  have gE : Mem.get (m158.push (.cells true #[nv 2, nv 0, .slice q158 3 c158])) m158.size = .cells true #[nv 2, nv 0, .slice q158 3 c158] := gP rfl
  refine sAs (v := nv _) rfl ?_
  refine sNil (kSeqN ?_)
  refine cSeq ?_
  refine cRegion ?_
  refine sBuildS (c := cellsN [0]) T25 S3 Z3 (by decide) (by decide) (by decide) (by kernel_rfl) (by kernel_rfl) rfl ?_
  have x_ : Ext (m158.push (.cells true #[nv 2, nv 0, .slice q158 3 c158])) ((m158.push (.cells true #[nv 2, nv 0, .slice q158 3 c158])).push (.cells true (cellsN [0]))) := .push _ _
  replace E := E.trans x_
  replace hGl := hGl.ext x_
  replace rA := rA.ext x_
  replace gA := x_.cells gA
  replace rD := rD.ext x_
  replace gD := x_.cells gD
  replace i71 := i71.ext x_
  replace i134 := i134.ext x_
  replace i140 := i140.ext x_
  replace i145 := i145.ext x_
  replace i158 := i158.ext x_
  replace gE := x_.cells gE
  clear x_
  have i1 : IntsAt ((m158.push (.cells true #[nv 2, nv 0, .slice q158 3 c158])).push (.cells true (cellsN [0]))) (.slice (some ⟨(m158.push (.cells true #[nv 2, nv 0, .slice q158 3 c158])).size, 0, some 1⟩) 1 1) (ofs [0]) := new_ints
  refine sBuild B76 ?_
  refine sBuildS (c := cellsN [0, 1]) T25 S3 Z3 (by decide) (by decide) (by decide) (by kernel_rfl) (by kernel_rfl) rfl ?_
  have x_ : Ext ((m158.push (.cells true #[nv 2, nv 0, .slice q158 3 c158])).push (.cells true (cellsN [0]))) (((m158.push (.cells true #[nv 2, nv 0, .slice q158 3 c158])).push (.cells true (cellsN [0]))).push (.cells true (cellsN [0, 1]))) := .push _ _
  replace E := E.trans x_
  replace hGl := hGl.ext x_
  replace rA := rA.ext x_
  replace gA := x_.cells gA
  replace rD := rD.ext x_
  replace gD := x_.cells gD
  replace i71 := i71.ext x_
  replace i134 := i134.ext x_
  replace i140 := i140.ext x_
  replace i145 := i145.ext x_
  replace i158 := i158.ext x_
  replace gE := x_.cells gE
  replace i1 := i1.ext x_
  clear x_
  have i2 : IntsAt (((m158.push (.cells true #[nv 2, nv 0, .slice q158 3 c158])).push (.cells true (cellsN [0]))).push (.cells true (cellsN [0, 1]))) (.slice (some ⟨((m158.push (.cells true #[nv 2, nv 0, .slice q158 3 c158])).push (.cells true (cellsN [0]))).size, 0, some 1⟩) 2 2) (ofs [0, 1]) := new_ints
  refine sBuild B76 ?_
  refine sBuildS (c := cellsN [0]) T25 S3 Z3 (by decide) (by decide) (by decide) (by kernel_rfl) (by kernel_rfl) rfl ?_
  have x_ : Ext (((m158.push (.cells true #[nv 2, nv 0, .slice q158 3 c158])).push (.cells true (cellsN [0]))).push (.cells true (cellsN [0, 1]))) ((((m158.push (.cells true #[nv 2, nv 0, .slice q158 3 c158])).push (.cells true (cellsN [0]))).push (.cells true (cellsN [0, 1]))).push (.cells true (cellsN [0]))) := .push _ _
  replace E := E.trans x_
  replace hGl := hGl.ext x_
  replace rA := rA.ext x_
  replace gA := x_.cells gA
  replace rD := rD.ext x_
  replace gD := x_.cells gD
  replace i71 := i71.ext x_
  replace i134 := i134.ext x_
  replace i140 := i140.ext x_
  replace i145 := i145.ext x_
  replace i158 := i158.ext x_
  replace gE := x_.cells gE
  replace i1 := i1.ext x_
  replace i2 := i2.ext x_
  clear x_
  have i3 : IntsAt ((((m158.push (.cells true #[nv 2, nv 0, .slice q158 3 c158])).push (.cells true (cellsN [0]))).push (.cells true (cellsN [0, 1]))).push (.cells true (cellsN [0]))) (.slice (some ⟨(((m158.push (.cells true #[nv 2, nv 0, .slice q158 3 c158])).push (.cells true (cellsN [0]))).push (.cells true (cellsN [0, 1]))).size, 0, some 1⟩) 1 1) (ofs [0]) := new_ints
  refine sBuild B76 ?_
  refine sBuildS (c := #[nv 1, (.slice (some ⟨(m158.push (.cells true #[nv 2, nv 0, .slice q158 3 c158])).size, 0, some 1⟩) 1 1), nv 0, nv 0, nv 9, (.slice (some ⟨((m158.push (.cells true #[nv 2, nv 0, .slice q158 3 c158])).push (.cells true (cellsN [0]))).size, 0, some 1⟩) 2 2), nv 0, nv 0, nv 1, (.slice (some ⟨(((m158.push (.cells true #[nv 2, nv 0, .slice q158 3 c158])).push (.cells true (cellsN [0]))).push (.cells true (cellsN [0, 1]))).size, 0, some 1⟩) 1 1), nv 0, nv 0]) T55 S76 Z76 (by decide) (by decide) (by decide) (by kernel_rfl) (by kernel_rfl) rfl ?_
  have x_ : Ext ((((m158.push (.cells true #[nv 2, nv 0, .slice q158 3 c158])).push (.cells true (cellsN [0]))).push (.cells true (cellsN [0, 1]))).push (.cells true (cellsN [0]))) (((((m158.push (.cells true #[nv 2, nv 0, .slice q158 3 c158])).push (.cells true (cellsN [0]))).push (.cells true (cellsN [0, 1]))).push (.cells true (cellsN [0]))).push (.cells true #[nv 1, (.slice (some ⟨(m158.push (.cells true #[nv 2, nv 0, .slice q158 3 c158])).size, 0, some 1⟩) 1 1), nv 0, nv 0, nv 9, (.slice (some ⟨((m158.push (.cells true #[nv 2, nv 0, .slice q158 3 c158])).push (.cells true (cellsN [0]))).size, 0, some 1⟩) 2 2), nv 0, nv 0, nv 1, (.slice (some ⟨(((m158.push (.cells true #[nv 2, nv 0, .slice q158 3 c158])).push (.cells true (cellsN [0]))).push (.cells true (cellsN [0, 1]))).size, 0, some 1⟩) 1 1), nv 0, nv 0])) := .push _ _
  replace E := E.trans x_
  replace hGl := hGl.ext x_
  replace rA := rA.ext x_
  replace gA := x_.cells gA
  replace rD := rD.ext x_
  replace gD := x_.cells gD
  replace i71 := i71.ext x_
  replace i134 := i134.ext x_
  replace i140 := i140.ext x_
  replace i145 := i145.ext x_
  replace i158 := i158.ext x_
  replace gE := x_.cells gE
  replace i1 := i1.ext x_
  replace i2 := i2.ext x_
  replace i3 := i3.ext x_
  clear x_
  have iG : GatesAt (((((m158.push (.cells true #[nv 2, nv 0, .slice q158 3 c158])).push (.cells true (cellsN [0]))).push (.cells true (cellsN [0, 1]))).push (.cells true (cellsN [0]))).push (.cells true #[nv 1, (.slice (some ⟨(m158.push (.cells true #[nv 2, nv 0, .slice q158 3 c158])).size, 0, some 1⟩) 1 1), nv 0, nv 0, nv 9, (.slice (some ⟨((m158.push (.cells true #[nv 2, nv 0, .slice q158 3 c158])).push (.cells true (cellsN [0]))).size, 0, some 1⟩) 2 2), nv 0, nv 0, nv 1, (.slice (some ⟨(((m158.push (.cells true #[nv 2, nv 0, .slice q158 3 c158])).push (.cells true (cellsN [0]))).push (.cells true (cellsN [0, 1]))).size, 0, some 1⟩) 1 1), nv 0, nv 0])) (.slice (some ⟨((((m158.push (.cells true #[nv 2, nv 0, .slice q158 3 c158])).push (.cells true (cellsN [0]))).push (.cells true (cellsN [0, 1]))).push (.cells true (cellsN [0]))).size, 0, some 4⟩) 3 3) circ2 := by
    refine .inr ⟨_, 3, true, _, rfl, gP rfl, fun i g hi => ?_⟩
    match i, hi with
    | 0, hi => cases hi; exact ⟨⟨_, rfl, i1⟩, by simp⟩
    | 1, hi => cases hi; exact ⟨⟨_, rfl, i2⟩, by simp⟩
    | 2, hi => cases hi; exact ⟨⟨_, rfl, i3⟩, by simp⟩
    | i + 3, hi => simp at hi
  refine sBuild B57_2 ?_
  refine sAlloc Z57 (by kernel_rfl) ?_
  refine sStNA S57 rfl rfl rfl rfl (by kernel_rfl) ?_
  have x_ : Ext (((((m158.push (.cells true #[nv 2, nv 0, .slice q158 3 c158])).push (.cells true (cellsN [0]))).push (.cells true (cellsN [0, 1]))).push (.cells true (cellsN [0]))).push (.cells true #[nv 1, (.slice (some ⟨(m158.push (.cells true #[nv 2, nv 0, .slice q158 3 c158])).size, 0, some 1⟩) 1 1), nv 0, nv 0, nv 9, (.slice (some ⟨((m158.push (.cells true #[nv 2, nv 0, .slice q158 3 c158])).push (.cells true (cellsN [0]))).size, 0, some 1⟩) 2 2), nv 0, nv 0, nv 1, (.slice (some ⟨(((m158.push (.cells true #[nv 2, nv 0, .slice q158 3 c158])).push (.cells true (cellsN [0]))).push (.cells true (cellsN [0, 1]))).size, 0, some 1⟩) 1 1), nv 0, nv 0])) ((((((m158.push (.cells true #[nv 2, nv 0, .slice q158 3 c158])).push (.cells true (cellsN [0]))).push (.cells true (cellsN [0, 1]))).push (.cells true (cellsN [0]))).push (.cells true #[nv 1, (.slice (some ⟨(m158.push (.cells true #[nv 2, nv 0, .slice q158 3 c158])).size, 0, some 1⟩) 1 1), nv 0, nv 0, nv 9, (.slice (some ⟨((m158.push (.cells true #[nv 2, nv 0, .slice q158 3 c158])).push (.cells true (cellsN [0]))).size, 0, some 1⟩) 2 2), nv 0, nv 0, nv 1, (.slice (some ⟨(((m158.push (.cells true #[nv 2, nv 0, .slice q158 3 c158])).push (.cells true (cellsN [0]))).push (.cells true (cellsN [0, 1]))).size, 0, some 1⟩) 1 1), nv 0, nv 0])).push (.cells true #[nv 2, nv 0, .slice (some ⟨((((m158.push (.cells true #[nv 2, nv 0, .slice q158 3 c158])).push (.cells true (cellsN [0]))).push (.cells true (cellsN [0, 1]))).push (.cells true (cellsN [0]))).size, 0, some 4⟩) 3 3])) := .push _ _
  replace E := E.trans x_
  replace hGl := hGl.ext x_
  replace rA := rA.ext x_
  replace gA := x_.cells gA
  replace rD := rD.ext x_
  replace gD := x_.cells gD
  replace i71 := i71.ext x_
  replace i134 := i134.ext x_
  replace i140 := i140.ext x_
  replace i145 := i145.ext x_
  replace i158 := i158.ext x_
  replace gE := x_.cells gE
  replace iG := iG.ext x_
  clear x_
  have gF : Mem.get ((((((m158.push (.cells true #[nv 2, nv 0, .slice q158 3 c158])).push (.cells true (cellsN [0]))).push (.cells true (cellsN [0, 1]))).push (.cells true (cellsN [0]))).push (.cells true #[nv 1, (.slice (some ⟨(m158.push (.cells true #[nv 2, nv 0, .slice q158 3 c158])).size, 0, some 1⟩) 1 1), nv 0, nv 0, nv 9, (.slice (some ⟨((m158.push (.cells true #[nv 2, nv 0, .slice q158 3 c158])).push (.cells true (cellsN [0]))).size, 0, some 1⟩) 2 2), nv 0, nv 0, nv 1, (.slice (some ⟨(((m158.push (.cells true #[nv 2, nv 0, .slice q158 3 c158])).push (.cells true (cellsN [0]))).push (.cells true (cellsN [0, 1]))).size, 0, some 1⟩) 1 1), nv 0, nv 0])).push (.cells true #[nv 2, nv 0, .slice (some ⟨((((m158.push (.cells true #[nv 2, nv 0, .slice q158 3 c158])).push (.cells true (cellsN [0]))).push (.cells true (cellsN [0, 1]))).push (.cells true (cellsN [0]))).size, 0, some 4⟩) 3 3])) (((((m158.push (.cells true #[nv 2, nv 0, .slice q158 3 c158])).push (.cells true (cellsN [0]))).push (.cells true (cellsN [0, 1]))).push (.cells true (cellsN [0]))).push (.cells true #[nv 1, (.slice (some ⟨(m158.push (.cells true #[nv 2, nv 0, .slice q158 3 c158])).size, 0, some 1⟩) 1 1), nv 0, nv 0, nv 9, (.slice (some ⟨((m158.push (.cells true #[nv 2, nv 0, .slice q158 3 c158])).push (.cells true (cellsN [0]))).size, 0, some 1⟩) 2 2), nv 0, nv 0, nv 1, (.slice (some ⟨(((m158.push (.cells true #[nv 2, nv 0, .slice q158 3 c158])).push (.cells true (cellsN [0]))).push (.cells true (cellsN [0, 1]))).size, 0, some 1⟩) 1 1), nv 0, nv 0])).size = .cells true #[nv 2, nv 0, .slice (some ⟨((((m158.push (.cells true #[nv 2, nv 0, .slice q158 3 c158])).push (.cells true (cellsN [0]))).push (.cells true (cellsN [0, 1]))).push (.cells true (cellsN [0]))).size, 0, some 4⟩) 3 3] := gP rfl
  refine sNil (kSeqN ?_)
  refine cSeq ?_
  refine cRegion ?_
  refine sMv (v := nv _) rfl ?_
  refine sBin (v := .bool true) (a := 0) (b := 0) rfl rfl (eqlT rfl) ?_
  refine sMv (v := .bool _) rfl ?_
  refine sG rfl rfl ?_
  refine sMv (v := .slice _ _ _) rfl ?_
  refine sG rfl rfl ?_
  refine sBuild B40 ?_
  refine sG rfl rfl ?_
  refine sBuild B40 ?_
  refine sG rfl rfl ?_
  refine sBuildS (c := #[nv 3, nv 9, nv 4, nv 7]) T35 S40 Z40 (by decide) (by decide) (by decide) (by kernel_rfl) (by kernel_rfl) rfl ?_
  have x_ : Ext ((((((m158.push (.cells true #[nv 2, nv 0, .slice q158 3 c158])).push (.cells true (cellsN [0]))).push (.cells true (cellsN [0, 1]))).push (.cells true (cellsN [0]))).push (.cells true #[nv 1, (.slice (some ⟨(m158.push (.cells true #[nv 2, nv 0, .slice q158 3 c158])).size, 0, some 1⟩) 1 1), nv 0, nv 0, nv 9, (.slice (some ⟨((m158.push (.cells true #[nv 2, nv 0, .slice q158 3 c158])).push (.cells true (cellsN [0]))).size, 0, some 1⟩) 2 2), nv 0, nv 0, nv 1, (.slice (some ⟨(((m158.push (.cells true #[nv 2, nv 0, .slice q158 3 c158])).push (.cells true (cellsN [0]))).push (.cells true (cellsN [0, 1]))).size, 0, some 1⟩) 1 1), nv 0, nv 0])).push (.cells true #[nv 2, nv 0, .slice (some ⟨((((m158.push (.cells true #[nv 2, nv 0, .slice q158 3 c158])).push (.cells true (cellsN [0]))).push (.cells true (cellsN [0, 1]))).push (.cells true (cellsN [0]))).size, 0, some 4⟩) 3 3])) (((((((m158.push (.cells true #[nv 2, nv 0, .slice q158 3 c158])).push (.cells true (cellsN [0]))).push (.cells true (cellsN [0, 1]))).push (.cells true (cellsN [0]))).push (.cells true #[nv 1, (.slice (some ⟨(m158.push (.cells true #[nv 2, nv 0, .slice q158 3 c158])).size, 0, some 1⟩) 1 1), nv 0, nv 0, nv 9, (.slice (some ⟨((m158.push (.cells true #[nv 2, nv 0, .slice q158 3 c158])).push (.cells true (cellsN [0]))).size, 0, some 1⟩) 2 2), nv 0, nv 0, nv 1, (.slice (some ⟨(((m158.push (.cells true #[nv 2, nv 0, .slice q158 3 c158])).push (.cells true (cellsN [0]))).push (.cells true (cellsN [0, 1]))).size, 0, some 1⟩) 1 1), nv 0, nv 0])).push (.cells true #[nv 2, nv 0, .slice (some ⟨((((m158.push (.cells true #[nv 2, nv 0, .slice q158 3 c158])).push (.cells true (cellsN [0]))).push (.cells true (cellsN [0, 1]))).push (.cells true (cellsN [0]))).size, 0, some 4⟩) 3 3])).push (.cells true #[nv 3, nv 9, nv 4, nv 7])) := .push _ _
  replace E := E.trans x_
  replace hGl := hGl.ext x_
  replace rA := rA.ext x_
  replace gA := x_.cells gA
  replace rD := rD.ext x_
  replace gD := x_.cells gD
  replace i71 := i71.ext x_
  replace i134 := i134.ext x_
  replace i140 := i140.ext x_
  replace i145 := i145.ext x_
  replace i158 := i158.ext x_
  replace gE := x_.cells gE
  replace iG := iG.ext x_
  replace gF := x_.cells gF
  clear x_
  have iP : TwosAt (((((((m158.push (.cells true #[nv 2, nv 0, .slice q158 3 c158])).push (.cells true (cellsN [0]))).push (.cells true (cellsN [0, 1]))).push (.cells true (cellsN [0]))).push (.cells true #[nv 1, (.slice (some ⟨(m158.push (.cells true #[nv 2, nv 0, .slice q158 3 c158])).size, 0, some 1⟩) 1 1), nv 0, nv 0, nv 9, (.slice (some ⟨((m158.push (.cells true #[nv 2, nv 0, .slice q158 3 c158])).push (.cells true (cellsN [0]))).size, 0, some 1⟩) 2 2), nv 0, nv 0, nv 1, (.slice (some ⟨(((m158.push (.cells true #[nv 2, nv 0, .slice q158 3 c158])).push (.cells true (cellsN [0]))).push (.cells true (cellsN [0, 1]))).size, 0, some 1⟩) 1 1), nv 0, nv 0])).push (.cells true #[nv 2, nv 0, .slice (some ⟨((((m158.push (.cells true #[nv 2, nv 0, .slice q158 3 c158])).push (.cells true (cellsN [0]))).push (.cells true (cellsN [0, 1]))).push (.cells true (cellsN [0]))).size, 0, some 4⟩) 3 3])).push (.cells true #[nv 3, nv 9, nv 4, nv 7])) (.slice (some ⟨((((((m158.push (.cells true #[nv 2, nv 0, .slice q158 3 c158])).push (.cells true (cellsN [0]))).push (.cells true (cellsN [0, 1]))).push (.cells true (cellsN [0]))).push (.cells true #[nv 1, (.slice (some ⟨(m158.push (.cells true #[nv 2, nv 0, .slice q158 3 c158])).size, 0, some 1⟩) 1 1), nv 0, nv 0, nv 9, (.slice (some ⟨((m158.push (.cells true #[nv 2, nv 0, .slice q158 3 c158])).push (.cells true (cellsN [0]))).size, 0, some 1⟩) 2 2), nv 0, nv 0, nv 1, (.slice (some ⟨(((m158.push (.cells true #[nv 2, nv 0, .slice q158 3 c158])).push (.cells true (cellsN [0]))).push (.cells true (cellsN [0, 1]))).size, 0, some 1⟩) 1 1), nv 0, nv 0])).push (.cells true #[nv 2, nv 0, .slice (some ⟨((((m158.push (.cells true #[nv 2, nv 0, .slice q158 3 c158])).push (.cells true (cellsN [0]))).push (.cells true (cellsN [0, 1]))).push (.cells true (cellsN [0]))).size, 0, some 4⟩) 3 3])).size, 0, some 2⟩) 2 2) [(3, 9), (4, 7)] := by
    refine .inr ⟨_, 2, true, _, rfl, gP rfl, fun i g hi => ?_⟩
    match i, hi with
    | 0, hi => cases hi; exact ⟨rfl, rfl⟩
    | 1, hi => cases hi; exact ⟨rfl, rfl⟩
    | i + 2, hi => simp at hi
  refine sG rfl rfl ?_
  refine sCall2 rfl call23 rfl rfl (aw_sameP i134 iP (by decide)) ?_
  refine sP (v := .bool true) rfl ?_
  refine sMv (v := .bool _) rfl ?_
  refine sG rfl rfl ?_
  refine sMv (v := .slice _ _ _) rfl ?_
  refine sG rfl rfl ?_
  refine sMv (v := nv _) rfl ?_
  refine sG rfl rfl ?_
  refine sMv (v := .slice _ _ _) rfl ?_
  refine sG rfl rfl ?_
  refine sCall3 rfl call59 rfl rfl rfl (aw_known i140 i71 (by decide)) ?_
  refine sP (v := .bool true) rfl ?_
  refine sMv (v := .bool _) rfl ?_
  refine sG rfl rfl ?_
  refine sMv (v := .slice _ _ _) rfl ?_
  refine sG rfl rfl ?_
  refine sMv (v := nv _) rfl ?_
  refine sG rfl rfl ?_
  refine sBuildS (c := cellsN [0, 1, 2, 3, 6]) T25 S3 Z3 (by decide) (by decide) (by decide) (by kernel_rfl) (by kernel_rfl) rfl ?_
  have x_ : Ext (((((((m158.push (.cells true #[nv 2, nv 0, .slice q158 3 c158])).push (.cells true (cellsN [0]))).push (.cells true (cellsN [0, 1]))).push (.cells true (cellsN [0]))).push (.cells true #[nv 1, (.slice (some ⟨(m158.push (.cells true #[nv 2, nv 0, .slice q158 3 c158])).size, 0, some 1⟩) 1 1), nv 0, nv 0, nv 9, (.slice (some ⟨((m158.push (.cells true #[nv 2, nv 0, .slice q158 3 c158])).push (.cells true (cellsN [0]))).size, 0, some 1⟩) 2 2), nv 0, nv 0, nv 1, (.slice (some ⟨(((m158.push (.cells true #[nv 2, nv 0, .slice q158 3 c158])).push (.cells true (cellsN [0]))).push (.cells true (cellsN [0, 1]))).size, 0, some 1⟩) 1 1), nv 0, nv 0])).push (.cells true #[nv 2, nv 0, .slice (some ⟨((((m158.push (.cells true #[nv 2, nv 0, .slice q158 3 c158])).push (.cells true (cellsN [0]))).push (.cells true (cellsN [0, 1]))).push (.cells true (cellsN [0]))).size, 0, some 4⟩) 3 3])).push (.cells true #[nv 3, nv 9, nv 4, nv 7])) ((((((((m158.push (.cells true #[nv 2, nv 0, .slice q158 3 c158])).push (.cells true (cellsN [0]))).push (.cells true (cellsN [0, 1]))).push (.cells true (cellsN [0]))).push (.cells true #[nv 1, (.slice (some ⟨(m158.push (.cells true #[nv 2, nv 0, .slice q158 3 c158])).size, 0, some 1⟩) 1 1), nv 0, nv 0, nv 9, (.slice (some ⟨((m158.push (.cells true #[nv 2, nv 0, .slice q158 3 c158])).push (.cells true (cellsN [0]))).size, 0, some 1⟩) 2 2), nv 0, nv 0, nv 1, (.slice (some ⟨(((m158.push (.cells true #[nv 2, nv 0, .slice q158 3 c158])).push (.cells true (cellsN [0]))).push (.cells true (cellsN [0, 1]))).size, 0, some 1⟩) 1 1), nv 0, nv 0])).push (.cells true #[nv 2, nv 0, .slice (some ⟨((((m158.push (.cells true #[nv 2, nv 0, .slice q158 3 c158])).push (.cells true (cellsN [0]))).push (.cells true (cellsN [0, 1]))).push (.cells true (cellsN [0]))).size, 0, some 4⟩) 3 3])).push (.cells true #[nv 3, nv 9, nv 4, nv 7])).push (.cells true (cellsN [0, 1, 2, 3, 6]))) := .push _ _
  replace E := E.trans x_
  replace hGl := hGl.ext x_
  replace rA := rA.ext x_
  replace gA := x_.cells gA
  replace rD := rD.ext x_
  replace gD := x_.cells gD
  replace i71 := i71.ext x_
  replace i134 := i134.ext x_
  replace i140 := i140.ext x_
  replace i145 := i145.ext x_
  replace i158 := i158.ext x_
  replace gE := x_.cells gE
  replace iG := iG.ext x_
  replace gF := x_.cells gF
  clear x_
  have j : IntsAt ((((((((m158.push (.cells true #[nv 2, nv 0, .slice q158 3 c158])).push (.cells true (cellsN [0]))).push (.cells true (cellsN [0, 1]))).push (.cells true (cellsN [0]))).push (.cells true #[nv 1, (.slice (some ⟨(m158.push (.cells true #[nv 2, nv 0, .slice q158 3 c158])).size, 0, some 1⟩) 1 1), nv 0, nv 0, nv 9, (.slice (some ⟨((m158.push (.cells true #[nv 2, nv 0, .slice q158 3 c158])).push (.cells true (cellsN [0]))).size, 0, some 1⟩) 2 2), nv 0, nv 0, nv 1, (.slice (some ⟨(((m158.push (.cells true #[nv 2, nv 0, .slice q158 3 c158])).push (.cells true (cellsN [0]))).push (.cells true (cellsN [0, 1]))).size, 0, some 1⟩) 1 1), nv 0, nv 0])).push (.cells true #[nv 2, nv 0, .slice (some ⟨((((m158.push (.cells true #[nv 2, nv 0, .slice q158 3 c158])).push (.cells true (cellsN [0]))).push (.cells true (cellsN [0, 1]))).push (.cells true (cellsN [0]))).size, 0, some 4⟩) 3 3])).push (.cells true #[nv 3, nv 9, nv 4, nv 7])).push (.cells true (cellsN [0, 1, 2, 3, 6]))) (.slice (some ⟨(((((((m158.push (.cells true #[nv 2, nv 0, .slice q158 3 c158])).push (.cells true (cellsN [0]))).push (.cells true (cellsN [0, 1]))).push (.cells true (cellsN [0]))).push (.cells true #[nv 1, (.slice (some ⟨(m158.push (.cells true #[nv 2, nv 0, .slice q158 3 c158])).size, 0, some 1⟩) 1 1), nv 0, nv 0, nv 9, (.slice (some ⟨((m158.push (.cells true #[nv 2, nv 0, .slice q158 3 c158])).push (.cells true (cellsN [0]))).size, 0, some 1⟩) 2 2), nv 0, nv 0, nv 1, (.slice (some ⟨(((m158.push (.cells true #[nv 2, nv 0, .slice q158 3 c158])).push (.cells true (cellsN [0]))).push (.cells true (cellsN [0, 1]))).size, 0, some 1⟩) 1 1), nv 0, nv 0])).push (.cells true #[nv 2, nv 0, .slice (some ⟨((((m158.push (.cells true #[nv 2, nv 0, .slice q158 3 c158])).push (.cells true (cellsN [0]))).push (.cells true (cellsN [0, 1]))).push (.cells true (cellsN [0]))).size, 0, some 4⟩) 3 3])).push (.cells true #[nv 3, nv 9, nv 4, nv 7])).size, 0, some 1⟩) 5 5) (ofs [0, 1, 2, 3, 6]) := new_ints
  refine sG rfl rfl ?_
  refine sCall3 rfl call59 rfl rfl rfl (aw_known i145 j (by decide)) ?_
  refine sP (v := .bool true) rfl ?_
  refine sMv (v := .bool _) rfl ?_
  refine sG rfl rfl ?_
  refine sMv (v := nv _) rfl ?_
  refine sG rfl rfl ?_
  refine sBin (v := .bool true) (a := 0) (b := 0) rfl rfl (eqlT rfl) ?_
  refine sP (v := .bool true) rfl ?_
  refine sMv (v := .bool _) rfl ?_
  refine sG rfl rfl ?_
  refine sMv (v := .bool _) rfl ?_
  refine sP (v := .bool true) rfl ?_
  refine sMv (v := .bool _) rfl ?_
  refine sG rfl rfl ?_
  refine sMv (v := nv _) rfl ?_
  refine sG rfl rfl ?_
  refine sBin (v := .bool true) (a := 0) (b := 0) rfl rfl (eqlT rfl) ?_
  refine sP (v := .bool true) rfl ?_
  refine sMv (v := .bool _) rfl ?_
  refine sG rfl rfl ?_
  refine sLdAll A57 S57 rfl gE rfl ?_
  refine sG rfl rfl ?_
  refine sLdAll A57 S57 rfl gF rfl ?_
  refine sG rfl rfl ?_
  obtain ⟨m204, h_, e_⟩ := aw_sameC i158 iG
  refine sCall2 rfl call50 rfl rfl h_ ?_
  clear h_
  have x_ : Ext ((((((((m158.push (.cells true #[nv 2, nv 0, .slice q158 3 c158])).push (.cells true (cellsN [0]))).push (.cells true (cellsN [0, 1]))).push (.cells true (cellsN [0]))).push (.cells true #[nv 1, (.slice (some ⟨(m158.push (.cells true #[nv 2, nv 0, .slice q158 3 c158])).size, 0, some 1⟩) 1 1), nv 0, nv 0, nv 9, (.slice (some ⟨((m158.push (.cells true #[nv 2, nv 0, .slice q158 3 c158])).push (.cells true (cellsN [0]))).size, 0, some 1⟩) 2 2), nv 0, nv 0, nv 1, (.slice (some ⟨(((m158.push (.cells true #[nv 2, nv 0, .slice q158 3 c158])).push (.cells true (cellsN [0]))).push (.cells true (cellsN [0, 1]))).size, 0, some 1⟩) 1 1), nv 0, nv 0])).push (.cells true #[nv 2, nv 0, .slice (some ⟨((((m158.push (.cells true #[nv 2, nv 0, .slice q158 3 c158])).push (.cells true (cellsN [0]))).push (.cells true (cellsN [0, 1]))).push (.cells true (cellsN [0]))).size, 0, some 4⟩) 3 3])).push (.cells true #[nv 3, nv 9, nv 4, nv 7])).push (.cells true (cellsN [0, 1, 2, 3, 6]))) m204 := e_
  replace E := E.trans x_
  replace hGl := hGl.ext x_
  replace rA := rA.ext x_
  replace gA := x_.cells gA
  replace rD := rD.ext x_
  replace gD := x_.cells gD
  replace i71 := i71.ext x_
  replace i134 := i134.ext x_
  replace i140 := i140.ext x_
  replace i145 := i145.ext x_
  replace i158 := i158.ext x_
  replace gE := x_.cells gE
  replace iG := iG.ext x_
  replace gF := x_.cells gF
  clear x_
  clear e_
  refine sP (v := .bool true) rfl ?_
  refine sAs (v := .bool _) rfl ?_
  refine sNil (kSeqN ?_)
  refine cRet ?_
  exact ⟨.inr rfl, _, rfl, rfl, E⟩

end Go.AM

/-! ### P22 -/
namespace Go.AM
open Go.Proofs
set_option maxRecDepth 100000
set_option linter.unusedVariables false
set_option linter.unusedSimpArgs false
theorem El22 : ElemT Tryd.prog 22 22 1 := ⟨_, _, _, 24, T22, T22, rfl, S25, Z25, rfl, bytes25, by decide, by decide⟩
theorem fillV {q : Option Addr} {n c : Nat} : Instr.fill (fun i => some (i * 1, 1)) (if 1 * 1 = 0 then #[] else (Array.range (1 * 1)).map ((Value.slice none 0 0).cells[· % (Value.slice none 0 0).cells.size]!)) [(0, .slice q n c)] = some #[.slice q n c] := by kernel_rfl
theorem OwnR.set {N b : Nat} {m : Mem} {v : Value} {cs : Array Value} {G : List (List Int)} (h : OwnR N m v cs G) (hv : blkOf v ≠ some b) (hr : ∀ (i : Nat) (s : Value), cs[i]? = some s → blkOf s ≠ some b) (o : AObj) : OwnR N (m.setIfInBounds b o) v cs G :=
  ⟨h.1.keep fun c hc => gSn fun e => hv (by rw [e, hc]), fun i g hi => by
    obtain ⟨s, hs, ho, hb⟩ := h.2 i g hi
    exact ⟨s, hs, ho.keep fun c hc => gSn fun e => hr i s hs (by rw [e, hc]), hb⟩⟩
theorem lineM_succ {i : Nat} (h : 1 ≤ i) : lineM (i + 1) = lineM i ++ [[i - 1]] := by
  unfold lineM lineAt
  rw [List.range_succ, List.map_append, List.map_cons, List.map_nil, if_pos ⟨h, by omega⟩]
  congr 1
  refine List.map_congr_left fun j hj => ?_
  have := List.mem_range.1 hj
  by_cases h1 : 1 ≤ j
  · rw [if_pos ⟨h1, by omega⟩, if_pos ⟨h1, by omega⟩]
  · rw [if_neg (by omega), if_neg (by omega)]

theorem okf75 : okF Tryd.prog H0 75 45 = true := by kernel_rfl
theorem spec_refBennett0 : ∀ (f : Nat) {n a : Nat} {m : Mem}, 1 ≤ n → n ≤ f → f ≤ 10 → a ≤ 1000 * (11 - f) → ∃ v m', ACalls Tryd.prog 75 #[nv a, nv n] m v m' ∧ (OwnF m.size m' v (ofs (benF f a n)) ∧ Ext m m')
 | 0, _, _, _, h1, h2, _, _ => absurd (Nat.le_trans h1 h2) (by omega)
 | f + 1, n, a, m, h1, h2, h3, h4 => by
  have hbl : ∀ a' n', (benF f a' n').length ≤ 19683 := fun a' n' => Nat.le_trans (benF_len f a' n') (Nat.le_trans (Nat.pow_le_pow_right (n := 3) (by omega) (show f ≤ 9 by omega)) (by decide))
  refine wpF (args := [_, _]) mixed okf75 (fn := Tryd.f75) rfl rfl rfl (by simp) ?_
  refine cSeq ?_
  refine cRegion ?_
  refine sAs (v := .slice _ _ _) rfl ?_
  refine sNil (kSeqN ?_)
  refine cSeq ?_   -- seq 1
  refine cSeq ?_
  refine cRegion ?_
  refine sMv (v := nv _) rfl ?_
  refine sBin (b := 1) rfl rfl aInt_eql ?_
  refine sNil (kSeqN ?_)
  refine cCond rfl (fun c0 => ?_) (fun c0 => ?_)
  ·
    refine cSeq ?_
    refine cRegion ?_
    refine sMv (v := nv _) rfl ?_
    refine sBuildS T25 S3 Z3 (by decide) (by decide) (by decide) (by kernel_rfl) fill1 rfl ?_
    refine sAs (v := .slice _ _ _) rfl ?_
    refine sNil (kSeqN ?_)
    refine cRet (kSeqR ?_)
    refine ⟨.inr rfl, _, rfl, ?_, .push _ _⟩
    rw [benF, if_pos c0]
    exact .ofCells (l := [a]) (r := []) (Nat.le_refl _) (gP rfl)
  ·
    have hh1 : (n + 1) / 2 ≤ f := by omega
    have hh2 : 1 ≤ (n + 1) / 2 := by omega
    have hh3 : 1 ≤ n - (n + 1) / 2 := by omega
    have hbe : benF (f + 1) a n = benF f a ((n + 1) / 2) ++ (benF f (a + (n + 1) / 2) (n - (n + 1) / 2) ++ (benF f a ((n + 1) / 2)).reverse) := by rw [benF, if_neg c0]
    rw [hbe]
    clear hbe
    generalize hhd : (n + 1) / 2 = h at *
    have hb1 := hbl a h
    have hb2 := hbl (a + h) (n - h)
    refine cSkip (kSeqN ?_)
    refine cSeq ?_
    refine cRegion ?_
    refine sMv (v := nv _) rfl ?_
    refine sBin (b := 1) rfl rfl (aInt_add (by omega)) ?_
    refine sBin (v := nv h) (a := n + 1) (b := 2) rfl rfl (by rw [← hhd]; exact aInt_quo (by omega)) ?_
    refine sAs (v := nv _) rfl ?_
    refine sNil (kSeqN ?_)
    refine cSeq ?_
    refine cRegion ?_
    refine sMv (v := nv _) rfl ?_
    refine sMv (v := nv _) rfl ?_
    obtain ⟨v18, m18, h18, o18, k18⟩ := spec_refBennett0 f (n := h) (a := a) (m := m) hh2 hh1 (by omega) (by omega)
    have i18 := o18.ints
    obtain ⟨q18, c18, rfl⟩ := i18.lenN
    refine sCall2 rfl call75 rfl rfl h18 ?_
    refine sAs (v := .slice _ _ _) rfl ?_
    refine sNil (kSeqN ?_)
    refine cSeq ?_
    refine cRegion ?_
    refine sBuildS (c := #[]) T25 S3 Z3 (by decide) (by decide) (by decide) (by kernel_rfl) rfl rfl ?_
    refine sMv (v := .slice _ _ _) rfl ?_
    refine sApp App25 rfl rfl (N := m18.size) (p := []) (.inr ⟨m18.size, 0, #[], rfl, Nat.le_refl _, gP rfl, by simp, by simp, by simp⟩) (i18.ext (.push _ _)) (by simp) (by simp; omega) fun v21 m21 hO21 hL21 => ?_
    rw [List.nil_append] at hO21
    obtain ⟨q21, c21, rfl⟩ := hO21.ints.lenN
    have e21 : Ext m18 m21 := Low.to_ext (.push _ _) hL21 (Nat.le_refl _)
    refine sMv (v := nv _) rfl ?_
    refine sMv (v := nv _) rfl ?_
    refine sBin rfl rfl (aInt_add (by omega)) ?_
    refine sMv (v := nv _) rfl ?_
    refine sMv (v := nv _) rfl ?_
    refine sBin rfl rfl (aInt_sub (by omega)) ?_
    obtain ⟨v28, m28, h28, o28, k28⟩ := spec_refBennett0 f (n := n - h) (a := a + h) (m := m21) hh3 (by omega) (by omega) (by omega)
    have i28 := o28.ints
    obtain ⟨q28, c28, rfl⟩ := i28.lenN
    refine sCall2 rfl call75 rfl rfl h28 ?_
    refine sApp App25 rfl rfl (N := m18.size) (hO21.ext k28) i28 (by have := e21.1; have := k28.1; omega) (by simp; omega) fun v29 m29 hO29 hL29 => ?_
    rw [← ofs_append] at hO29
    obtain ⟨q29, c29, rfl⟩ := hO29.ints.lenN
    have e29 : Ext m18 m29 := Low.to_ext (e21.trans k28) hL29 (Nat.le_refl _)
    generalize hB : benF f a h = B at *
    generalize hC : benF f (a + h) (n - h) = C at *
    refine sAs (v := .slice _ _ _) rfl ?_
    refine sNil (kSeqN ?_)
    refine cSeq ?_
    refine cSeq ?_
    refine cRegion ?_
    refine sMv (v := .slice _ _ _) rfl ?_
    refine sLen T25 rfl ?_
    refine sBinI (v := .int .i64 (Int.ofNat B.length - 1)) (a := Int.ofNat B.length) (b := 1) rfl rfl (aInt_subI (by simp; omega)) ?_
    refine sAs (v := .int _ _) rfl ?_
    refine sNil (kSeqN ?_)
    refine cBlock ?_
    refine wpC_loop (fun k ρ m' => ∃ i v, k = i ∧ i ≤ B.length ∧ Low m18.size m18 m' ∧ OwnF m18.size m' v (ofs (B ++ (C ++ (B.drop i).reverse))) ∧ Has ρ [(6, .slice q18 B.length c18), (7, v), (8, .int .i64 (Int.ofNat i - 1))]) ⟨B.length, _, rfl, Nat.le_refl _, e29, by rw [List.drop_length, List.reverse_nil, List.append_nil]; exact hO29, rfl, rfl, rfl, trivial⟩ ?_
    rintro k ρ m' ⟨i, v, rfl, hi, hLo, hO, hh⟩
    obtain ⟨qv, cv, rfl⟩ := hO.ints.lenN
    rw [hh.env]; clear hh
    refine cSeq ?_   -- seq 9
    refine cSeq ?_
    refine cRegion ?_
    refine sMv (v := .int _ _) rfl ?_
    refine sBinI (b := 0) rfl rfl aInt_geqI ?_
    refine sNil (kSeqN ?_)
    refine cCond rfl (fun c1 => ?_) (fun c1 => ?_)
    ·
      obtain ⟨j, rfl⟩ : ∃ j, k = j + 1 := ⟨k - 1, by simp at c1; omega⟩
      have hj : Int.ofNat (j + 1) - 1 = Int.ofNat j := by simp
      rw [hj]
      obtain ⟨b1, o1, p1, r1, cc, e1, gg, x1⟩ := (i18.ext hLo).atN (by omega)
      cases e1
      refine cSkip (kSeqN ?_)
      refine cSeq ?_
      refine cBlock ?_
      refine cRegion ?_
      refine sMv (v := .slice _ _ _) rfl ?_
      refine sMv (v := .slice _ _ _) rfl ?_
      refine sMv (v := nv j) rfl ?_
      refine sIx T25 S3 rfl rfl (by omega) ?_
      refine sLd (v := nv B[j]) A3 rfl gg (x1 j B[j] (by simp)) ?_
      refine sBuildS T25 S3 Z3 (by decide) (by decide) (by decide) (by kernel_rfl) fill1 rfl ?_
      refine sApp App25 rfl rfl (N := m18.size) (hO.ext (.push _ _)) one_ints (by have := hLo.1; simp; omega) (by simp; omega) fun v3 m3 hO3 hL3 => ?_
      rw [show ofs (B ++ (C ++ (B.drop (j + 1)).reverse)) ++ [Int.ofNat B[j]] = ofs (B ++ (C ++ (B.drop j).reverse)) by rw [drop_cons (show j < B.length by omega), List.reverse_cons]; simp [ofs]] at hO3
      obtain ⟨q3, cp3, rfl⟩ := hO3.ints.lenN
      refine sAs (v := .slice _ _ _) rfl ?_
      refine sNil (kBlkN (kSeqN ?_))
      refine cRegion ?_
      refine sMv (v := nv j) rfl ?_
      refine sBinI (v := .int .i64 (Int.ofNat j - 1)) (a := Int.ofNat j) (b := 1) rfl rfl (aInt_subI (by simp; omega)) ?_
      refine sAs (v := .int _ _) rfl ?_
      refine sNil (kSeqN ?_)
      exact ⟨j, by omega, j, _, rfl, by omega, hLo.trans ((Low.push _ hLo.1 _).trans hL3), hO3, rfl, rfl, rfl, trivial⟩
    ·
      refine cExit (kSeqE (kSeqE (kBlkS (kSeqN ?_))))
      refine cSeq ?_
      refine cRegion ?_
      refine sMv (v := .slice _ _ _) rfl ?_
      refine sAs (v := .slice _ _ _) rfl ?_
      refine sNil (kSeqN ?_)
      refine cRet ?_
      obtain rfl : k = 0 := by simp at c1; omega
      exact ⟨.inr rfl, _, rfl, by rw [List.drop_zero] at hO; exact hO.mono k18.1, k18.trans hLo⟩

theorem okf34 : okF Tryd.prog H0 34 12 = true := by kernel_rfl
theorem spec_refBennett {m : Mem} {n : Int} : ∃ v m', ACalls Tryd.prog 34 #[.int .i64 n] m v m' ∧ (∃ w, v = .tuple #[w, nv (benE n)] ∧ OwnF m.size m' w (ofs (ifOk (benE n) (benM n.toNat) [])) ∧ Ext m m') := by
  unfold benE
  refine wpF (args := [_]) mixed okf34 (fn := Tryd.f34) rfl rfl rfl (by simp) ?_
  refine cSeq ?_
  refine cRegion ?_
  refine sAs (v := .slice _ _ _) rfl ?_
  refine sAs (v := nv 0) rfl ?_
  refine sNil (kSeqN ?_)
  refine cSeq ?_   -- seq 1
  refine cSeq ?_
  refine cRegion ?_
  refine sMv (v := .int _ _) rfl ?_
  refine sBinI (v := .bool (decide (n < 1))) rfl rfl rfl ?_
  refine sMv (v := .bool _) rfl ?_
  by_cases h1 : n < 1
  ·
    rw [decide_eq_true h1]
    refine sGno (q' := true) rfl rfl (by simp) ?_
    refine sGno (q' := true) rfl rfl (by simp) ?_
    refine sP (v := .bool _) rfl ?_
    refine sNil (kSeqN ?_)
    refine cCondT rfl ?_
    refine cSeq ?_
    refine cRegion ?_
    refine sAs (v := .slice _ _ _) rfl ?_
    refine sAs (v := nv 2) rfl ?_
    refine sNil (kSeqN ?_)
    refine cRet (kSeqR ?_)
    exact ⟨.inr rfl, _, rfl, _, by rw [if_pos (.inl h1)]; rfl, by rw [if_pos (.inl h1), ifOk_n (by decide)]; exact .nil _ _, .refl _⟩
  ·
    rw [decide_eq_false h1]
    refine sG rfl rfl ?_
    refine sMv (v := .int _ _) rfl ?_
    refine sG rfl rfl ?_
    refine sBinI (v := .bool (decide (n > 10))) rfl rfl rfl ?_
    refine sP (v := .bool _) rfl ?_
    refine sNil (kSeqN ?_)
    refine cCond (p := n > 10) rfl (fun c1 => ?_) (fun c1 => ?_)
    ·
      refine cSeq ?_
      refine cRegion ?_
      refine sAs (v := .slice _ _ _) rfl ?_
      refine sAs (v := nv 2) rfl ?_
      refine sNil (kSeqN ?_)
      refine cRet (kSeqR ?_)
      exact ⟨.inr rfl, _, rfl, _, by rw [if_pos (.inr c1)]; rfl, by rw [if_pos (.inr c1), ifOk_n (by decide)]; exact .nil _ _, .refl _⟩
    ·
      rw [if_neg (by omega), ifOk_0 rfl]
      obtain ⟨N, rfl⟩ : ∃ N : Nat, n = Int.ofNat N := ⟨n.toNat, by simp; omega⟩
      have hN1 : 1 ≤ N := by simp at h1; omega
      have hN : N ≤ 10 := by simp at c1; omega
      refine cSkip (kSeqN ?_)
      refine cSeq ?_
      refine cRegion ?_
      refine sMv (v := nv N) rfl ?_
      obtain ⟨v14, m14, h14, o14, k14⟩ := spec_refBennett0 10 (n := N) (a := 0) (m := m) hN1 hN (by omega) (by omega)
      obtain ⟨q14, c14, rfl⟩ := o14.ints.lenN
      refine sCall2 rfl call75 rfl rfl h14 ?_
      refine sAs (v := .slice _ _ _) rfl ?_
      refine sAs (v := nv 0) rfl ?_
      refine sNil (kSeqN ?_)
      refine cRet ?_
      exact ⟨.inr rfl, _, rfl, _, rfl, o14, k14⟩

theorem okf30 : okF Tryd.prog H0 30 29 = true := by kernel_rfl
theorem spec_refLine {m : Mem} {n : Int} : ∃ v m', ACalls Tryd.prog 30 #[.int .i64 n] m v m' ∧ (∃ w cs, v = .tuple #[.agg #[w], nv (benE n)] ∧ OwnR m.size m' w cs (ofs2 (ifOk (benE n) (lineM n.toNat) [])) ∧ Ext m m') := by
  unfold benE
  refine wpF (args := [_]) mixed okf30 (fn := Tryd.f30) rfl rfl rfl (by simp) ?_
  refine cSeq ?_
  refine cRegion ?_
  refine sAlloc Z24 (by kernel_rfl) ?_
  refine sAs (v := nv 0) rfl ?_
  refine sNil (kSeqN ?_)
  refine cSeq ?_   -- seq 1
  refine cSeq ?_
  refine cRegion ?_
  refine sMv (v := .int _ _) rfl ?_
  refine sBinI (v := .bool (decide (n < 1))) rfl rfl rfl ?_
  refine sMv (v := .bool _) rfl ?_
  by_cases h1 : n < 1
  ·
    rw [decide_eq_true h1]
    refine sGno (q' := true) rfl rfl (by simp) ?_
    refine sGno (q' := true) rfl rfl (by simp) ?_
    refine sP (v := .bool _) rfl ?_
    refine sNil (kSeqN ?_)
    refine cCondT rfl ?_
    refine cSeq ?_
    refine cRegion ?_
    refine sBuild B24_0 ?_
    refine sStAll S24 rfl rfl (by simp (disch := first | omega | (simp only [Array.size_push, Array.size_setIfInBounds]; done) | (simp only [Array.size_push, Array.size_setIfInBounds]; omega)) only [gP, gPn, gS, gSn]; try rfl) rfl rfl (by kernel_rfl) ?_
    refine sAs (v := nv 2) rfl ?_
    refine sNil (kSeqN ?_)
    refine cRet (kSeqR ?_)
    exact ⟨.inr rfl, _, resRs_agg2 A24 S24 rfl (gS rfl (by simp)) rfl, _, _, by rw [if_pos (.inl h1)]; rfl, by rw [if_pos (.inl h1), ifOk_n (by decide)]; exact .nil _ _, (Ext.push _ _).set (Nat.le_refl _) _⟩
  ·
    rw [decide_eq_false h1]
    refine sG rfl rfl ?_
    refine sMv (v := .int _ _) rfl ?_
    refine sG rfl rfl ?_
    refine sBinI (v := .bool (decide (n > 10))) rfl rfl rfl ?_
    refine sP (v := .bool _) rfl ?_
    refine sNil (kSeqN ?_)
    refine cCond (p := n > 10) rfl (fun c1 => ?_) (fun c1 => ?_)
    ·
      refine cSeq ?_
      refine cRegion ?_
      refine sBuild B24_0 ?_
      refine sStAll S24 rfl rfl (by simp (disch := first | omega | (simp only [Array.size_push, Array.size_setIfInBounds]; done) | (simp only [Array.size_push, Array.size_setIfInBounds]; omega)) only [gP, gPn, gS, gSn]; try rfl) rfl rfl (by kernel_rfl) ?_
      refine sAs (v := nv 2) rfl ?_
      refine sNil (kSeqN ?_)
      refine cRet (kSeqR ?_)
      exact ⟨.inr rfl, _, resRs_agg2 A24 S24 rfl (gS rfl (by simp)) rfl, _, _, by rw [if_pos (.inr c1)]; rfl, by rw [if_pos (.inr c1), ifOk_n (by decide)]; exact .nil _ _, (Ext.push _ _).set (Nat.le_refl _) _⟩
    ·
      rw [if_neg (by omega), ifOk_0 rfl]
      obtain ⟨N, rfl⟩ : ∃ N : Nat, n = Int.ofNat N := ⟨n.toNat, by simp; omega⟩
      have hN1 : 1 ≤ N := by simp at h1; omega
      have hN : N ≤ 10 := by simp at c1; omega
      refine cSkip (kSeqN ?_)
      refine cSeq ?_
      refine cRegion ?_
      refine sBuildS (c := #[.slice none 0 0]) T22 S25 Z25 (by decide) (by decide) (by decide) (by kernel_rfl) (by kernel_rfl) rfl ?_
      refine sBuild B24_1 ?_
      refine sAllocB (bl := m.size + 2) (by simp) Z24 (by kernel_rfl) ?_
      refine sStNAB (by simp) S24 rfl rfl rfl rfl (by kernel_rfl) ?_
      refine sNil (kSeqN ?_)
      refine cSeq ?_
      refine cSeq ?_
      refine cRegion ?_
      refine sAs (v := nv 1) rfl ?_
      refine sNil (kSeqN ?_)
      refine cBlock ?_
      refine wpC_loop (fun k ρ m' => ∃ i v cs, k = N - i ∧ 1 ≤ i ∧ i ≤ N ∧ Low (m.size + 1) (m.push (.cells true #[.slice none 0 0])) m' ∧ m.size + 3 ≤ m'.size ∧ Mem.get m' (m.size + 2) = .cells true #[v] ∧ OwnR (m.size + 1) m' v cs (ofs2 (lineM i)) ∧ blkOf v ≠ some (m.size + 2) ∧ (∀ (j : Nat) (s : Value), cs[j]? = some s → blkOf s ≠ some (m.size + 2)) ∧ Has ρ [(0, nv N), (2, .pointer (some ⟨m.size, 0, none⟩)), (4, .pointer (some ⟨m.size + 2, 0, none⟩)), (5, nv i)]) ⟨1, .slice (some ⟨m.size + 1, 0, some 1⟩) 1 1, #[.slice none 0 0], rfl, Nat.le_refl _, hN1, ?_, by simp, ?_, ?_, ?_, ?_, rfl, ?_, ?_, rfl, trivial⟩ ?_
      · exact (Low.push _ (by simp) _).trans (.push _ (by simp) _)
      · rw [gP (by simp)]; simp
      · refine ⟨.inr ⟨m.size + 1, 1, #[.slice none 0 0], rfl, Nat.le_refl _, by rw [gPn (by simp), gP (by simp)], Nat.le_refl _, rfl, rfl, fun j _ => rfl⟩, fun j g hj => ?_⟩
        match j, hj with
        | 0, hj => cases hj; exact ⟨_, rfl, .nil _ _, fun b hb => by cases hb⟩
        | j + 1, hj => simp [lineM, lineAt, ofs2] at hj
      · intro e; have := Option.some.inj e; simp at this
      · intro j s hs
        match j, hs with
        | 0, hs => cases hs; intro e; cases e
        | j + 1, hs => simp at hs
      · rfl
      · rfl
      rintro k ρ m' ⟨i, v, cs, rfl, hi1, hi, hLo, hz, g2, hO, hv, hr, hh⟩
      obtain ⟨qv, cv, rfl⟩ := hO.1.len
      rw [hh.env]; clear hh
      refine cSeq ?_   -- seq 8
      refine cSeq ?_
      refine cRegion ?_
      refine sMv (v := nv _) rfl ?_
      refine sMv (v := nv N) rfl ?_
      refine sBin rfl rfl (aInt_lss) ?_
      refine sNil (kSeqN ?_)
      refine cCond rfl (fun c2 => ?_) (fun c2 => ?_)
      ·
        have hln : (ofs2 (lineM i)).length = i := by rw [ofs2_length]; simp [lineM]
        refine cSkip (kSeqN ?_)
        refine cSeq ?_
        refine cBlock ?_
        refine cRegion ?_
        refine sFA F24_0 rfl ?_
        refine sLd (v := .slice _ _ _) A22 rfl (by simp (disch := first | omega | (simp only [Array.size_push, Array.size_setIfInBounds]; done) | (simp only [Array.size_push, Array.size_setIfInBounds]; omega)) only [gP, gPn, gS, gSn, g2]; try rfl) rfl ?_
        refine sMv (v := nv _) rfl ?_
        refine sBin (v := nv (i - 1)) rfl rfl (aInt_sub (b := 1) (by omega)) ?_
        refine sBuildS T25 S3 Z3 (by decide) (by decide) (by decide) (by kernel_rfl) fill1 rfl ?_
        refine sBuildS T22 S25 Z25 (by decide) (by decide) (by decide) (by kernel_rfl) fillV rfl ?_
        refine sAppC El22 rfl rfl (N := m.size + 1) (n := (ofs2 (lineM i)).length) (cs := cs) (d := #[.slice (some ⟨m'.size, 0, some 1⟩) 1 1]) ((hO.ext (.push _ _)).ext (.push _ _)).1 (gP rfl) rfl (by kernel_rfl) (by simp; omega) (by omega) fun v' m4 hO4 hL4 hG4 => ?_
        have hrow : OwnF (m.size + 1) ((m'.push (.cells true #[nv (i - 1)])).push (.cells true #[.slice (some ⟨m'.size, 0, some 1⟩) 1 1])) (.slice (some ⟨m'.size, 0, some 1⟩) 1 1) (ofs [i - 1]) :=
          OwnF.ofCells (l := [i - 1]) (r := []) (by omega) (by rw [gPn (by simp), gP rfl]; rfl)
        have hgr := ((hO.ext (.push _ _)).ext (.push _ _)).grew hrow (fun b hb e => by
          have h2 := (hO.1.lt e).2
          have h3 : m'.size = b := Option.some.inj hb
          omega) hG4 hO4
        have g24 : Mem.get m4 (m.size + 2) = .cells true #[.slice qv (ofs2 (lineM i)).length cv] := by rw [hG4.2.1 _ (by simp; omega) hv, gPn (by simp; omega), gPn (by omega), g2]
        obtain ⟨q4, cp4, rfl⟩ := hO4.len
        refine sFA F24_0 rfl ?_
        refine sSt (v := .slice _ _ _) S22 rfl rfl g24 (by simp) rfl rfl ?_
        refine sNil (kBlkN (kSeqN ?_))
        refine cRegion ?_
        refine sMv (v := nv _) rfl ?_
        refine sBin rfl rfl (aInt_add (b := 1) (by omega)) ?_
        refine sAs (v := nv _) rfl ?_
        refine sNil (kSeqN ?_)
        have hr' : ∀ (j : Nat) (s : Value), (cs ++ #[.slice (some ⟨m'.size, 0, some 1⟩) 1 1])[j]? = some s → blkOf s ≠ some (m.size + 2) := fun j s hs => by
          by_cases hj : j < cs.size
          · rw [Array.getElem?_append_left hj] at hs; exact hr j s hs
          · rw [Array.getElem?_append_right (by omega)] at hs
            match hd : j - cs.size, hs with
            | 0, hs =>
              obtain rfl := Option.some.inj hs
              intro e; have := Option.some.inj e; simp at this; omega
            | d + 1, hs => simp at hs
        have hv' := hG4.off hv (by simp; omega)
        refine ⟨_, ?_, i + 1, .slice q4 ((ofs2 (lineM i)).length + 1) cp4, cs ++ #[.slice (some ⟨m'.size, 0, some 1⟩) 1 1], rfl, by omega, by omega, hLo.trans ((Low.push _ (by omega) _).trans ((Low.push _ (by simp; omega) _).trans (hL4.trans (.set (by omega) _)))), ?_, by rw [gS rfl (live g24)]; rfl, ?_, hv', hr', rfl, rfl, rfl, rfl, trivial⟩
        · omega
        · have := hG4.1; simp only [Array.size_push] at this; simp only [Array.size_setIfInBounds]; omega
        · have := hgr.set hv' hr' (.cells true #[.slice q4 ((ofs2 (lineM i)).length + 1) cp4])
          rw [lineM_succ hi1, show ofs2 (lineM i ++ [[i - 1]]) = ofs2 (lineM i) ++ [ofs [i - 1]] by simp [ofs2]]
          exact this
      ·
        obtain rfl : i = N := by omega
        have g0 := hLo.cells (show m.size < m.size + 1 by omega) (gP rfl)
        refine cExit (kSeqE (kSeqE (kBlkS (kSeqN ?_))))
        refine cSeq ?_
        refine cRegion ?_
        refine sLdAll A24 S24 rfl (by simp (disch := first | omega | (simp only [Array.size_push, Array.size_setIfInBounds]; done) | (simp only [Array.size_push, Array.size_setIfInBounds]; omega)) only [gP, gPn, gS, gSn, g2, g0]; try rfl) rfl ?_
        refine sStAll S24 rfl rfl (by simp (disch := first | omega | (simp only [Array.size_push, Array.size_setIfInBounds]; done) | (simp only [Array.size_push, Array.size_setIfInBounds]; omega)) only [gP, gPn, gS, gSn, g2, g0]; try rfl) rfl rfl (by kernel_rfl) ?_
        refine sAs (v := nv 0) rfl ?_
        refine sNil (kSeqN ?_)
        refine cRet ?_
        refine ⟨.inr rfl, _, resRs_agg2 A24 S24 rfl (gS rfl (live g0)) rfl, _, cs, rfl, (hO.only (.set m.size _ _) (by omega)).mono (by omega), Low.to_ext ((Ext.push _ _)) (hLo.le (Nat.le_succ _) |>.trans (.set (Nat.le_refl _) _)) (Nat.le_refl _)⟩

end Go.AM

/-! ### P23 -/
namespace Go.AM
open Go.Proofs
set_option maxRecDepth 100000
set_option linter.unusedVariables false
set_option linter.unusedSimpArgs false
theorem treeAt_get {W j : Nat} (hj : j < 2 * W - 1) : (treeAt W (W - 1))[j]? = some (if W ≤ j then [2 * (j - W), 2 * (j - W) + 1] else []) := by
  simp only [treeAt, List.getElem?_map, List.getElem?_range hj, Option.map_some]
  congr 1
  by_cases h : W ≤ j
  · rw [if_pos h, if_pos (by omega)]
  · rw [if_neg h, if_neg (by omega)]
def treeTo (W c : Nat) : List (List Nat) := (treeAt W (W - 1)).take c
theorem treeTo_len {W c : Nat} (h : c ≤ 2 * W - 1) : (treeTo W c).length = c := by
  rw [treeTo, List.length_take, treeAt_length]; omega
theorem treeTo_succ {W c : Nat} (h : c < 2 * W - 1) : treeTo W (c + 1) = treeTo W c ++ [if W ≤ c then [2 * (c - W), 2 * (c - W) + 1] else []] := by
  have hl : c < (treeAt W (W - 1)).length := by rw [treeAt_length]; exact h
  rw [treeTo, List.take_succ_eq_append_getElem hl, treeTo]
  have := treeAt_get h
  rw [List.getElem?_eq_getElem hl] at this
  rw [Option.some.inj this]
theorem treeTo_all (W : Nat) : treeTo W (2 * W - 1) = treeAt W (W - 1) := by
  rw [treeTo, List.take_of_length_le (by rw [treeAt_length]; exact Nat.le_refl _)]

structure TreeI (m : Mem) (W c : Nat) (v : Value) (cs : Array Value) (m' : Mem) : Prop where
  low : Low (m.size + 1) (m.push (.cells true #[.slice none 0 0])) m'
  sz : m.size + 2 ≤ m'.size
  g : Mem.get m' (m.size + 1) = .cells true #[v]
  own : OwnR (m.size + 1) m' v cs (ofs2 (treeTo W c))
  off : blkOf v ≠ some (m.size + 1)
  offs : ∀ (j : Nat) (s : Value), cs[j]? = some s → blkOf s ≠ some (m.size + 1)
theorem TreeI.ext {m : Mem} {W c : Nat} {v : Value} {cs : Array Value} {m' m'' : Mem} (h : TreeI m W c v cs m') (he : Ext m' m'') : TreeI m W c v cs m'' :=
  ⟨h.low.trans_ext he (by have := h.sz; omega), by have := h.sz; have := he.1; omega, he.cells h.g, h.own.ext he, h.off, h.offs⟩
theorem TreeI.add {m : Mem} {W c : Nat} {v v' s : Value} {cs : Array Value} {m' M4 : Mem} {row : List Nat} (h : TreeI m W c v cs m') (hs : OwnF (m.size + 2) m' s (ofs row)) (hap : ∀ b, blkOf s = some b → blkOf v ≠ some b) (hrow : treeTo W (c + 1) = treeTo W c ++ [row])
    (hO : OwnC (m.size + 1) M4 v' 1 ((ofs2 (treeTo W c)).length + 1) (cs ++ #[s])) (hL : Low (m.size + 1) (m'.push (.cells true #[s])) M4) (hG : Grew (m'.push (.cells true #[s])) v M4 v') :
    Mem.get M4 (m.size + 1) = .cells true #[v] ∧ TreeI m W (c + 1) v' (cs ++ #[s]) (M4.setIfInBounds (m.size + 1) (.cells true #[v'])) := by
  have hsz := h.sz
  have hM4 := hG.1
  simp only [Array.size_push] at hM4
  have g4 : Mem.get M4 (m.size + 1) = .cells true #[v] := by rw [hG.2.1 _ (by simp; omega) h.off, gPn (by omega), h.g]
  have hgr := (h.own.ext (.push _ (.cells true #[s]))).grew ((hs.mono (Nat.le_succ _)).ext (.push _ _)) hap hG hO
  have hv' := hG.off h.off (by simp; omega)
  have hr' : ∀ (j : Nat) (u : Value), (cs ++ #[s])[j]? = some u → blkOf u ≠ some (m.size + 1) := fun j u hu => by
    by_cases hj : j < cs.size
    · rw [Array.getElem?_append_left hj] at hu; exact h.offs j u hu
    · rw [Array.getElem?_append_right (by omega)] at hu
      match hd : j - cs.size, hu with
      | 0, hu =>
        obtain rfl : s = u := Option.some.inj hu
        intro e; have := (hs.lt e).1; omega
      | d + 1, hu => simp at hu
  refine ⟨g4, ⟨?_, by simp; omega, gS rfl (live g4), ?_, hv', hr'⟩⟩
  · exact h.low.trans ((Low.push _ (by omega) _).trans (hL.trans (.set (Nat.le_refl _) _)))
  · rw [hrow, show ofs2 (treeTo W c ++ [row]) = ofs2 (treeTo W c) ++ [ofs row] by simp [ofs2]]
    exact hgr.set hv' hr' _

theorem okf32 : okF Tryd.prog H0 32 53 = true := by kernel_rfl
theorem spec_refTree {m : Mem} {n : Int} : ∃ v m', ACalls Tryd.prog 32 #[.int .i64 n] m v m' ∧ (∃ w cs, v = .tuple #[.agg #[w], nv (treeE n)] ∧ OwnR m.size m' w cs (ofs2 (ifOk (treeE n) (treeM n.toNat) [])) ∧ Ext m m') := by
  unfold treeE
  refine wpF (args := [_]) mixed okf32 (fn := Tryd.f32) rfl rfl rfl (by simp) ?_
  refine cSeq ?_
  refine cRegion ?_
  refine sAlloc Z24 (by kernel_rfl) ?_
  refine sAs (v := nv 0) rfl ?_
  refine sNil (kSeqN ?_)
  refine cSeq ?_   -- seq 1
  refine cSeq ?_
  refine cRegion ?_
  refine sMv (v := .int _ _) rfl ?_
  refine sBinI (v := .bool (decide (n < 1))) rfl rfl rfl ?_
  refine sMv (v := .bool _) rfl ?_
  by_cases h1 : n < 1
  ·
    rw [decide_eq_true h1]
    refine sGno (q' := true) rfl rfl (by simp) ?_
    refine sGno (q' := true) rfl rfl (by simp) ?_
    refine sP (v := .bool _) rfl ?_
    refine sNil (kSeqN ?_)
    refine cCondT rfl ?_
    refine cSeq ?_
    refine cRegion ?_
    refine sBuild B24_0 ?_
    refine sStAll S24 rfl rfl (by simp (disch := first | omega | (simp only [Array.size_push, Array.size_setIfInBounds]; done) | (simp only [Array.size_push, Array.size_setIfInBounds]; omega)) only [gP, gPn, gS, gSn]; try rfl) rfl rfl (by kernel_rfl) ?_
    refine sAs (v := nv 2) rfl ?_
    refine sNil (kSeqN ?_)
    refine cRet (kSeqR ?_)
    exact ⟨.inr rfl, _, resRs_agg2 A24 S24 rfl (gS rfl (by simp)) rfl, _, _, by rw [if_pos (.inl h1)]; rfl, by rw [if_pos (.inl h1), ifOk_n (by decide)]; exact .nil _ _, (Ext.push _ _).set (Nat.le_refl _) _⟩
  ·
    rw [decide_eq_false h1]
    refine sG rfl rfl ?_
    refine sMv (v := .int _ _) rfl ?_
    refine sG rfl rfl ?_
    refine sBinI (v := .bool (decide (n > 3))) rfl rfl rfl ?_
    refine sP (v := .bool _) rfl ?_
    refine sNil (kSeqN ?_)
    refine cCond (p := n > 3) rfl (fun c1 => ?_) (fun c1 => ?_)
    ·
      refine cSeq ?_
      refine cRegion ?_
      refine sBuild B24_0 ?_
      refine sStAll S24 rfl rfl (by simp (disch := first | omega | (simp only [Array.size_push, Array.size_setIfInBounds]; done) | (simp only [Array.size_push, Array.size_setIfInBounds]; omega)) only [gP, gPn, gS, gSn]; try rfl) rfl rfl (by kernel_rfl) ?_
      refine sAs (v := nv 2) rfl ?_
      refine sNil (kSeqN ?_)
      refine cRet (kSeqR ?_)
      exact ⟨.inr rfl, _, resRs_agg2 A24 S24 rfl (gS rfl (by simp)) rfl, _, _, by rw [if_pos (.inr c1)]; rfl, by rw [if_pos (.inr c1), ifOk_n (by decide)]; exact .nil _ _, (Ext.push _ _).set (Nat.le_refl _) _⟩
    ·
      rw [if_neg (by omega), ifOk_0 rfl]
      obtain ⟨N, rfl⟩ : ∃ N : Nat, n = Int.ofNat N := ⟨n.toNat, by simp; omega⟩
      have hN1 : 1 ≤ N := by simp at h1; omega
      have hN : N ≤ 3 := by simp at c1; omega
      have hp := Nat.pow_le_pow_right (n := 2) (by omega) (show N - 1 ≤ 2 by omega)
      have hp1 := Nat.two_pow_pos (N - 1)
      have htr : treeM (Int.ofNat N).toNat = treeTo (2 ^ (N - 1)) (2 * 2 ^ (N - 1) - 1) := (treeTo_all _).symm
      rw [htr]
      refine cSkip (kSeqN ?_)
      refine cSeq ?_
      refine cRegion ?_
      refine sAllocB (bl := m.size + 1) (by simp) Z24 (by kernel_rfl) ?_
      refine sNil (kSeqN ?_)
      refine cSeq ?_
      refine cSeq ?_
      refine cRegion ?_
      refine sMv (v := nv N) rfl ?_
      refine sBin (v := nv (N - 1)) rfl rfl (aInt_sub (b := 1) (by omega)) ?_
      refine sBin rfl rfl (aInt_shl (a := 1) (b := N - 1) (by omega)) ?_
      rw [Nat.shiftLeft_eq, Nat.one_mul]
      have hWx : 2 ^ (N - 1) = 1 ∨ 2 ^ (N - 1) = 2 ∨ 2 ^ (N - 1) = 4 := by
        have : N = 1 ∨ N = 2 ∨ N = 3 := by omega
        rcases this with rfl | rfl | rfl
        · exact .inl rfl
        · exact .inr (.inl rfl)
        · exact .inr (.inr rfl)
      generalize hMM : 2 ^ (N - 1) = W at *
      refine sAs (v := nv W) rfl ?_
      refine sNil (kSeqN ?_)
      refine cBlock ?_
      refine wpC_loop (fun k ρ m' => ∃ wd c v cs, k = wd ∧ ((wd = 0 ∧ c = 2 * W - 1) ∨ ((wd = 1 ∨ wd = 2 ∨ wd = 4) ∧ wd ≤ W ∧ c = 2 * W - 2 * wd)) ∧ TreeI m W c v cs m' ∧ Has ρ [(2, .pointer (some ⟨m.size, 0, none⟩)), (4, .pointer (some ⟨m.size + 1, 0, none⟩)), (5, nv wd)]) ⟨W, 0, .slice none 0 0, #[], rfl, .inr ⟨hWx, Nat.le_refl _, by omega⟩, ⟨.push _ (by simp) _, by simp, gP (by simp), .nil _ _, by simp [blkOf], by simp⟩, rfl, rfl, rfl, trivial⟩ ?_
      rintro k ρ m' ⟨wd, c, v, cs, rfl, hwd, hT, hh⟩
      obtain ⟨qv, cv, rfl⟩ := hT.own.1.len
      rw [hh.env]; clear hh
      have hg := hT.g
      refine cSeq ?_   -- seq 8
      refine cSeq ?_
      refine cRegion ?_
      refine sMv (v := nv _) rfl ?_
      refine sBin rfl rfl (aInt_gtr (b := 0)) ?_
      refine sNil (kSeqN ?_)
      refine cCond rfl (fun c2 => ?_) (fun c2 => ?_)
      ·
        have hwd' := hwd.resolve_left (fun h => by omega)
        have hc : c ≤ 2 * W - 1 := by omega
        have hlen : (ofs2 (treeTo W c)).length = c := by rw [ofs2_length, treeTo_len hc]
        refine cSkip (kSeqN ?_)
        refine cSeq ?_
        refine cBlock ?_
        refine cSeq ?_
        refine cRegion ?_
        refine sFA F24_0 rfl ?_
        refine sLd (v := .slice _ _ _) A22 rfl (by simp (disch := first | omega | (simp only [Array.size_push, Array.size_setIfInBounds]; done) | (simp only [Array.size_push, Array.size_setIfInBounds]; omega)) only [gP, gPn, gS, gSn, hg]; try rfl) rfl ?_
        refine sLen T22 rfl ?_
        rw [hlen]
        refine sMv (v := nv _) rfl ?_
        refine sBin (a := 2) (b := k) rfl rfl (aInt_mul (by omega)) ?_
        refine sBinI (v := .int .i64 (Int.ofNat c - Int.ofNat (2 * k))) (a := Int.ofNat c) (b := Int.ofNat (2 * k)) rfl rfl (aInt_subI (by simp; omega)) ?_
        refine sAs (v := .int _ _) rfl ?_
        refine sNil (kSeqN ?_)
        refine cSeq ?_
        refine cRegion ?_
        refine sAs (v := nv 0) rfl ?_
        refine sNil (kSeqN ?_)
        refine cBlock ?_
        refine wpC_loop (fun k2 ρ m' => ∃ i v cs, k2 = k - i ∧ i ≤ k ∧ TreeI m W (c + i) v cs m' ∧ Has ρ [(2, .pointer (some ⟨m.size, 0, none⟩)), (4, .pointer (some ⟨m.size + 1, 0, none⟩)), (5, nv k), (6, .int .i64 (Int.ofNat c - Int.ofNat (2 * k))), (7, nv i)]) ⟨0, _, cs, rfl, Nat.zero_le _, hT, rfl, rfl, rfl, rfl, rfl, trivial⟩ ?_
        clear hT hg
        rintro k2 ρ m' ⟨i, v, cs, rfl, hi, hT, hh⟩
        obtain ⟨qv, cv, rfl⟩ := hT.own.1.len
        rw [hh.env]; clear hh
        have hg := hT.g
        refine cSeq ?_   -- seq 13
        refine cSeq ?_
        refine cRegion ?_
        refine sMv (v := nv _) rfl ?_
        refine sMv (v := nv _) rfl ?_
        refine sBin rfl rfl (aInt_lss) ?_
        refine sNil (kSeqN ?_)
        refine cCond rfl (fun c3 => ?_) (fun c3 => ?_)
        ·
          have hci : c + i < 2 * W - 1 := by omega
          have hsucc := treeTo_succ hci
          have hlen2 : (ofs2 (treeTo W (c + i))).length = c + i := by rw [ofs2_length, treeTo_len (by omega)]
          have hsz := hT.sz
          refine cSkip (kSeqN ?_)
          refine cSeq ?_
          refine cBlock ?_
          refine cSeq ?_
          refine cRegion ?_
          refine sAs (v := .slice _ _ _) rfl ?_
          refine sNil (kSeqN ?_)
          refine cCut (fun ρ m2 => ∃ q n cc row, TreeI m W (c + i) (.slice qv (ofs2 (treeTo W (c + i))).length cv) cs m2 ∧ treeTo W (c + i + 1) = treeTo W (c + i) ++ [row] ∧ OwnF (m.size + 2) m2 (.slice q n cc) (ofs row) ∧ (∀ b, blkOf (.slice q n cc) = some b → m'.size ≤ b) ∧ Ext m' m2 ∧ Has ρ [(2, .pointer (some ⟨m.size, 0, none⟩)), (4, .pointer (some ⟨m.size + 1, 0, none⟩)), (5, nv k), (6, .int .i64 (Int.ofNat c - Int.ofNat (2 * k))), (7, nv i), (8, .slice q n cc)]) ?_ ?_
          ·
            refine cSeq ?_
            refine cRegion ?_
            refine sMv (v := .int _ _) rfl ?_
            refine sBinI (b := 0) rfl rfl aInt_geqI ?_
            refine sNil (kSeqN ?_)
            refine cCond (p := 0 ≤ Int.ofNat c - Int.ofNat (2 * k)) rfl (fun c4 => ?_) (fun c4 => ?_)
            ·
              obtain ⟨d, hd⟩ : ∃ d : Nat, Int.ofNat c - Int.ofNat (2 * k) = Int.ofNat d := ⟨c - 2 * k, by simp at c4 ⊢; omega⟩
              have hdc : d + 2 * k = c := by simp at hd; omega
              rw [hd]
              have hrow : (if W ≤ c + i then [2 * (c + i - W), 2 * (c + i - W) + 1] else []) = [d + 2 * i, d + 2 * i + 1] := by
                rw [if_pos (by omega), show 2 * (c + i - W) = d + 2 * i by omega]
              rw [hrow] at hsucc
              refine cRegion ?_
              refine sMv (v := nv d) rfl ?_
              refine sMv (v := nv _) rfl ?_
              refine sBin (a := 2) (b := i) rfl rfl (aInt_mul (by omega)) ?_
              refine sBin rfl rfl (aInt_add (by omega)) ?_
              refine sMv (v := nv d) rfl ?_
              refine sMv (v := nv _) rfl ?_
              refine sBin (a := 2) (b := i) rfl rfl (aInt_mul (by omega)) ?_
              refine sBin rfl rfl (aInt_add (by omega)) ?_
              refine sBin rfl rfl (aInt_add (b := 1) (by omega)) ?_
              refine sBuildS T25 S3 Z3 (by decide) (by decide) (by decide) (by kernel_rfl) fill2n rfl ?_
              have hT' := hT.ext (.push _ (.cells true #[nv (d + 2 * i), nv (d + 2 * i + 1)]))
              have hrowO : OwnF (m.size + 2) (m'.push (.cells true #[nv (d + 2 * i), nv (d + 2 * i + 1)])) (.slice (some ⟨m'.size, 0, some 1⟩) 2 2) (ofs [d + 2 * i, d + 2 * i + 1]) := OwnF.ofCells (l := [d + 2 * i, d + 2 * i + 1]) (r := []) hsz (gP rfl)
              refine sAs (v := .slice _ _ _) rfl ?_
              refine sNil (kSeqN ?_)
              rw [← hd]
              exact ⟨_, _, _, _, hT', hsucc, hrowO, fun b hb => by
                have h3 : m'.size = b := Option.some.inj hb
                omega, .push _ _, rfl, rfl, rfl, rfl, rfl, rfl, trivial⟩
            ·
              have hrow : (if W ≤ c + i then [2 * (c + i - W), 2 * (c + i - W) + 1] else []) = [] := by
                simp at c4
                rw [if_neg (by omega)]
              rw [hrow] at hsucc
              refine cSkip (kSeqN ?_)
              exact ⟨_, _, _, _, hT, hsucc, .nil _ _, fun b hb => by (cases hb), .refl _, rfl, rfl, rfl, rfl, rfl, rfl, trivial⟩
          rintro ρ m2 ⟨q, n, cc, row, hT', hsucc', hrowO, hfresh, hx2, hh⟩
          rw [hh.env]; clear hh
          have hg' := hT'.g
          refine cRegion ?_
          refine sFA F24_0 rfl ?_
          refine sLd A22 rfl (by simp (disch := first | omega | (simp only [Array.size_push, Array.size_setIfInBounds]; done) | (simp only [Array.size_push, Array.size_setIfInBounds]; omega)) only [gP, gPn, gS, gSn, hg']; try rfl) rfl ?_
          refine sMv (v := .slice _ _ _) rfl ?_
          refine sBuildS T22 S25 Z25 (by decide) (by decide) (by decide) (by kernel_rfl) fillV rfl ?_
          refine sAppC El22 rfl rfl (N := m.size + 1) (n := (ofs2 (treeTo W (c + i))).length) (cs := cs) (d := #[.slice q n cc]) (hT'.own.ext (.push _ _)).1 (gP rfl) rfl (by kernel_rfl) (by have := hT'.sz; simp; omega) (by omega) fun v' m4 hO4 hL4 hG4 => ?_
          obtain ⟨g4, hT4⟩ := hT'.add hrowO (fun b hb e => by have := hfresh b hb; have := (hT.own.1.lt e).2; omega) hsucc' hO4 hL4 hG4
          obtain ⟨q4, cp4, rfl⟩ := hO4.len
          refine sFA F24_0 rfl ?_
          refine sSt (v := .slice _ _ _) S22 rfl rfl g4 (by simp) rfl rfl ?_
          refine sNil (kBlkN (kSeqN ?_))
          refine cRegion ?_
          refine sMv (v := nv _) rfl ?_
          refine sBin rfl rfl (aInt_add (b := 1) (by omega)) ?_
          refine sAs (v := nv _) rfl ?_
          refine sNil (kSeqN ?_)
          refine ⟨_, ?_, i + 1, _, _, rfl, by omega, hT4, rfl, rfl, rfl, rfl, rfl, trivial⟩
          omega
        ·
          obtain rfl : i = k := by omega
          refine cExit (kSeqE (kSeqE (kBlkS (kBlkN (kSeqN ?_)))))
          refine cRegion ?_
          refine sMv (v := nv _) rfl ?_
          refine sBin (a := i) (b := 2) rfl rfl (aInt_quo (b := 2) (by omega)) ?_
          refine sAs (v := nv _) rfl ?_
          refine sNil (kSeqN ?_)
          refine ⟨i / 2, by omega, i / 2, c + i, _, cs, rfl, ?_, hT, rfl, rfl, rfl, trivial⟩
          rcases hwd'.1 with h | h | h
          · exact .inl ⟨by omega, by omega⟩
          · exact .inr ⟨by omega, by omega, by omega⟩
          · exact .inr ⟨by omega, by omega, by omega⟩
      ·
        have h0 : k = 0 := by omega
        have hc : c = 2 * W - 1 := by omega
        subst hc
        have g0 := hT.low.cells (show m.size < m.size + 1 by omega) (gP rfl)
        refine cExit (kSeqE (kSeqE (kBlkS (kSeqN ?_))))
        refine cSeq ?_
        refine cRegion ?_
        refine sLdAll A24 S24 rfl (by simp (disch := first | omega | (simp only [Array.size_push, Array.size_setIfInBounds]; done) | (simp only [Array.size_push, Array.size_setIfInBounds]; omega)) only [gP, gPn, gS, gSn, hg, g0]; try rfl) rfl ?_
        refine sStAll S24 rfl rfl (by simp (disch := first | omega | (simp only [Array.size_push, Array.size_setIfInBounds]; done) | (simp only [Array.size_push, Array.size_setIfInBounds]; omega)) only [gP, gPn, gS, gSn, hg, g0]; try rfl) rfl rfl (by kernel_rfl) ?_
        refine sAs (v := nv 0) rfl ?_
        refine sNil (kSeqN ?_)
        refine cRet ?_
        exact ⟨.inr rfl, _, resRs_agg2 A24 S24 rfl (gS rfl (live g0)) rfl, _, cs, rfl, (hT.own.only (.set m.size _ _) (by omega)).mono (by omega), Low.to_ext ((Ext.push _ _)) (hT.low.le (Nat.le_succ _) |>.trans (.set (Nat.le_refl _) _)) (Nat.le_refl _)⟩

end Go.AM
