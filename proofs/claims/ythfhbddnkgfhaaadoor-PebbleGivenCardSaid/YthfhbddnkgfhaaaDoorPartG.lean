/- Part 7 of the proof: Contracts of the program's functions. -/
import Derived.Test.YthfhbddnkgfhaaaDoorPartF
import Derived.Test.YthfhbddnkgfhaaaDoorRows
import Derived.ProofKit
import Derived.LaidMore
import Derived.LaidHandle
import Derived.OpenShut
import Derived.Stop.Joined
import Derived.Below
import Derived.Carry
set_option linter.unusedVariables false
set_option linter.unusedSimpArgs false
/-! ### P24 -/
namespace Go.AM
open Go.Proofs
set_option maxRecDepth 100000
set_option linter.unusedVariables false
set_option linter.unusedSimpArgs false
/-- A slice that may be wiped. -/
def Wr (N M : Nat) (m : Mem) (s : Value) (n : Nat) : Prop := (s = .slice none 0 0 ∧ n = 0) ∨ ∃ b cap c, s = .slice (some ⟨b, 0, some 1⟩) n cap ∧ (N ≤ b ∧ b < M) ∧ Mem.get m b = .cells true c ∧ n ≤ c.size
/-- What wiping leaves. -/
def Wipe (N M : Nat) (m m' : Mem) : Prop := m'.size = m.size ∧ (∀ b, b < N ∨ M ≤ b → Mem.get m' b = Mem.get m b) ∧ ∀ b c, Mem.get m b = .cells true c → ∃ c', Mem.get m' b = .cells true c' ∧ c'.size = c.size
theorem Wipe.refl (N M : Nat) (m : Mem) : Wipe N M m m := ⟨rfl, fun _ _ => rfl, fun b c h => ⟨c, h, rfl⟩⟩
theorem Wipe.trans {N M : Nat} {a b c : Mem} (h : Wipe N M a b) (h' : Wipe N M b c) : Wipe N M a c := ⟨h'.1.trans h.1, fun i hi => (h'.2.1 i hi).trans (h.2.1 i hi), fun i x hx => by
  obtain ⟨y, hy, e⟩ := h.2.2 i x hx
  obtain ⟨z, hz, e'⟩ := h'.2.2 i y hy
  exact ⟨z, hz, e'.trans e⟩⟩
theorem Wipe.low {N M : Nat} {m m' : Mem} (h : Wipe N M m m') : Low N m m' := ⟨by rw [h.1]; exact Nat.le_refl _, fun b hb => h.2.1 b (.inl hb)⟩
theorem Wr.wipe {N M : Nat} {m m' : Mem} {s : Value} {n : Nat} (h : Wr N M m s n) (hw : Wipe N M m m') : Wr N M m' s n := by
  rcases h with h | ⟨b, cap, c, h1, h2, h3, h4⟩
  · exact .inl h
  · obtain ⟨c', h5, h6⟩ := hw.2.2 b c h3
    exact .inr ⟨b, cap, c', h1, h2, h5, by omega⟩
theorem OwnF.wr {N M : Nat} {m : Mem} {v : Value} {l : List Int} (h : OwnF N m v l) (hM : ∀ b, blkOf v = some b → b < M) : Wr N M m v l.length := by
  rcases h with ⟨rfl, rfl⟩ | ⟨b, cap, c, h1, h2, h3, h4, h5, _⟩
  · exact .inl ⟨rfl, rfl⟩
  · exact .inr ⟨b, cap, c, h1, ⟨h2, hM b (by rw [h1]; rfl)⟩, h3, by omega⟩
theorem zeroCells_one (z : Value) (n : Nat) : Builtin.zeroCells #[z] n = Array.replicate n z := by
  unfold Builtin.zeroCells
  apply Array.ext
  · simp
  · intro i h1 h2
    simp [Nat.mod_one]
theorem sClrW {P : Program} {ρ : Env} {m : Mem} {K : Env → Mem → Prop} {ops : Array Oper} {l : List Oper} {d : Option Nat} {ty t e : TypeId} {pos : String} {af : Array Edge} {x : Operand} {s z : Value} {N M n : Nat}
    (ht : undOf P t = some (.slice e)) (hz : zeroOf P e = some z) (h1 : z.cells = #[z]) (h2 : flat0 z = true) (h3 : Value.oneCell' z = true) (hx : evR ρ x = s) (hs : Wr N M m s n)
    (hk : ∀ m', Wipe N M m m' → (∀ b, blkOf s ≠ some b → Mem.get m' b = Mem.get m b) → wpOps P ops K l (updO ρ d (.tuple #[])) m') : wpOps P ops K (⟨d, .call ⟨.builtin .clear, ⟨[x]⟩, ⟨[t]⟩⟩, ty, pos, af, none⟩ :: l) ρ m := by
  rcases hs with ⟨rfl, _⟩ | ⟨b, cap, c, rfl, hN, hb, hn⟩
  · refine sO (opF_eff rfl rfl ?_) (hk m (.refl _ _ _) fun _ _ => rfl)
    simp only [aEff, hx, aClear, ht]
  · by_cases h0 : n = 0
    · refine sO (opF_eff rfl rfl ?_) (hk m (.refl _ _ _) fun _ _ => rfl)
      simp only [aEff, hx, aClear, ht, h0, if_true]
    · refine sO (opF_eff rfl rfl ?_) (hk (m.setIfInBounds b (.cells true (lay c 0 (Array.replicate n z)))) ⟨by simp, fun i hi => gSn (by omega), fun i c' hi => ?_⟩ fun i hi => gSn fun e => hi (by rw [← e]; rfl))
      · simp only [aEff, hx, aClear, ht, if_neg h0, hz, hb, h1, zeroCells_one]
        rw [if_pos ⟨by simp, by simp [h2], by simp; omega, by rw [Array.all_eq_true]; intro i hi; simp [h3]⟩]
      · by_cases hib : b = i
        · subst hib
          rw [hb] at hi; cases hi
          exact ⟨_, gS rfl (live hb), lay_size ..⟩
        · exact ⟨c', (gSn hib).trans hi, rfl⟩

theorem okf35 : okF Tryd.prog H0 35 13 = true := by kernel_rfl
theorem spec_SpoilRows {m : Mem} {v : Value} {cs : Array Value} {G : List (List Int)} {N M : Nat} (hO : OwnR N m v cs G) (hl : G.length < 1000000) (hMv : ∀ b, blkOf v = some b → b < M) (hMs : ∀ (i : Nat) (s : Value), cs[i]? = some s → ∀ b, blkOf s = some b → b < M) : ∃ w m', ACalls Tryd.prog 35 #[v] m w m' ∧ (Wipe N M m m') := by
  have hsz := hO.1.size
  have hvw : Wr N M m v G.length := by
    rcases hO.1 with ⟨rfl, h, _⟩ | ⟨b, cap, c, h1, h2, h3, h4, h5, _⟩
    · exact .inl ⟨rfl, h⟩
    · exact .inr ⟨b, cap, c, h1, ⟨h2, hMv b (by rw [h1]; rfl)⟩, h3, by omega⟩
  have hrows : ∀ i, i < G.length → ∃ s n, cs[i]? = some s ∧ Wr N M m s n ∧ (∃ q c, s = .slice q n c) ∧ ∀ b, blkOf s = some b → blkOf v ≠ some b := fun i hi => by
    obtain ⟨s, hs, ho, hb⟩ := hO.2 i _ (List.getElem?_eq_getElem hi)
    obtain ⟨q, c, e⟩ := ho.ints.len
    exact ⟨s, _, hs, ho.wr (hMs i s hs), ⟨q, c, e⟩, hb⟩
  obtain ⟨q, cap, rfl⟩ := hO.1.len
  refine wpF (args := [_]) mixed okf35 (fn := Tryd.f35) rfl rfl rfl (by simp) ?_
  refine cSeq ?_
  refine cSeq ?_
  refine cRegion ?_
  refine sMv (v := .slice _ _ _) rfl ?_
  refine sLen T22 rfl ?_
  refine sMv (v := nv 0) rfl ?_
  refine sNil (kSeqN ?_)
  refine cBlock ?_
  refine wpC_loop (fun k ρ m' => ∃ i, k = G.length - i ∧ i ≤ G.length ∧ Wipe N M m m' ∧ (∀ b, blkOf (.slice q G.length cap) = some b → Mem.get m' b = Mem.get m b) ∧ Has ρ [(0, .slice q G.length cap), (4, .slice q G.length cap), (5, nv G.length), (6, nv i)]) ⟨0, rfl, Nat.zero_le _, .refl _ _ _, fun _ _ => rfl, rfl, rfl, rfl, rfl, trivial⟩ ?_
  rintro k ρ m' ⟨i, rfl, hi, hw, hkeep, hh⟩
  rw [hh.env]; clear hh
  refine cSeq ?_
  refine cRegion ?_
  refine sBin rfl rfl (aInt_lss) ?_
  refine sNil (kSeqN ?_)
  refine cSeq ?_   -- seq 3
  refine cCond rfl (fun c0 => ?_) (fun c0 => ?_)
  ·
    obtain ⟨b1, p1, cc, e1, hb1, g1, hc1, x1⟩ := hO.1.at (by omega)
    cases e1
    obtain ⟨s, n, hs, hsw, ⟨qs, c', rfl⟩, hsb⟩ := hrows i c0
    refine cSkip (kSeqN ?_)
    refine cSeq ?_
    refine cBlock ?_
    refine cSeq ?_
    refine cRegion ?_
    refine sIx T22 S25 rfl rfl (by omega) ?_
    refine sLd (v := .slice qs n c') A25 rfl ((hkeep b1 rfl).trans g1) (by rw [Nat.zero_add, Nat.mul_one, x1 i (by omega)]; exact hs) ?_
    refine sAs (v := .slice _ _ _) rfl ?_
    refine sNil (kSeqN ?_)
    refine cRegion ?_
    refine sMv (v := .slice _ _ _) rfl ?_
    refine sClrW (N := N) (M := M) T25 Z3 rfl rfl rfl rfl (hsw.wipe hw) fun m2 hw2 hk2 => ?_
    refine sNil (kBlkN (kSeqN ?_))
    refine cRegion ?_
    refine sBin rfl rfl (aInt_add (b := 1) (by omega)) ?_
    refine sMv (v := nv _) rfl ?_
    refine sNil (kSeqN ?_)
    refine ⟨_, ?_, i + 1, rfl, by omega, hw.trans hw2, fun b hb => (hk2 b (fun e => hsb b e hb)).trans (hkeep b hb), rfl, rfl, rfl, rfl, trivial⟩
    omega
  ·
    refine cExit (kSeqE (kSeqE (kBlkS (kSeqN ?_))))
    refine cRegion ?_
    refine sMv (v := .slice _ _ _) rfl ?_
    refine sClrW (N := N) (M := M) T22 Z25 rfl rfl rfl rfl (hvw.wipe hw) fun m2 hw2 hk2 => ?_
    refine sNil ?_
    exact ⟨.inl rfl, _, rfl, hw.trans hw2⟩

end Go.AM

/-! ### P25 -/
namespace Go.AM
open Go.Proofs
set_option maxRecDepth 100000
set_option linter.unusedVariables false
set_option linter.unusedSimpArgs false
def Small (G : List (List Int)) : Prop := G.length ≤ 1000 ∧ ∀ g ∈ G, g.length ≤ 1000
theorem gv_same {m : Mem} {a b : Value} {G : List (List Int)} (ha : RowsAt m a G) (hb : RowsAt m b G) (h : Small G) : ∃ m', ACalls Tryd.prog 24 #[.agg #[a], .agg #[b]] m (.bool true) m' ∧ Ext m m' := by
  obtain ⟨v, m', h, rfl, he⟩ := spec_same ha hb (by have := h.1; omega) (fun g hg => by have := h.2 g hg; omega)
  rw [decide_eq_true rfl] at h
  exact ⟨m', h, he⟩

theorem OwnR.bound {N : Nat} {m : Mem} {v : Value} {cs : Array Value} {G : List (List Int)} (h : OwnR N m v cs G) : (∀ b, blkOf v = some b → b < m.size) ∧ ∀ (i : Nat) (s : Value), cs[i]? = some s → ∀ b, blkOf s = some b → b < m.size := by
  refine ⟨fun b hb => (h.1.lt hb).2, fun i s hs b hb => ?_⟩
  have hsz := h.1.size
  have hi := (Array.getElem?_eq_some_iff.1 hs).1
  obtain ⟨s', hs', ho, _⟩ := h.2 i _ (List.getElem?_eq_getElem (by omega))
  rw [hs] at hs'
  obtain rfl := Option.some.inj hs'
  exact (ho.lt hb).2
theorem ifOk_small {e : Nat} {G : List (List Nat)} (h : e = 0 → Small (ofs2 G)) : Small (ofs2 (ifOk e G [])) := by
  by_cases h0 : e = 0
  · rw [ifOk_0 h0]; exact h h0
  · rw [ifOk_n h0]; exact ⟨by simp, by simp [ofs2]⟩
theorem small_of {G : List (List Nat)} (h1 : G.length ≤ 1000) (h2 : ∀ g ∈ G, g.length ≤ 1000) : Small (ofs2 G) := by
  refine ⟨by rw [ofs2_length]; exact h1, fun g hg => ?_⟩
  simp only [ofs2, List.mem_map] at hg
  obtain ⟨g', hg', rfl⟩ := hg
  rw [ofs_length]; exact h2 g' hg'
theorem gv_line (n : Int) : Small (ofs2 (ifOk (benE n) (lineM n.toNat) [])) := ifOk_small fun h => by
  unfold benE at h
  split at h
  · cases h
  refine small_of (by rw [lineM, lineAt_length]; omega) fun g hg => ?_
  simp only [lineM, lineAt, List.mem_map] at hg
  obtain ⟨j, _, rfl⟩ := hg
  split <;> simp
theorem gv_tree (n : Int) : Small (ofs2 (ifOk (treeE n) (treeM n.toNat) [])) := ifOk_small fun h => by
  unfold treeE at h
  split at h
  · cases h
  have hp := Nat.pow_le_pow_right (n := 2) (by omega) (show n.toNat - 1 ≤ 2 by omega)
  refine small_of (by rw [treeM, treeAt_length]; omega) fun g hg => ?_
  simp only [treeM, treeAt, List.mem_map] at hg
  obtain ⟨j, _, rfl⟩ := hg
  split <;> simp
theorem gv_ben (n : Int) : (ifOk (benE n) (benM n.toNat) []).length ≤ 59049 := by
  by_cases h0 : benE n = 0
  · rw [ifOk_0 h0]; exact benF_len 10 0 _
  · rw [ifOk_n h0]; simp

theorem okf5 : okF Tryd.prog H0 5 89 = true := by kernel_rfl
theorem spec_Given {m : Mem} (hGl : GlobP m) : ∃ v m', ACalls Tryd.prog 5 #[] m v m' ∧ (v = .bool true ∧ True) := by
  refine wpF (args := []) mixed okf5 (fn := Tryd.f5) rfl rfl rfl (by simp) ?_
  refine cSeq ?_
  refine cRegion ?_
  refine sAs (v := .bool _) rfl ?_
  refine sNil (kSeqN ?_)
  refine cSeq ?_
  refine cSeq ?_
  refine cRegion ?_
  refine sAs (v := .int _ _) rfl ?_
  refine sNil (kSeqN ?_)
  refine cBlock ?_
  refine wpC_loop (fun k ρ m1 => ∃ j, k = 14 - j ∧ j ≤ 14 ∧ Ext m m1 ∧ Has ρ [(1, .int .i64 (Int.ofNat j - 1))]) ⟨0, rfl, Nat.zero_le _, .refl _, rfl, trivial⟩ ?_
  rintro k ρ m1 ⟨j, rfl, hj, E, hh⟩
  rw [hh.env]; clear hh
  have hm1 := E.1
  refine cSeq ?_   -- seq 3
  refine cSeq ?_
  refine cRegion ?_
  refine sMv (v := .int _ _) rfl ?_
  refine sBinI (b := 13) rfl rfl aInt_lssI ?_
  refine sNil (kSeqN ?_)
  refine cCond rfl (fun c0 => ?_) (fun c0 => ?_)
  ·
    have hj13 : j < 14 := by simp at c0; omega
    refine cSkip (kSeqN ?_)
    refine cSeq ?_
    refine cBlock ?_
    refine cSeq ?_
    refine cRegion ?_
    refine sMv (v := .int _ _) rfl ?_
    obtain ⟨vA, mA, h_, wA, csA, rfl, rA, e_⟩ := spec_Line (m := m1) (n := Int.ofNat j - 1)
    obtain ⟨qA, cA, rfl⟩ := rA.1.len
    have bA := rA.bound
    have zzA := e_.1
    refine sCall1 rfl call29 rfl h_ ?_
    clear h_
    have x_ : Ext m1 mA := e_
    replace E := E.trans x_
    clear x_
    clear e_
    have EA : Ext mA mA := .refl _
    refine sMv (v := .tuple _) rfl ?_
    refine sP (v := .agg _) rfl ?_   -- extract ['t18', '0']
    refine sP (v := nv _) rfl ?_   -- extract ['t18', '1']
    refine sAlloc Z24 (by kernel_rfl) ?_
    refine sStNA S24 rfl rfl rfl rfl (by kernel_rfl) ?_
    have x_ : Ext mA (mA.push (.cells true #[.slice qA (ofs2 (ifOk (benE (Int.ofNat j - 1)) (lineM (Int.ofNat j - 1).toNat) [])).length cA])) := .push _ _
    replace E := E.trans x_
    replace rA := rA.ext x_
    replace EA := EA.trans x_
    clear x_
    have gA : Mem.get (mA.push (.cells true #[.slice qA (ofs2 (ifOk (benE (Int.ofNat j - 1)) (lineM (Int.ofNat j - 1).toNat) [])).length cA])) mA.size = .cells true #[.slice qA (ofs2 (ifOk (benE (Int.ofNat j - 1)) (lineM (Int.ofNat j - 1).toNat) [])).length cA] := gP rfl
    refine sAs (v := nv _) rfl ?_
    refine sNil (kSeqN ?_)
    refine cSeq ?_
    refine cRegion ?_
    refine sMv (v := .int _ _) rfl ?_
    obtain ⟨vB, mB, h_, wB, csB, rfl, rB, e_⟩ := spec_refLine (m := (mA.push (.cells true #[.slice qA (ofs2 (ifOk (benE (Int.ofNat j - 1)) (lineM (Int.ofNat j - 1).toNat) [])).length cA]))) (n := Int.ofNat j - 1)
    obtain ⟨qB, cB, rfl⟩ := rB.1.len
    have bB := rB.bound
    have zzB := e_.1
    refine sCall1 rfl call30 rfl h_ ?_
    clear h_
    have x_ : Ext (mA.push (.cells true #[.slice qA (ofs2 (ifOk (benE (Int.ofNat j - 1)) (lineM (Int.ofNat j - 1).toNat) [])).length cA])) mB := e_
    replace E := E.trans x_
    replace rA := rA.ext x_
    replace EA := EA.trans x_
    replace gA := x_.cells gA
    clear x_
    clear e_
    refine sMv (v := .tuple _) rfl ?_
    refine sP (v := .agg _) rfl ?_   -- extract ['t23', '0']
    refine sP (v := nv _) rfl ?_   -- extract ['t23', '1']
    refine sAlloc Z24 (by kernel_rfl) ?_
    refine sStNA S24 rfl rfl rfl rfl (by kernel_rfl) ?_
    have x_ : Ext mB (mB.push (.cells true #[.slice qB (ofs2 (ifOk (benE (Int.ofNat j - 1)) (lineM (Int.ofNat j - 1).toNat) [])).length cB])) := .push _ _
    replace E := E.trans x_
    replace rA := rA.ext x_
    replace EA := EA.trans x_
    replace gA := x_.cells gA
    replace rB := rB.ext x_
    clear x_
    have gB : Mem.get (mB.push (.cells true #[.slice qB (ofs2 (ifOk (benE (Int.ofNat j - 1)) (lineM (Int.ofNat j - 1).toNat) [])).length cB])) mB.size = .cells true #[.slice qB (ofs2 (ifOk (benE (Int.ofNat j - 1)) (lineM (Int.ofNat j - 1).toNat) [])).length cB] := gP rfl
    refine sAs (v := nv _) rfl ?_
    refine sNil (kSeqN ?_)
    refine cSeq ?_
    refine cRegion ?_
    refine sMv (v := .int _ _) rfl ?_
    have zC : mA.size ≤ (mB.push (.cells true #[.slice qB (ofs2 (ifOk (benE (Int.ofNat j - 1)) (lineM (Int.ofNat j - 1).toNat) [])).length cB])).size := EA.1
    obtain ⟨vC, mC, h_, wC, csC, rfl, rC, e_⟩ := spec_Tree (m := (mB.push (.cells true #[.slice qB (ofs2 (ifOk (benE (Int.ofNat j - 1)) (lineM (Int.ofNat j - 1).toNat) [])).length cB]))) (n := Int.ofNat j - 1)
    obtain ⟨qC, cC, rfl⟩ := rC.1.len
    have bC := rC.bound
    have zzC := e_.1
    refine sCall1 rfl call31 rfl h_ ?_
    clear h_
    have x_ : Ext (mB.push (.cells true #[.slice qB (ofs2 (ifOk (benE (Int.ofNat j - 1)) (lineM (Int.ofNat j - 1).toNat) [])).length cB])) mC := e_
    replace E := E.trans x_
    replace rA := rA.ext x_
    replace EA := EA.trans x_
    replace gA := x_.cells gA
    replace rB := rB.ext x_
    replace gB := x_.cells gB
    clear x_
    clear e_
    have EC : Ext mC mC := .refl _
    refine sMv (v := .tuple _) rfl ?_
    refine sP (v := .agg _) rfl ?_   -- extract ['t28', '0']
    refine sP (v := nv _) rfl ?_   -- extract ['t28', '1']
    refine sAlloc Z24 (by kernel_rfl) ?_
    refine sStNA S24 rfl rfl rfl rfl (by kernel_rfl) ?_
    have x_ : Ext mC (mC.push (.cells true #[.slice qC (ofs2 (ifOk (treeE (Int.ofNat j - 1)) (treeM (Int.ofNat j - 1).toNat) [])).length cC])) := .push _ _
    replace E := E.trans x_
    replace rA := rA.ext x_
    replace EA := EA.trans x_
    replace gA := x_.cells gA
    replace rB := rB.ext x_
    replace gB := x_.cells gB
    replace rC := rC.ext x_
    replace EC := EC.trans x_
    clear x_
    have gC : Mem.get (mC.push (.cells true #[.slice qC (ofs2 (ifOk (treeE (Int.ofNat j - 1)) (treeM (Int.ofNat j - 1).toNat) [])).length cC])) mC.size = .cells true #[.slice qC (ofs2 (ifOk (treeE (Int.ofNat j - 1)) (treeM (Int.ofNat j - 1).toNat) [])).length cC] := gP rfl
    refine sAs (v := nv _) rfl ?_
    refine sNil (kSeqN ?_)
    refine cSeq ?_
    refine cRegion ?_
    refine sMv (v := .int _ _) rfl ?_
    obtain ⟨vD, mD, h_, wD, csD, rfl, rD, e_⟩ := spec_refTree (m := (mC.push (.cells true #[.slice qC (ofs2 (ifOk (treeE (Int.ofNat j - 1)) (treeM (Int.ofNat j - 1).toNat) [])).length cC]))) (n := Int.ofNat j - 1)
    obtain ⟨qD, cD, rfl⟩ := rD.1.len
    have bD := rD.bound
    have zzD := e_.1
    refine sCall1 rfl call32 rfl h_ ?_
    clear h_
    have x_ : Ext (mC.push (.cells true #[.slice qC (ofs2 (ifOk (treeE (Int.ofNat j - 1)) (treeM (Int.ofNat j - 1).toNat) [])).length cC])) mD := e_
    replace E := E.trans x_
    replace rA := rA.ext x_
    replace EA := EA.trans x_
    replace gA := x_.cells gA
    replace rB := rB.ext x_
    replace gB := x_.cells gB
    replace rC := rC.ext x_
    replace EC := EC.trans x_
    replace gC := x_.cells gC
    clear x_
    clear e_
    refine sMv (v := .tuple _) rfl ?_
    refine sP (v := .agg _) rfl ?_   -- extract ['t33', '0']
    refine sP (v := nv _) rfl ?_   -- extract ['t33', '1']
    refine sAlloc Z24 (by kernel_rfl) ?_
    refine sStNA S24 rfl rfl rfl rfl (by kernel_rfl) ?_
    have x_ : Ext mD (mD.push (.cells true #[.slice qD (ofs2 (ifOk (treeE (Int.ofNat j - 1)) (treeM (Int.ofNat j - 1).toNat) [])).length cD])) := .push _ _
    replace E := E.trans x_
    replace rA := rA.ext x_
    replace EA := EA.trans x_
    replace gA := x_.cells gA
    replace rB := rB.ext x_
    replace gB := x_.cells gB
    replace rC := rC.ext x_
    replace EC := EC.trans x_
    replace gC := x_.cells gC
    replace rD := rD.ext x_
    clear x_
    have gD : Mem.get (mD.push (.cells true #[.slice qD (ofs2 (ifOk (treeE (Int.ofNat j - 1)) (treeM (Int.ofNat j - 1).toNat) [])).length cD])) mD.size = .cells true #[.slice qD (ofs2 (ifOk (treeE (Int.ofNat j - 1)) (treeM (Int.ofNat j - 1).toNat) [])).length cD] := gP rfl
    refine sAs (v := nv _) rfl ?_
    refine sNil (kSeqN ?_)
    refine cSeq ?_
    refine cRegion ?_
    refine sMv (v := .int _ _) rfl ?_
    have zF : mA.size ≤ (mD.push (.cells true #[.slice qD (ofs2 (ifOk (treeE (Int.ofNat j - 1)) (treeM (Int.ofNat j - 1).toNat) [])).length cD])).size ∧ mC.size ≤ (mD.push (.cells true #[.slice qD (ofs2 (ifOk (treeE (Int.ofNat j - 1)) (treeM (Int.ofNat j - 1).toNat) [])).length cD])).size := ⟨EA.1, EC.1⟩
    obtain ⟨vF, mF, h_, wF, rfl, oF, e_⟩ := spec_Bennett (m := (mD.push (.cells true #[.slice qD (ofs2 (ifOk (treeE (Int.ofNat j - 1)) (treeM (Int.ofNat j - 1).toNat) [])).length cD]))) (n := Int.ofNat j - 1)
    obtain ⟨qF, cF, rfl⟩ := oF.ints.lenN
    have zzF := e_.1
    refine sCall1 rfl call33 rfl h_ ?_
    clear h_
    have x_ : Ext (mD.push (.cells true #[.slice qD (ofs2 (ifOk (treeE (Int.ofNat j - 1)) (treeM (Int.ofNat j - 1).toNat) [])).length cD])) mF := e_
    replace E := E.trans x_
    replace rA := rA.ext x_
    replace EA := EA.trans x_
    replace gA := x_.cells gA
    replace rB := rB.ext x_
    replace gB := x_.cells gB
    replace rC := rC.ext x_
    replace EC := EC.trans x_
    replace gC := x_.cells gC
    replace rD := rD.ext x_
    replace gD := x_.cells gD
    clear x_
    clear e_
    refine sMv (v := .tuple _) rfl ?_
    refine sP (v := .slice _ _ _) rfl ?_   -- extract ['t38', '0']
    refine sP (v := nv _) rfl ?_   -- extract ['t38', '1']
    refine sAs (v := .slice _ _ _) rfl ?_
    refine sAs (v := nv _) rfl ?_
    refine sNil (kSeqN ?_)
    refine cSeq ?_
    refine cRegion ?_
    refine sMv (v := .int _ _) rfl ?_
    obtain ⟨vG, mG, h_, wG, rfl, oG, e_⟩ := spec_refBennett (m := mF) (n := Int.ofNat j - 1)
    obtain ⟨qG, cG, rfl⟩ := oG.ints.lenN
    have zzG := e_.1
    refine sCall1 rfl call34 rfl h_ ?_
    clear h_
    have x_ : Ext mF mG := e_
    replace E := E.trans x_
    replace rA := rA.ext x_
    replace EA := EA.trans x_
    replace gA := x_.cells gA
    replace rB := rB.ext x_
    replace gB := x_.cells gB
    replace rC := rC.ext x_
    replace EC := EC.trans x_
    replace gC := x_.cells gC
    replace rD := rD.ext x_
    replace gD := x_.cells gD
    replace oF := oF.ext x_
    clear x_
    clear e_
    refine sMv (v := .tuple _) rfl ?_
    refine sP (v := .slice _ _ _) rfl ?_   -- extract ['t43', '0']
    refine sP (v := nv _) rfl ?_   -- extract ['t43', '1']
    refine sAs (v := .slice _ _ _) rfl ?_
    refine sAs (v := nv _) rfl ?_
    refine sNil (kSeqN ?_)
    refine cSeq ?_   -- seq 12
    refine cSeq ?_
    refine cRegion ?_
    refine sLdAll A24 S24 rfl gA rfl ?_
    refine sLdAll A24 S24 rfl gB rfl ?_
    obtain ⟨m50, h_, e_⟩ := gv_same rA.rows rB.rows (gv_line _)
    refine sCall2 rfl call24 rfl rfl h_ ?_
    clear h_
    have x_ : Ext mG m50 := e_
    replace E := E.trans x_
    replace rA := rA.ext x_
    replace EA := EA.trans x_
    replace gA := x_.cells gA
    replace rB := rB.ext x_
    replace gB := x_.cells gB
    replace rC := rC.ext x_
    replace EC := EC.trans x_
    replace gC := x_.cells gC
    replace rD := rD.ext x_
    replace gD := x_.cells gD
    replace oF := oF.ext x_
    replace oG := oG.ext x_
    clear x_
    clear e_
    refine sP (v := .bool false) rfl ?_
    refine sMv (v := .bool _) rfl ?_
    refine sG rfl rfl ?_
    refine sMv (v := nv _) rfl ?_
    refine sG rfl rfl ?_
    refine sMv (v := nv _) rfl ?_
    refine sG rfl rfl ?_
    refine sBin (v := .bool false) (a := benE (Int.ofNat j - 1)) (b := benE (Int.ofNat j - 1)) rfl rfl (neqF rfl) ?_
    refine sP (v := .bool false) rfl ?_
    refine sMv (v := .bool _) rfl ?_
    refine sG rfl rfl ?_
    refine sLdAll A24 S24 rfl gC rfl ?_
    refine sG rfl rfl ?_
    refine sLdAll A24 S24 rfl gD rfl ?_
    refine sG rfl rfl ?_
    obtain ⟨m60, h_, e_⟩ := gv_same rC.rows rD.rows (gv_tree _)
    refine sCall2 rfl call24 rfl rfl h_ ?_
    clear h_
    have x_ : Ext m50 m60 := e_
    replace E := E.trans x_
    replace rA := rA.ext x_
    replace EA := EA.trans x_
    replace gA := x_.cells gA
    replace rB := rB.ext x_
    replace gB := x_.cells gB
    replace rC := rC.ext x_
    replace EC := EC.trans x_
    replace gC := x_.cells gC
    replace rD := rD.ext x_
    replace gD := x_.cells gD
    replace oF := oF.ext x_
    replace oG := oG.ext x_
    clear x_
    clear e_
    refine sG rfl rfl ?_
    refine sP (v := .bool false) rfl ?_
    refine sP (v := .bool false) rfl ?_
    refine sMv (v := .bool _) rfl ?_
    refine sG rfl rfl ?_
    refine sMv (v := nv _) rfl ?_
    refine sG rfl rfl ?_
    refine sMv (v := nv _) rfl ?_
    refine sG rfl rfl ?_
    refine sBin (v := .bool false) (a := treeE (Int.ofNat j - 1)) (b := treeE (Int.ofNat j - 1)) rfl rfl (neqF rfl) ?_
    refine sP (v := .bool false) rfl ?_
    refine sMv (v := .bool _) rfl ?_
    refine sG rfl rfl ?_
    refine sMv (v := .slice _ _ _) rfl ?_
    refine sG rfl rfl ?_
    refine sMv (v := .slice _ _ _) rfl ?_
    refine sG rfl rfl ?_
    have h71 := spec_Equal oF.ints oG.ints (by rw [ofs_length]; exact Nat.lt_of_le_of_lt (gv_ben _) (by decide))
    rw [decide_eq_true rfl] at h71
    refine sCall2 rfl call22 rfl rfl h71 ?_
    refine sG rfl rfl ?_
    refine sP (v := .bool false) rfl ?_
    refine sP (v := .bool false) rfl ?_
    refine sMv (v := .bool _) rfl ?_
    refine sG rfl rfl ?_
    refine sMv (v := nv _) rfl ?_
    refine sG rfl rfl ?_
    refine sMv (v := nv _) rfl ?_
    refine sG rfl rfl ?_
    refine sBin (v := .bool false) (a := benE (Int.ofNat j - 1)) (b := benE (Int.ofNat j - 1)) rfl rfl (neqF rfl) ?_
    refine sP (v := .bool false) rfl ?_
    refine sNil (kSeqN ?_)
    refine cCondF rfl ?_
    refine cSkip (kSeqN ?_)
    refine cSeq ?_
    refine cRegion ?_
    refine sFA F24_0 rfl ?_
    refine sLd (v := .slice _ _ _) A22 rfl gA rfl ?_
    obtain ⟨w81, m81, h81, l81⟩ := spec_SpoilRows (M := mA.size) rA (Nat.lt_of_le_of_lt (gv_line _).1 (by decide)) bA.1 bA.2
    refine sCall1 rfl call35 rfl h81 ?_
    have gC' := (l81.2.1 mC.size (.inr (by have := zC; have := EC.1; have := zF; omega))).trans gC
    have rC' := rC.up fun b h1 _ => l81.2.1 b (.inr (by omega))
    have oF' := oF.up fun b h1 _ => l81.2.1 b (.inr (by omega))
    have E' := Low.to_ext E l81.low hm1
    refine sNil (kSeqN ?_)
    refine cSeq ?_
    refine cRegion ?_
    refine sFA F24_0 rfl ?_
    refine sLd (v := .slice _ _ _) A22 rfl gC' rfl ?_
    obtain ⟨w84, m84, h84, l84⟩ := spec_SpoilRows (M := mC.size) rC' (Nat.lt_of_le_of_lt (gv_tree _).1 (by decide)) bC.1 bC.2
    refine sCall1 rfl call35 rfl h84 ?_
    have oF2 := oF'.up fun b h1 _ => l84.2.1 b (.inr (by omega))
    have E2 := Low.to_ext E' l84.low (by omega)
    refine sNil (kSeqN ?_)
    refine cRegion ?_
    refine sMv (v := .slice _ _ _) rfl ?_
    refine sClrW T25 Z3 rfl rfl rfl rfl (oF2.wr (M := m84.size) fun b hb => (oF2.lt hb).2) fun m90 l90 _ => ?_
    refine sNil (kBlkN (kSeqN ?_))
    refine cRegion ?_
    refine sMv (v := .int _ _) rfl ?_
    refine sBinI (v := .int .i64 (Int.ofNat (j + 1) - 1)) (a := Int.ofNat j - 1) (b := 1) rfl rfl (by rw [aInt_addI (by simp; omega)]; congr 2; simp) ?_
    refine sAs (v := .int _ _) rfl ?_
    refine sNil (kSeqN ?_)
    refine ⟨_, ?_, j + 1, rfl, by omega, Low.to_ext E2 l90.low (by omega), rfl, trivial⟩
    omega
  ·
    refine cExit (kSeqE (kSeqE (kBlkS (kSeqN ?_))))
    refine cSeq ?_
    refine cRegion ?_
    refine sMv (v := .bool _) rfl ?_
    refine sG rfl rfl ?_
    obtain ⟨v87, m87, h87, rfl, e87⟩ := spec_awake (hGl.ext E)
    refine sCall0 rfl call13 h87 ?_
    refine sP (v := .bool true) rfl ?_
    refine sAs (v := .bool _) rfl ?_
    refine sNil (kSeqN ?_)
    refine cRet ?_
    exact ⟨.inr rfl, _, rfl, rfl, trivial⟩

end Go.AM

/-! ### F20 -/
namespace Go.AM
open Go.Proofs Go.Proofs.YthfhbddnkgfhaaaDoor Go.ChangeShapes
set_option maxRecDepth 100000
set_option linter.unusedVariables false

theorem gAsk : Tryd.prog.globalNamed "spoondrift/pebble.asks" = some 0 := by kernel_rfl
theorem tAsk : (Tryd.prog.globals[0]?).map (·.type) = some 96 := by kernel_rfl
theorem gSize : Tryd.prog.globals.size = 1 := by kernel_rfl
theorem u4 : Tryd.prog.underlying 4 = some .bool := by kernel_rfl
theorem u5 : Tryd.prog.underlying 5 = some (.int .u8) := by kernel_rfl
theorem u94 : Tryd.prog.underlying 94 = some (.func #[79, 3, 3, 25, 93] #[4] false) := by kernel_rfl
theorem u95 : Tryd.prog.underlying 95 = some (.struct #[{ name := "so", type := 94, offset := 0, embedded := false, tag := "", pkgPath := "spoondrift/pebble", byteOffset := 0 }]) := by kernel_rfl
theorem u96 : Tryd.prog.underlying 96 = some (.array 3 95) := by kernel_rfl

theorem var_block {P : Program} {w : World} {n : String} {g : Nat} {cs : Array Value} (hg : P.globalNamed n = some g) (h : w.var? P n = some cs) : ∃ t fz, w.heap[g]? = some (.cells cs t fz) := by
  simp only [World.var?, hg, Option.bind_some] at h
  split at h
  · rename_i c t fz e
    injection h with h; subst h
    exact ⟨t, fz, e⟩
  · cases h

def tokA : Nat → List UInt8
  | 0 => [115, 112, 111, 111, 110, 100, 114, 105, 102, 116, 47, 112, 101, 98, 98, 108, 101, 46, 97, 115, 107, 115, 36, 49]
  | 1 => [115, 112, 111, 111, 110, 100, 114, 105, 102, 116, 47, 112, 101, 98, 98, 108, 101, 46, 97, 115, 107, 115, 36, 50]
  | _ => [115, 112, 111, 111, 110, 100, 114, 105, 102, 116, 47, 112, 101, 98, 98, 108, 101, 46, 97, 115, 107, 115, 36, 51]
theorem one140 : ((List.range Tryd.prog.funcs.size).filter fun f => (Tryd.prog.funcs[f]?).any (·.name.toUTF8.data.toList == tokA 0)) = [140] := by kernel_rfl
theorem one143 : ((List.range Tryd.prog.funcs.size).filter fun f => (Tryd.prog.funcs[f]?).any (·.name.toUTF8.data.toList == tokA 1)) = [143] := by kernel_rfl
theorem one144 : ((List.range Tryd.prog.funcs.size).filter fun f => (Tryd.prog.funcs[f]?).any (·.name.toUTF8.data.toList == tokA 2)) = [144] := by kernel_rfl
theorem hc95 : Tryd.prog.cellsOf 95 = 1 := by kernel_rfl
theorem hc94 : Tryd.prog.cellsOf 94 = 1 := by kernel_rfl
/-- One entry of the table of what is asked. -/
theorem entry_ask {w : World} {n q : Nat} (hq : q < 3) {cs : List Value} {y : DataW (List UInt8) × List MemPlace}
    (h : DataW.trod (funcToken Tryd.prog) Tryd.prog w 0 (fun _ => true) true n 95 cs = some y) (hy : y.1 = .agg [.held (tokA q)]) : cs = [.func (.func (askF q)) #[] #[]] := by
  obtain ⟨xs, m, rfl, hx, hl, hn, hel⟩ := DataW.trod_struct u95 h
  have h0 := hel 0 _ rfl
  rw [hx] at hy
  simp only [DataW.agg.injEq] at hy
  rw [hc95] at hl
  match cs, hl with
  | [a], _ =>
    match xs, hn, hy, h0 with
    | [e0], _, hy, h0 =>
      simp only [List.map_cons, List.map_nil, List.cons.injEq, and_true] at hy
      simp only [hc94, List.drop_zero, List.take_one, List.getElem?_cons_zero] at h0
      have h1 : DataW.trod (funcToken Tryd.prog) Tryd.prog w 0 (fun _ => true) true m 94 [a] = some (.held (tokA q), e0.2) := by
        rw [← hy]; simpa [hc94] using h0
      have : q = 0 ∨ q = 1 ∨ q = 2 := by omega
      rcases this with rfl | rfl | rfl
      · rw [func_of_trod (f0 := 140) u94 one140 h1]; rfl
      · rw [func_of_trod (f0 := 143) u94 one143 h1]; rfl
      · rw [func_of_trod (f0 := 144) u94 one144 h1]; rfl
def askD : DataW Unit := .agg [.agg [.iface "func" (.lit (.string (tokA 0)))], .agg [.iface "func" (.lit (.string (tokA 1)))], .agg [.iface "func" (.lit (.string (tokA 2)))]]
/-- What the table of what is asked holds. -/
theorem open_asks {w : World} (h : funcsAt Tryd.prog w "spoondrift/pebble.asks" askD) :
    ∃ c t fz, w.heap[0]? = some (.cells c t fz) ∧ ∀ q, q < 3 → c[q]? = some (.func (.func (askF q)) #[] #[]) := by
  obtain ⟨g, t, cs, fuel, p, hg, ht, hc, hd⟩ := h
  obtain rfl := Option.some.inj (gAsk.symm.trans hg)
  obtain rfl := Option.some.inj (tAsk.symm.trans ht)
  obtain ⟨ty, fz, hb0⟩ := var_block hg hc
  have hout : askD.funcsOut = .agg [.agg [.held (tokA 0)], .agg [.held (tokA 1)], .agg [.held (tokA 2)]] := by rfl
  rw [hout] at hd
  obtain ⟨xs, m, rfl, hx, hl, hn, hel⟩ := DataW.trod_array u96 hd
  match xs, hn with
  | [e0, e1, e2], _ =>
    simp only [Prod.mk.injEq, DataW.agg.injEq, List.map_cons, List.map_nil, List.cons.injEq, and_true] at hx
    obtain ⟨⟨x0, x1, x2⟩, _⟩ := hx
    have key : ∀ (q : Nat) (e : DataW (List UInt8) × List MemPlace), q < 3 → [e0, e1, e2][q]? = some e → e.1 = .agg [.held (tokA q)] → cs[q]? = some (.func (.func (askF q)) #[] #[]) := by
      intro q e hq he h1
      have h2 := hel q hq
      rw [he, hc95, Nat.mul_one] at h2
      have h3 := entry_ask hq h2 h1
      have := congrArg (·[0]?) h3
      simpa [List.getElem?_take, List.getElem?_drop] using this
    refine ⟨cs, ty, fz, hb0, fun q hq => ?_⟩
    have : q = 0 ∨ q = 1 ∨ q = 2 := by omega
    rcases this with rfl | rfl | rfl
    · exact key 0 e0 (by omega) rfl x0.symm
    · exact key 1 e1 (by omega) rfl x1.symm
    · exact key 2 e2 (by omega) rfl x2.symm
def laid1 : List (String × DataW Unit) := [("spoondrift/pebble.asks", Rows.laid_spoondrift_pebble_asks)]
theorem ask_data : (Rows.laid_spoondrift_pebble_asks : DataW Unit) = .iface "func table" askD := by rfl
theorem of_laid {w : World} (h : laidMetH Tryd.prog laid1 w) : ∃ c t fz, w.heap[0]? = some (.cells c t fz) ∧ ∀ q, q < 3 → c[q]? = some (.func (.func (askF q)) #[] #[]) :=
  open_asks (h.funcs (n := "spoondrift/pebble.asks") (by rw [← ask_data]; simp [laid1]))
end Go.AM

/-! ### F21 -/
namespace Go.AM
open Go.Proofs Go.Proofs.YthfhbddnkgfhaaaDoor Go.RowKit
set_option maxRecDepth 100000
set_option linter.unusedVariables false

/-- An argument's block: where it lies, and its abstract cells (each stands for the machine's cell at the same place). -/
structure Arg0 where
  blk : Nat
  off : Nat
  cap : Nat
  cs : Array Value
def arg0 : Arg0 := ⟨0, 0, 0, #[]⟩
def askCs : Array Value := #[.func (.func 140) #[] #[], .func (.func 143) #[] #[], .func (.func 144) #[] #[]]
def mem0 (A : List Arg0) : Mem := (AObj.cells false askCs :: A.map fun a => AObj.cells false a.cs).toArray
def beta0 (A : List Arg0) : Beta where
  blk i := if i < 1 then i else (A.getD (i - 1) arg0).blk
  sh i := if i < 1 then 0 else (A.getD (i - 1) arg0).off
  cap i := if i < 1 then 1000000 else (A.getD (i - 1) arg0).off + max (A.getD (i - 1) arg0).cs.size (A.getD (i - 1) arg0).cap
/-- What is known of an argument's cells, all arguments' places being known. -/
def Arg0.ok (W : World) (A : List Arg0) (a : Arg0) : Prop := ∃ c t fz, W.heap[a.blk]? = some (.cells c t fz) ∧ ∀ (i : Nat) v, a.cs[i]? = some v → ∃ v', c[a.off + i]? = some v' ∧ VRel (beta0 A) (1 + A.length) v v'
theorem mem0_size (A : List Arg0) : (mem0 A).size = 1 + A.length := by simp [mem0]; omega
theorem mem0_get (A : List Arg0) (i : Nat) : Mem.get (mem0 A) i = if i = 0 then .cells false askCs else if h : i - 1 < A.length then .cells false (A[i - 1]).cs else .dead := by
  unfold Mem.get mem0
  rw [Array.getD_eq_getD_getElem?, List.getElem?_toArray]
  match i with
  | 0 => rfl
  | i + 1 =>
    rw [if_neg (by omega)]
    simp only [List.getElem?_cons_succ, Nat.add_sub_cancel, List.getElem?_map]
    by_cases h : i < A.length
    · rw [dif_pos h, List.getElem?_eq_getElem h]; rfl
    · rw [dif_neg h, List.getElem?_eq_none (by omega)]; rfl
theorem glob0 (A : List Arg0) : GlobP (mem0 A) := ⟨false, by rw [mem0_get]; rfl⟩
theorem rel0 {W : World} (hL : laidMetH Tryd.prog laid1 W) {A : List Arg0} (hA : ∀ a ∈ A, a.ok W A) : Rel Tryd.prog (beta0 A) (mem0 A) W := by
  obtain ⟨c, t, fz, h0, hc0⟩ := of_laid hL
  refine ⟨by rw [mem0_size, gSize]; omega, fun g hg => ?_, fun i hi => ?_, fun i j _ hr _ => ?_⟩
  · rw [gSize] at hg
    exact ⟨if_pos hg, if_pos hg⟩
  · rw [mem0_get] at hi ⊢
    by_cases e0 : i = 0
    · subst e0
      rw [if_pos rfl] at hi ⊢
      refine ⟨_, h0, c, t, fz, rfl, by simp [beta0, askCs], fun j v hj => ?_, fun h => by cases h⟩
      have hf : ∀ q, VRel (beta0 A) (mem0 A).size (.func (.func q) #[] #[]) (.func (.func q) #[] #[]) := fun q => .func _ _ _ _ _ rfl (fun i v v' h => by simp at h) rfl (fun i v v' h => by simp at h)
      match j with
      | 0 => simp [askCs] at hj; subst hj; exact ⟨_, by simpa [beta0, askF] using hc0 0 (by omega), hf _⟩
      | 1 => simp [askCs] at hj; subst hj; exact ⟨_, by simpa [beta0, askF] using hc0 1 (by omega), hf _⟩
      | 2 => simp [askCs] at hj; subst hj; exact ⟨_, by simpa [beta0, askF] using hc0 2 (by omega), hf _⟩
      | j + 3 => simp [askCs] at hj
    rw [if_neg e0] at hi ⊢
    by_cases e4 : i - 1 < A.length
    · rw [dif_pos e4] at hi ⊢
      obtain ⟨c, t, fz, g1, g2⟩ := hA _ (List.getElem_mem e4)
      have hb : (beta0 A).blk i = (A[i - 1]).blk := by
        simp only [beta0]; rw [if_neg (by omega), List.getD_eq_getElem?_getD, List.getElem?_eq_getElem e4]; rfl
      have hsh : (beta0 A).sh i = (A[i - 1]).off := by
        simp only [beta0]; rw [if_neg (by omega), List.getD_eq_getElem?_getD, List.getElem?_eq_getElem e4]; rfl
      have hcp : (beta0 A).cap i = (A[i - 1]).off + max (A[i - 1]).cs.size (A[i - 1]).cap := by
        simp only [beta0]; rw [if_neg (by omega), List.getD_eq_getElem?_getD, List.getElem?_eq_getElem e4]; rfl
      refine ⟨_, by rw [hb]; exact g1, c, t, fz, rfl, by rw [hsh, hcp]; omega, fun j v hj => ?_, fun h => by cases h⟩
      obtain ⟨v', q1, q2⟩ := g2 j v hj
      exact ⟨v', by rw [hsh]; exact q1, by rw [mem0_size]; exact q2⟩
    · rw [dif_neg e4] at hi; cases hi
  · rw [mem0_get] at hr
    repeat' split at hr
    all_goals cases hr
theorem arel_nil {β : Beta} {N : Nat} : ARel β N #[] #[] := ⟨rfl, fun i v v' h => by simp at h⟩
theorem arel_cons {β : Beta} {N : Nat} {v v' : Value} {l l' : List Value} (hv : VRel β N v v') (h : ARel β N l.toArray l'.toArray) : ARel β N (v :: l).toArray (v' :: l').toArray := by
  refine ⟨by have := h.1; simp at this ⊢; exact this, fun i x x' h1 h2 => ?_⟩
  cases i with
  | zero => simp at h1 h2; subst h1 h2; exact hv
  | succ i => exact h.2 i x x' (by simpa using h1) (by simpa using h2)
/-- From the abstract call to the machine's. -/
theorem entry {f : FuncId} {args args' : Array Value} {W : World} {A : List Arg0} (hL : laidMetH Tryd.prog laid1 W) (hA : ∀ a ∈ A, a.ok W A)
    (hargs : ARel (beta0 A) (1 + A.length) args args') (hc : ∃ v m', ACalls Tryd.prog f args (mem0 A) v m' ∧ v = .bool true) :
    Calls Tryd.prog f args' W fun e W' => e = .returned (.bool true) ∧ Below W.heap.size W W' := by
  have hR := rel0 hL hA
  obtain ⟨v, m', hcall, rfl⟩ := hc
  refine (hcall.2 _ W args' hR (by rw [mem0_size]; exact hargs)).mono ?_
  rintro e W' ⟨v', rfl, β', hv, _, hS⟩
  cases hv
  refine ⟨rfl, hS.os, hS.tape, hS.output, hS.wsz, fun k hk => hS.keep k hk fun i hi => ?_⟩
  rw [mem0_get] at hi
  repeat' split at hi
  all_goals cases hi
end Go.AM
