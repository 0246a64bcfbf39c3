/- Part 6 of the proof: Plain laws, and contracts of the program's functions. -/
import Derived.Test.YtdokoekgdeebpaaDoorPartE
set_option linter.unusedVariables false
set_option linter.unusedSimpArgs false
set_option maxRecDepth 100000
/-! R23 -/
namespace Go.AM
open Go.Proofs
/-- A circuit at work that has nothing in blocks of a kind P. -/
def BldP (P : Nat → Prop) (N bb : Nat) (m : Mem) (W : Nat) (Gs : List (Nat × List Nat)) (v : Value) : Prop :=
  Mem.get m bb = .cells true #[nv W, nv 0, v] ∧ bb < N ∧ (∀ b, P b → b < m.size ∧ b ≠ bb ∧ blkOf v ≠ some b) ∧ ∃ cs, OwnG N m v cs Gs ∧ ∀ (i : Nat) (s : Value), cs[i]? = some s → ∀ b, blkOf s = some b → ¬ P b
theorem BldP.move {P Q : Nat → Prop} {N bb W : Nat} {m m' : Mem} {Gs : List (Nat × List Nat)} {v : Value} (h : BldP P N bb m W Gs v) (hz : m.size ≤ m'.size) (hk : ∀ b, b < m.size → ¬ P b → Mem.get m' b = Mem.get m b) (hQ : ∀ b, Q b → b < m'.size ∧ (P b ∨ m.size ≤ b)) : BldP Q N bb m' W Gs v := by
 obtain ⟨h1, h2, h3, cs, hO, hcs⟩ := h
 have hbb : ¬ P bb := fun hp => (h3 bb hp).2.1 rfl
 have hv : ∀ b, blkOf v = some b → N ≤ b ∧ b < m.size ∧ ¬ P b := fun b hb => ⟨(hO.1.lt hb).1, (hO.1.lt hb).2, fun hp => (h3 b hp).2.2 hb⟩
 have hrow : ∀ (i : Nat) (s : Value), cs[i]? = some s → ∀ b, blkOf s = some b → b < m.size → Mem.get m' b = Mem.get m b := fun i s hi b hb hl => hk b hl (hcs i s hi b hb)
 refine ⟨(hk bb (live h1) hbb).trans h1, h2, fun b hb => ?_, cs, ⟨hO.1.keep fun b hb => hk b (hv b hb).2.1 (hv b hb).2.2, fun i g hi => ?_⟩, fun i s hi b hb hq => ?_⟩
 ·obtain ⟨q1, q2⟩ := hQ b hb
  rcases q2 with q2 | q2
  ·exact ⟨q1, (h3 b q2).2⟩
  ·exact ⟨q1, by have := live h1; omega, fun e => by have := (hv b e).2.1; omega⟩
 ·obtain ⟨s, a0, a1, a2, a3, ho, hb⟩ := hO.2 i g hi
  exact ⟨s, a0, a1, a2, a3, ho.keep fun b hb => hrow _ s a1 b hb (ho.lt hb).2, hb⟩
 ·rcases (hQ b hq).2 with q2 | q2
  ·exact hcs i s hi b hb q2
  ·have hlt : i < cs.size := (Array.getElem?_eq_some_iff.1 hi).1
   have hcz := hO.1.size
   obtain ⟨s', a0, a1, a2, a3, ho, _⟩ := hO.2 (i / 4) _ (List.getElem?_eq_getElem (by omega : i / 4 < Gs.length))
   have hc4 : i % 4 = 0 ∨ i % 4 = 1 ∨ i % 4 = 2 ∨ i % 4 = 3 := by omega
   rcases hc4 with e | e | e | e
   ·rw [show i / 4 * 4 = i by omega, hi] at a0; injection a0 with a0; subst a0; cases hb
   ·rw [show i / 4 * 4 + 1 = i by omega, hi] at a1; injection a1 with a1; subst a1
    have := (ho.lt hb).2; omega
   ·rw [show i / 4 * 4 + 2 = i by omega, hi] at a2; injection a2 with a2; subst a2; cases hb
   ·rw [show i / 4 * 4 + 3 = i by omega, hi] at a3; injection a3 with a3; subst a3; cases hb
theorem BldP.ext {P : Nat → Prop} {N bb W : Nat} {m m' : Mem} {Gs : List (Nat × List Nat)} {v : Value} (h : BldP P N bb m W Gs v) (he : Ext m m') : BldP P N bb m' W Gs v :=
 h.move he.1 (fun b hb _ => he.2 b hb) fun b hb => ⟨by have := (h.2.2.1 b hb).1; have := he.1; omega, .inl hb⟩
/-- Gates that may be added. -/
def SrcP (P : Nat → Prop) (N : Nat) (m : Mem) (v x : Value) (Gs : List (Nat × List Nat)) : Prop := ∃ d, SrcC m x 4 Gs.length d ∧ ∀ (i : Nat) (g : Nat × List Nat), Gs[i]? = some g → ∃ s, d[i * 4]? = some (nv g.1) ∧ d[i * 4 + 1]? = some s ∧ d[i * 4 + 2]? = some (nv 0) ∧ d[i * 4 + 3]? = some (nv 0) ∧ OwnF N m s (ofs g.2) ∧ ∀ b, blkOf s = some b → blkOf v ≠ some b ∧ ¬ P b
theorem spec_addP {P : Nat → Prop} {m : Mem} {N bb W : Nat} {v x : Value} {Gs Gs2 : List (Nat × List Nat)} (hB : BldP P N bb m W Gs v) (hS : SrcP P N m v x Gs2) (hN : N ≤ m.size) (hl : Gs.length ≤ 200000) (hl2 : Gs2.length ≤ 200000) : ∃ r m', ACalls Tryd.prog 75 #[.pointer (some ⟨bb, 0, none⟩), x] m r m' ∧ (∃ v', BldP P N bb m' W (Gs ++ Gs2) v' ∧ m.size ≤ m'.size ∧ ∀ b, b < m.size → b ≠ bb → blkOf v ≠ some b → Mem.get m' b = Mem.get m b) := by
 obtain ⟨g1, hbN, hPP, cs, hO, hcs⟩ := hB
 obtain ⟨d, hs, hdP⟩ := hS
 have hd : ∀ (i : Nat) (g : Nat × List Nat), Gs2[i]? = some g → ∃ s, d[i * 4]? = some (nv g.1) ∧ d[i * 4 + 1]? = some s ∧ d[i * 4 + 2]? = some (nv 0) ∧ d[i * 4 + 3]? = some (nv 0) ∧ OwnF N m s (ofs g.2) ∧ ∀ b, blkOf s = some b → blkOf v ≠ some b := fun i g hi => by
  obtain ⟨s, a0, a1, a2, a3, a4, a5⟩ := hdP i g hi
  exact ⟨s, a0, a1, a2, a3, a4, fun b hb => (a5 b hb).1⟩
 have hds := hs.size
 have hdcs : ∀ (i : Nat) (s : Value), d[i]? = some s → ∀ b, blkOf s = some b → ¬ P b := fun i s hi b hb => by
  have hlt : i < d.size := (Array.getElem?_eq_some_iff.1 hi).1
  obtain ⟨s', a0, a1, a2, a3, ho, ha⟩ := hdP (i / 4) _ (List.getElem?_eq_getElem (by omega : i / 4 < Gs2.length))
  have hc4 : i % 4 = 0 ∨ i % 4 = 1 ∨ i % 4 = 2 ∨ i % 4 = 3 := by omega
  rcases hc4 with e | e | e | e
  ·rw [show i / 4 * 4 = i by omega, hi] at a0; injection a0 with a0; subst a0; cases hb
  ·rw [show i / 4 * 4 + 1 = i by omega, hi] at a1; injection a1 with a1; subst a1
   exact (ha b hb).2
  ·rw [show i / 4 * 4 + 2 = i by omega, hi] at a2; injection a2 with a2; subst a2; cases hb
  ·rw [show i / 4 * 4 + 3 = i by omega, hi] at a3; injection a3 with a3; subst a3; cases hb
 have hone := src_one (x := x) hds hd
 have hxl : ∃ q n c, x = .slice q n c := by rcases hs with ⟨rfl, _⟩ | ⟨_, _, _, _, _, rfl, _⟩ <;> exact ⟨_, _, _, rfl⟩
 obtain ⟨qx, nx, cx, rfl⟩ := hxl
 obtain ⟨q, cap, rfl⟩ := hO.1.len
 refine wpF (args := [_, _]) mixed okf75 (fn := Tryd.f75) rfl rfl rfl (by simp) ?_
 refine cRegion ?_
 refine sMv (v := .pointer _) rfl ?_
 refine sMv (v := .pointer _) rfl ?_
 refine sNC rfl ?_
 refine sFA F96_0 rfl ?_
 refine sFA F30_2 rfl ?_
 refine sLd (v := .slice _ _ _) A28 rfl g1 rfl ?_
 refine sMv (v := .slice _ _ _) rfl ?_
 refine sAppCn El55 rfl rfl (N := N) hO.1 hs hone hN (by omega) (by omega) fun v' m1 hO1 hL1 hG1 => ?_
 have hg1 := hL1.cells hbN g1
 have hR := hO.grewN hds hd hG1 hO1
 refine sNC rfl ?_
 refine sFA F96_0 rfl ?_
 refine sFA F30_2 rfl ?_
 refine sSt (v := v') S28 rfl rfl hg1 (by simp) (by rcases hO1 with ⟨rfl, _⟩ | ⟨_, _, _, rfl, _⟩ <;> rfl) (by rcases hO1 with ⟨rfl, _⟩ | ⟨_, _, _, rfl, _⟩ <;> rfl) ?_
 refine sNil ?_
 refine ⟨.inl rfl, _, rfl, v', ⟨gS rfl (live hg1), hbN, fun b hb => ?_, _, hR.only (.set bb m1 (.cells true #[nv W, nv 0, v'])) hbN, fun i s hi b hb => ?_⟩, by simpa using hG1.1, fun b hb hn hv => ?_⟩
 ·obtain ⟨p1, p2, p3⟩ := hPP b hb
  refine ⟨by have := hG1.1; simp; omega, p2, hG1.off p3 p1⟩
 ·by_cases hil : i < cs.size
  ·rw [Array.getElem?_append_left hil] at hi; exact hcs i s hi b hb
  ·rw [Array.getElem?_append_right (by omega)] at hi; exact hdcs _ s hi b hb
 ·rw [gSn (fun e => hn e.symm)]; exact hG1.2.1 b hb hv
/-- A gate that has just been made is added. -/
theorem add_one {P : Nat → Prop} {m m1 : Mem} {N bb W gk : Nat} {bv ws : Value} {Gs : List (Nat × List Nat)} {w : List Nat} (hB : BldP P N bb m W Gs bv) (he : Ext m m1) (hN : N ≤ m.size) (hw : OwnF m.size m1 ws (ofs w)) (hl : Gs.length ≤ 200000) :
  ∃ r m3, ACalls Tryd.prog 75 #[.pointer (some ⟨bb, 0, none⟩), .slice (some ⟨m1.size, 0, some 4⟩) 1 1] (m1.push (.cells true #[nv gk, ws, nv 0, nv 0])) r m3 ∧ ∃ bv', BldP P N bb m3 W (Gs ++ [(gk, w)]) bv' ∧ m1.size ≤ m3.size ∧ ∀ b, b < m.size → b ≠ bb → blkOf bv ≠ some b → Mem.get m3 b = Mem.get m b := by
 have hz := he.1
 have hv : ∀ b, blkOf bv = some b → b < m.size := fun b hb => by
  obtain ⟨_, _, _, cs, hO, _⟩ := hB; exact (hO.1.lt hb).2
 obtain ⟨r, m3, hc, bv', k1, k2, k3⟩ := spec_addP (x := .slice (some ⟨m1.size, 0, some 4⟩) 1 1) (Gs2 := [(gk, w)]) ((hB.ext he).ext (.push _ (.cells true #[nv gk, ws, nv 0, nv 0]))) ⟨_, .inr ⟨m1.size, 0, 1, _, true, rfl, gP rfl, by simp, rfl⟩, fun i g hi => by
  have h1 := (List.getElem?_eq_some_iff.1 hi).1
  obtain rfl : i = 0 := by simp at h1; exact h1
  obtain rfl : (gk, w) = g := by simpa using hi
  exact ⟨ws, rfl, rfl, rfl, rfl, (hw.mono hN).ext (.push _ _), fun b hb => by
   have h1 := (hw.lt hb).1
   exact ⟨fun e => by have := hv b e; omega, fun e => by have := (hB.2.2.1 b e).1; omega⟩⟩⟩ (by simp; omega) hl (by simp)
 simp only [Array.size_push] at k2
 refine ⟨r, m3, hc, bv', k1, by omega, fun b h1 h2 h3 => ?_⟩
 rw [k3 b (by simp; omega) h2 h3, gPn (by omega), he.2 b h1]
theorem sMax {ρ : Env} {m : Mem} {K : Env → Mem → Prop} {ops : Array Oper} {l : List Oper} {d : Option Nat} {ty : TypeId} {pos : String} {af : Array Edge} {x y : Operand} {tys : Array TypeId} {a b : Nat} (hx : evR ρ x = nv a) (hy : evR ρ y = nv b) (hk : wpOps Tryd.prog ops K l (updO ρ d (nv (max a b))) m) :
  wpOps Tryd.prog ops K (⟨d, .call ⟨.builtin .max, ⟨[x, y]⟩, tys⟩, ty, pos, af, none⟩ :: l) ρ m := by
 refine sP (v := nv (max a b)) ?_ hk
 simp only [aPure, List.map_cons, List.map_nil, hx, hy, aFold, aMax2]
 have h : (if (Int.ofNat b) > (Int.ofNat a) then Int.ofNat b else Int.ofNat a) = Int.ofNat (max a b) := by
  simp only [Int.ofNat_eq_natCast]
  split <;> omega
 rw [if_pos trivial, h]
theorem okf156 : okF Tryd.prog H0 156 16 = true := by kernel_rfl
theorem spec_use {P : Nat → Prop} {m : Mem} {N bb W w : Nat} {v : Value} {Gs : List (Nat × List Nat)} (hB : BldP P N bb m W Gs v) (hw : w ≤ 100000000) : ∃ r m', ACalls Tryd.prog 156 #[.pointer (some ⟨bb, 0, none⟩), nv w] m r m' ∧ (BldP P N bb m' (max W (w + 1)) Gs v ∧ m'.size = m.size ∧ ∀ b, b ≠ bb → Mem.get m' b = Mem.get m b) := by
 obtain ⟨g1, hbN, hPP, cs, hO, hcs⟩ := hB
 have hbl := live g1
 refine wpF (args := [_, _]) mixed okf156 (fn := Tryd.f156) rfl rfl rfl (by simp) ?_
 refine cRegion ?_
 refine sMv (v := .pointer _) rfl ?_
 refine sMv (v := .pointer _) rfl ?_
 refine sNC rfl ?_
 refine sFA F96_0 rfl ?_
 refine sFA F30_0 rfl ?_
 refine sLd (v := nv W) A3 rfl g1 rfl ?_
 refine sMv (v := nv _) rfl ?_
 refine sBin rfl rfl (aInt_add (b := 1) (by omega)) ?_
 refine sMax (a := W) (b := w + 1) rfl rfl ?_
 refine sNC rfl ?_
 refine sFA F96_0 rfl ?_
 refine sFA F30_0 rfl ?_
 refine sSt (v := nv _) S3 rfl rfl g1 (by simp) rfl rfl ?_
 refine sNil ?_
 refine ⟨.inl rfl, _, rfl, ⟨gS rfl hbl, hbN, fun b hb => ?_, cs, hO.only (.set bb m _) hbN, hcs⟩, by simp, fun b hb => gSn (fun e => hb e.symm)⟩
 simpa using hPP b hb
theorem spec_Compact2 {m : Mem} {b x y : Nat} {C : Array Value} (hb : Mem.get m b = .cells true C) (hC : 2 ≤ C.size) (h0 : C[0]? = some (nv x)) (h1 : C[1]? = some (nv y)) : ∃ v m', ACalls Tryd.prog 157 #[.slice (some ⟨b, 0, some 1⟩) 2 C.size] m v m' ∧ (IntsAt m' v (ofs (if x = y then [x] else [x, y])) ∧ But b m m' ∧ m'.size = m.size) := by
 have hbm := live hb
 refine wpF (args := [_]) mixed okf157 (fn := Tryd.f157) rfl rfl rfl (by simp) ?_
 refine cSR ?_
 refine sAs (v := .slice _ _ _) rfl ?_
 refine sN ?_
 refine cSeq (cSR ?_)
 refine sMv (v := .slice _ _ _) rfl ?_
 refine sLen T22 rfl ?_
 refine sBin (v := .bool false) (a := 2) (b := 2) rfl rfl rfl ?_
 refine sN ?_
 refine cCondF rfl ?_
 refine cSkip (kSeqN ?_)
 refine cSeq (cSR ?_)
 refine sAs (v := nv 1) rfl ?_
 refine sN ?_
 refine cBlock ?_
 refine wpC_loop (fun k ρ m' => ∃ i, k = 2 - i ∧ (i = 1 ∨ i = 2 ∧ x ≠ y) ∧ m = m' ∧ Has ρ [(0, .slice (some ⟨b, 0, some 1⟩) 2 C.size), (3, nv i)]) ⟨1, rfl, .inl rfl, rfl, rfl, rfl, trivial⟩ ?_
 rintro k ρ _ ⟨i, rfl, hi, rfl, hh⟩
 rw [hh.env]; clear hh
 refine cSeq (cSR ?_)
 refine sMv (v := nv _) rfl ?_
 refine sMv (v := .slice _ _ _) rfl ?_
 refine sLen T22 rfl ?_
 refine sBin (a := i) (b := 2) rfl rfl aInt_lss ?_
 refine sN ?_
 refine cCond (p := i < 2) rfl (fun c1 => ?_) (fun c1 => ?_)
 ·
  obtain rfl : i = 1 := by omega
  refine cSkip (kSeqN ?_)
  refine cSeq (cBlock (cSeq ?_))
  refine cDraw rfl ?_
  refine sMv (v := .slice _ _ _) rfl ?_
  refine sMv (v := nv _) rfl ?_
  refine sIx T22 S3 rfl rfl (by omega) ?_
  refine sLd (v := nv y) A3 rfl hb h1 ?_
  refine sMv (v := .slice _ _ _) rfl ?_
  refine sMv (v := nv _) rfl ?_
  refine sBin (v := nv 0) (a := 1) (b := 1) rfl rfl rfl ?_
  refine sIx T22 S3 rfl rfl (by omega) ?_
  refine sLd (v := nv x) A3 rfl hb h0 ?_
  refine sBin (a := y) (b := x) rfl rfl aInt_eql ?_
  refine sN ?_
  refine cCond (p := y = x) rfl (fun c2 => ?_) (fun c2 => ?_)
  ·
   refine cSR ?_
   refine sMv (v := .slice _ _ _) rfl ?_
   refine sMv (v := nv _) rfl ?_
   refine sSlLo (k := 1) T22 S3 rfl rfl (by omega) (by omega) ?_
   refine sAs (v := .slice _ _ _) rfl ?_
   refine sN ?_
   refine cSeq (cSR ?_)
   refine sAs (v := nv 1) rfl ?_
   refine sN ?_
   refine cBlock ?_
   refine wpC_loop (fun k' ρ m' => k' = 0 ∧ m = m' ∧ Has ρ [(0, .slice (some ⟨b, 0, some 1⟩) 2 C.size), (3, nv 1), (4, .slice (some ⟨b, 0 + 1 * 1, some 1⟩) (2 - 1) (C.size - 1)), (5, nv 1)]) ⟨rfl, rfl, rfl, rfl, rfl, rfl, trivial⟩ ?_
   rintro k' ρ _ ⟨rfl, rfl, hh⟩
   rw [hh.env]; clear hh
   refine cSeq (cSR ?_)
   refine sMv (v := nv _) rfl ?_
   refine sMv (v := .slice _ _ _) rfl ?_
   refine sLen T22 rfl ?_
   refine sBin (v := .bool false) (a := 1) (b := 1) rfl rfl rfl ?_
   refine sN ?_
   refine cCondF rfl ?_
   refine cExit (kSeqE (kSeqE (kBlkS (kSeqN ?_))))
   refine cSR ?_
   refine sMv (v := .slice _ _ _) rfl ?_
   refine sMv (v := nv _) rfl ?_
   refine sSlLo (k := 1) T22 S3 rfl rfl (by omega) (by omega) ?_
   refine sClr T22 Z3 rfl hb (by omega) ?_
   refine sN ?_
   refine cSR ?_
   refine sMv (v := .slice _ _ _) rfl ?_
   refine sMv (v := nv _) rfl ?_
   refine sSlHi (k := 1) T22 S3 rfl rfl (by omega) ?_
   refine sAs (v := .slice _ _ _) rfl ?_
   refine sN ?_
   refine cRet (kBlkR (kSeqR (kSeqR (kBlkR (kSeqR ?_)))))
   refine ⟨.inr rfl, _, rfl, ?_, ⟨by simp, fun b' h1 h2 => gSn (fun e => h2 e.symm)⟩, by simp⟩
   rw [if_pos c2.symm]
   refine .inr ⟨b, 0, C.size, true, _, rfl, gS rfl hbm, fun i z hz => ?_⟩
   have hi0 : i = 0 := by have := (List.getElem?_eq_some_iff.1 hz).1; simpa [ofs] using this
   subst hi0
   obtain rfl : Int.ofNat x = z := by simpa [ofs] using hz
   rw [lay_get', if_neg (by omega)]; exact h0
  ·
   refine cSkip (kBlkN (kSeqN ?_))
   refine cRegion ?_
   refine sMv (v := nv _) rfl ?_
   refine sBin rfl rfl (aInt_add (b := 1) (by omega)) ?_
   refine sAs (v := nv _) rfl ?_
   refine sN ?_
   exact ⟨_, (by decide : 2 - 2 < 2 - 1), 2, rfl, .inr ⟨rfl, fun e => c2 e.symm⟩, rfl, rfl, rfl, trivial⟩
 ·
  have hxy : x ≠ y := by rcases hi with h | h; omega; exact h.2
  refine cExit (kSeqE (kSeqE (kBlkS (kSeqN ?_))))
  refine cSR ?_
  refine sMv (v := .slice _ _ _) rfl ?_
  refine sAs (v := .slice _ _ _) rfl ?_
  refine sN ?_
  refine cRet ?_
  refine ⟨.inr rfl, _, rfl, ?_, ⟨Nat.le_refl _, fun _ _ _ => rfl⟩, rfl⟩
  rw [if_neg hxy]
  refine .inr ⟨b, 0, C.size, true, C, rfl, hb, fun i z hz => ?_⟩
  have hi0 : i < 2 := by have := (List.getElem?_eq_some_iff.1 hz).1; simpa [ofs] using this
  have hi' : i = 0 ∨ i = 1 := by omega
  rcases hi' with rfl | rfl
  ·obtain rfl : Int.ofNat x = z := by simpa [ofs] using hz
   exact h0
  ·obtain rfl : Int.ofNat y = z := by simpa [ofs] using hz
   exact h1
end Go.AM

/-! N5 -/
namespace Go.AM
open Go.Proofs
instance : Inhabited BX := ⟨.mk 7 0 []⟩
abbrev Gt := Nat × List Nat
def notX (e : BX) : BX := .mk 2 0 [e]
def maxL (l : List Nat) : Nat := l.foldr max 0
/-- How deep the calls go. -/
def nfB : Nat → BX → Nat
  | 0, _ => 0
  | d + 1, e => (if e.kind = 5 then 2 else 1) + maxL (e.args.map (nfB d))
def atM : List BX → Nat → List Nat
  | [], _ => []
  | a :: l, f => if a.kind = 1 then a.var.toNat :: atM l f else f :: atM l (f + 1)
def inG (T : BX → Nat → Nat → List Gt) : List BX → Nat → List Gt
  | [], _ => []
  | a :: l, f => if a.kind = 1 then inG T l f else T a f (f + 1) ++ inG T l (f + 1)
def inU (U : BX → Nat → Nat) : List BX → Nat → Nat
  | [], _ => 0
  | a :: l, f => if a.kind = 1 then inU U l f else max (max (f + 1) (U a (f + 1))) (inU U l (f + 1))
def cmpM : List Nat → List Nat
  | [x, y] => if x = y then [x] else [x, y]
  | l => l
def gBoth (T : BX → Nat → Nat → List Gt) (l : List BX) (t f : Nat) : List Gt := inG T l f ++ [turnG t (cmpM (atM l f))] ++ (inG T l f).reverse
def gK (T : BX → Nat → Nat → List Gt) (kn : Nat) (e : BX) (t f : Nat) : List Gt :=
  if kn = 7 then [turnG t []] else if kn = 1 then [turnG t [e.var.toNat]] else if kn = 2 then T (e.args.getD 0 default) t f ++ [turnG t []]
  else if kn = 4 then T (e.args.getD 0 default) t f ++ T (e.args.getD 1 default) t f else if kn = 3 then gBoth T e.args t f
  else if kn = 5 then gBoth T (e.args.map notX) t f ++ [turnG t []] else []
def gT : Nat → BX → Nat → Nat → List Gt
  | 0, _, _, _ => []
  | d + 1, e, t, f => gK (gT d) e.kind.toNat e t f
def uK (U : BX → Nat → Nat) (kn : Nat) (e : BX) (f : Nat) : Nat :=
  if kn = 7 then 0 else if kn = 1 then 0 else if kn = 2 then U (e.args.getD 0 default) f
  else if kn = 4 then max (U (e.args.getD 0 default) f) (U (e.args.getD 1 default) f) else if kn = 3 then inU U e.args f
  else if kn = 5 then inU U (e.args.map notX) f else 0
def uT : Nat → BX → Nat → Nat
  | 0, _, _ => 0
  | d + 1, e, f => uK (uT d) e.kind.toNat e f
theorem maxL_mem {l : List Nat} {x : Nat} (h : x ∈ l) : x ≤ maxL l := by
 induction l with
 | nil => cases h
 | cons a l ih =>
  show x ≤ max a (maxL l)
  rcases List.mem_cons.1 h with rfl | h
  ·exact Nat.le_max_left _ _
  ·exact Nat.le_trans (ih h) (Nat.le_max_right _ _)
theorem nf_arg {d : Nat} {e a : BX} (h : a ∈ e.args) : nfB d a + 1 ≤ nfB (d + 1) e := by
 have := maxL_mem (List.mem_map_of_mem (f := nfB d) h)
 rw [nfB]; split <;> omega
theorem nf_arg5 {d : Nat} {e a : BX} (h : a ∈ e.args) (h5 : e.kind = 5) : nfB d a + 2 ≤ nfB (d + 1) e := by
 have := maxL_mem (List.mem_map_of_mem (f := nfB d) h)
 rw [nfB, if_pos h5]; omega
theorem nf_not (d : Nat) (a : BX) : nfB (d + 1) (notX a) = nfB d a + 1 := by
 rw [nfB, if_neg (by simp [notX, BX.kind])]
 show 1 + max (nfB d a) 0 = _
 omega
theorem nf_pos {vars : Int} {d : Nat} {e : BX} (h : 0 < d) : 1 ≤ nfB d e := by
 cases d with
 | zero => omega
 | succ d => rw [nfB]; split <;> omega
theorem fm_not {vars : Int} {d : Nat} {a : BX} (h : fmB vars d a = 0) : fmB vars (d + 1) (notX a) = 0 := by
 rw [fmB, if_neg (by simp [notX, BX.kind]), if_neg (by simp [notX, BX.args, BX.kind, BX.var, wantsN]), if_neg (by simp [notX, BX.kind])]
 show firstE [fmB vars d a] = 0
 rw [firstE, if_pos h]; rfl
theorem atM_len : ∀ (l : List BX) (f : Nat), (atM l f).length = l.length
 | [], _ => rfl
 | a :: l, f => by
  unfold atM
  split
  ·rw [List.length_cons, atM_len l f, List.length_cons]
  ·rw [List.length_cons, atM_len l (f + 1), List.length_cons]
theorem cmpM_len : ∀ (l : List Nat), (cmpM l).length ≤ l.length
 | [] => Nat.le_refl _
 | [x] => Nat.le_refl _
 | [x, y] => by
  show (if x = y then [x] else [x, y]).length ≤ 2
  split <;> simp
 | x :: y :: z :: l => Nat.le_refl _
theorem inG_ok {T : BX → Nat → Nat → List Gt} {p : Gt → Prop} : ∀ (l : List BX) (f : Nat), (∀ a ∈ l, ∀ t f, ∀ g ∈ T a t f, p g) → ∀ g ∈ inG T l f, p g
 | [], f, _ => fun g hg => by cases hg
 | a :: l, f, h => by
  unfold inG
  split
  ·exact inG_ok l f fun b hb => h b (by simp [hb])
  ·intro g hg
   rw [List.mem_append] at hg
   rcases hg with hg | hg
   ·exact h a (by simp) _ _ g hg
   ·exact inG_ok l (f + 1) (fun b hb => h b (by simp [hb])) g hg
theorem gBoth_ok {T : BX → Nat → Nat → List Gt} {l : List BX} {t f : Nat} (hl : l.length ≤ 2) (h : ∀ a ∈ l, ∀ t f, ∀ g ∈ T a t f, g.2.length ≤ 3) : ∀ g ∈ gBoth T l t f, g.2.length ≤ 3 := by
 intro g hg
 unfold gBoth at hg
 rw [List.mem_append, List.mem_append, List.mem_reverse] at hg
 rcases hg with (hg | hg) | hg
 ·exact inG_ok l f h g hg
 ·simp at hg; subst hg
  have h1 := cmpM_len (atM l f)
  rw [atM_len] at h1
  simp [turnG]; omega
 ·exact inG_ok l f h g hg
theorem args_le {vars : Int} {d : Nat} {e : BX} (h : fmB vars (d + 1) e = 0) : e.args.length ≤ 2 := by
 obtain ⟨kn, hk, hk1, hk7, hkl, _⟩ := fm_right h
 rw [hkl]
 have : kn = 1 ∨ kn = 2 ∨ kn = 3 ∨ kn = 4 ∨ kn = 5 ∨ kn = 6 ∨ kn = 7 := by omega
 rcases this with rfl | rfl | rfl | rfl | rfl | rfl | rfl <;> decide
theorem getD_memB {α : Type} [Inhabited α] {l : List α} {i : Nat} (h : i < l.length) : l.getD i default ∈ l := by
 rw [List.getD_eq_getElem?_getD, List.getElem?_eq_getElem h]; exact List.getElem_mem _
theorem gT_ok {vars : Int} : ∀ (D d : Nat) (e : BX) (t f : Nat), fmB vars d e = 0 → (∀ g ∈ gT D e t f, g.2.length ≤ 3) := by
 intro D
 induction D with
 | zero => intro d e t f _ g hg; cases hg
 | succ D ih =>
  intro d e t f h g hg
  obtain ⟨d, rfl⟩ : ∃ d', d = d' + 1 := by
   cases d with
   | zero => cases h
   | succ d => exact ⟨d, rfl⟩
  obtain ⟨kn, hk, hk1, hk7, hkl, _, _, hfa⟩ := fm_right h
  have hal := args_le h
  have harg : ∀ a ∈ e.args, ∀ t f, ∀ g ∈ gT D a t f, g.2.length ≤ 3 := fun a ha t f => ih d a t f (hfa a ha)
  have hnot : ∀ a ∈ e.args, ∀ t f, ∀ g ∈ gT D (notX a) t f, g.2.length ≤ 3 := fun a ha t f => ih (d + 1) (notX a) t f (fm_not (hfa a ha))
  rw [gT, gK] at hg
  split at hg
  ·simp at hg; subst hg; simp [turnG]
  ·split at hg
   ·simp at hg; subst hg; simp [turnG]
   ·split at hg
    ·rename_i h2
     rw [List.mem_append] at hg
     rcases hg with hg | hg
     ·exact harg _ (getD_memB (l := e.args) (i := 0) (by rw [hkl]; rw [hk] at h2; obtain rfl : kn = 2 := h2; decide)) _ _ g hg
     ·simp at hg; subst hg; simp [turnG]
    ·split at hg
     ·rename_i h4
      have hl2 : e.args.length = 2 := by rw [hkl]; rw [hk] at h4; obtain rfl : kn = 4 := h4; rfl
      rw [List.mem_append] at hg
      rcases hg with hg | hg
      ·exact harg _ (getD_memB (l := e.args) (i := 0) (by omega)) _ _ g hg
      ·exact harg _ (getD_memB (l := e.args) (i := 1) (by omega)) _ _ g hg
     ·split at hg
      ·exact gBoth_ok hal harg g hg
      ·split at hg
       ·rw [List.mem_append] at hg
        rcases hg with hg | hg
        ·refine gBoth_ok (by simpa using hal) (fun a ha => ?_) g hg
         rw [List.mem_map] at ha
         obtain ⟨b, hb, rfl⟩ := ha
         exact hnot b hb
        ·simp at hg; subst hg; simp [turnG]
       ·cases hg
end Go.AM

/-! R24 -/
namespace Go.AM
open Go.Proofs
theorem ElI : ElemT Tryd.prog 22 22 1 := ⟨_, _, _, 8, T22, T22, rfl, S3, Z3, rfl, bytes3, by decide, by decide⟩
theorem OwnF.toC {N : Nat} {m : Mem} {v : Value} {l : List Nat} (h : OwnF N m v (ofs l)) : OwnC N m v 1 l.length (cellsN l) := by
 rcases h with ⟨h, rfl⟩ | ⟨b, cap, c, rfl, h2, h3, h4, h5, h6⟩
 ·have : l = [] := List.length_eq_zero_iff.1 (by have := congrArg List.length h; rwa [ofs_length] at this)
  subst this; exact .nil _ _ _
 ·rw [ofs_length] at h4 ⊢
  refine .inr ⟨b, cap, c, rfl, h2, h3, h4, by omega, by simp, fun i hi => ?_⟩
  have hil : i < l.length := by omega
  rw [h6 i (Int.ofNat l[i]) (by simp [ofs, List.getElem?_eq_getElem hil]), cellsN_get (List.getElem?_eq_getElem hil)]
theorem OwnC.toFN {N : Nat} {m : Mem} {v : Value} {l : List Nat} (h : OwnC N m v 1 l.length (cellsN l)) : OwnF N m v (ofs l) := by
 rcases h with ⟨rfl, h, _⟩ | ⟨b, cap, c, rfl, h2, h3, h4, h5, h6, h7⟩
 ·have : l = [] := List.length_eq_zero_iff.1 h
  subst this; exact .nil _ _
 ·refine .inr ⟨b, cap, c, by rw [ofs_length], h2, h3, by rw [ofs_length]; exact h4, by omega, fun i x hx => ?_⟩
  have hil : i < l.length := by have := (List.getElem?_eq_some_iff.1 hx).1; rwa [ofs_length] at this
  rw [h7 i (by omega), cellsN_get (List.getElem?_eq_getElem hil)]
  simp [ofs, List.getElem?_eq_getElem hil] at hx
  rw [← hx]; rfl
/-- Appending one number; all else is as it was. -/
theorem sAppF {ρ : Env} {m : Mem} {K : Env → Mem → Prop} {ops : Array Oper} {l : List Oper} {d : Option Nat} {ty : TypeId} {pos : String} {af : Array Edge} {x y : Operand} {N k bx : Nat} {v : Value} {p : List Nat} (hx : evR ρ x = v) (hy : evR ρ y = .slice (some ⟨bx, 0, some 1⟩) 1 1) (h : OwnF N m v (ofs p)) (hb : Mem.get m bx = .cells true #[nv k]) (hN : N ≤ m.size) (hl : p.length ≤ 1000000)
  (hk : ∀ v' m', OwnF N m' v' (ofs (p ++ [k])) → Grew m v m' v' → wpOps Tryd.prog ops K l (updO ρ d v') m') : wpOps Tryd.prog ops K (⟨d, .call ⟨.builtin .append, ⟨[x, y]⟩, ⟨[22, 22]⟩⟩, ty, pos, af, none⟩ :: l) ρ m := by
 refine sAppC ElI hx hy (N := N) (n := p.length) (cs := cellsN p) (d := #[nv k]) h.toC hb rfl (by kernel_rfl) hN hl fun v' m' hO _ hG => hk v' m' (OwnC.toFN ?_) hG
 rw [show cellsN (p ++ [k]) = cellsN p ++ #[nv k] by simp [cellsN], List.length_append]
 exact hO
/-- The end of gates at work. -/
theorem sSlG {ρ : Env} {m : Mem} {K : Env → Mem → Prop} {ops : Array Oper} {l : List Oper} {d : Option Nat} {ty : TypeId} {pos : String} {af : Array Edge} {x i : Operand} {N : Nat} {v : Value} {cs : Array Value} {Gs I : List (Nat × List Nat)} (hO : OwnG N m v cs (Gs ++ I)) (hx : evR ρ x = v) (hi : evR ρ i = nv Gs.length)
  (hk : ∀ w, (ReadG m w I ∧ ¬ I = [] ∨ I = [] ∧ ∃ q c, w = .slice q 0 c) → wpOps Tryd.prog ops K l (updO ρ d w) m) : wpOps Tryd.prog ops K (⟨d, .slice 28 x (some i) none none, ty, pos, af, none⟩ :: l) ρ m := by
 have hrows := hO.read
 rcases hO.1 with ⟨rfl, h0, _⟩ | ⟨b, cap, c, rfl, h2, h3, h4, h5, h6, h7⟩
 ·rw [List.length_append] at h0
  have hG : Gs = [] := List.length_eq_zero_iff.1 (by omega)
  have hI : I = [] := List.length_eq_zero_iff.1 (by omega)
  subst hG hI
  refine sO (opF_read rfl ?_) (hk (.slice none 0 0) (.inr ⟨rfl, _, _, rfl⟩))
  simp only [aRead, hx, Option.map_some, hi, Option.map_none, aSlice, T28, S49]
  rfl
 ·rw [List.length_append] at h4 h6 h7 hx
  have hsl : aSlice Tryd.prog m 28 (.slice (some ⟨b, 0, some 4⟩) (Gs.length + I.length) cap) (some (nv Gs.length)) none none = some (cut false b 0 4 Gs.length (Gs.length + I.length) cap) := by
   simp only [aSlice, T28, S49, if_true, aBounds, aBound_nv (show Gs.length ≤ Gs.length + I.length by omega), Option.map_some, Option.isSome_none]
  refine sO (opF_read rfl (v := cut false b 0 4 Gs.length (Gs.length + I.length) cap) ?_) (hk _ ?_)
  ·simp only [aRead, hx, Option.map_some, hi, Option.map_none]
   exact hsl
  ·by_cases hI : I = []
   ·right
    subst hI
    refine ⟨rfl, ?_⟩
    unfold cut
    rw [if_neg (by simp)]
    split
    ·exact ⟨_, _, rfl⟩
    ·simp only [List.length_nil, Nat.add_zero, Nat.sub_self]
     exact ⟨_, _, rfl⟩
   ·left
    have hIl : 0 < I.length := List.length_pos_iff.2 hI
    refine ⟨?_, hI⟩
    unfold cut
    rw [if_neg (by simp), if_neg (by omega), Nat.zero_add, Nat.add_sub_cancel_left]
    have hsz : Gs.length * 4 + I.length * 4 ≤ c.size := by rw [h5]; have := Nat.mul_le_mul_right 4 h4; omega
    refine ⟨_, .inr ⟨b, Gs.length * 4, _, c, true, rfl, h3, hsz, rfl⟩, fun i g hi => ?_⟩
    have hil := (List.getElem?_eq_some_iff.1 hi).1
    obtain ⟨s, a0, a1, a2, a3, ho, _⟩ := hO.2 (Gs.length + i) g (by rw [List.getElem?_append_right (by omega), Nat.add_sub_cancel_left]; exact hi)
    have key : ∀ j, j < 4 → (c.extract (Gs.length * 4) (Gs.length * 4 + I.length * 4))[i * 4 + j]? = cs[(Gs.length + i) * 4 + j]? := fun j hj => by
     rw [Array.getElem?_extract, if_pos (by omega), ← h7 _ (by omega)]
     congr 1; omega
    exact ⟨s, by have := key 0 (by omega); rw [Nat.add_zero, Nat.add_zero] at this; rw [this]; exact a0, by rw [key 1 (by omega)]; exact a1, by rw [key 2 (by omega)]; exact a2, by rw [key 3 (by omega)]; exact a3, ho.ints⟩
theorem spec_backE {m : Mem} {q : Option Addr} {c : Nat} : ∃ v m', ACalls Tryd.prog 79 #[.slice q 0 c] m v m' ∧ (∃ cs, OwnG m.size m' v cs [] ∧ Ext m m') := by
 refine wpF (args := [_]) mixed okf79 (fn := Tryd.f79) rfl rfl rfl (by simp) ?_
 refine cSR ?_
 refine sAs (v := .slice _ _ _) rfl ?_
 refine sN ?_
 refine cSR ?_
 refine sMv (v := .slice _ _ _) rfl ?_
 refine sLen T28 rfl ?_
 refine sMkG (n := 0) rfl rfl (by omega) fun Z hZ hZ1 => ?_
 refine sAs (v := .slice _ _ _) rfl ?_
 refine sN ?_
 refine cSR ?_
 refine sMv (v := .slice _ _ _) rfl ?_
 refine sMv (v := .slice _ _ _) rfl ?_
 refine sO (v := nv 0) (m' := m.push (.cells true Z)) (opF_eff rfl rfl (by
  show aCopy Tryd.prog (m.push (.cells true Z)) 28 (.slice (some ⟨m.size, 0, some 4⟩) 0 0) (.slice q 0 c) = _
  simp only [aCopy, T28, S49, aLenOf]
  rfl)) ?_
 refine sN ?_
 refine cSR ?_
 refine sMv (v := .slice _ _ _) rfl ?_
 obtain ⟨v12, m2, h12, T, g2, hT, hT1, hTq, hB2, hz2⟩ := spec_ReverseG (m := m.push (.cells true Z)) (n := 0) (cap := 0) (gP rfl) (by omega) (by omega) hZ1
 refine sCall1 rfl call127 rfl h12 ?_
 simp only [Array.size_push] at hz2
 refine sN ?_
 refine cSeq (cSR ?_)
 refine sMv (v := .slice _ _ _) rfl ?_
 refine sLen T28 rfl ?_
 refine sMv (v := nv 0) rfl ?_
 refine sN ?_
 refine cBlock ?_
 refine wpC_loop (fun k ρ m' => k = 0 ∧ m2 = m' ∧ Has ρ [(3, .slice (some ⟨m.size, 0, some 4⟩) 0 0), (14, nv 0), (15, nv 0)]) ⟨rfl, rfl, rfl, rfl, rfl, trivial⟩ ?_
 rintro k ρ _ ⟨rfl, rfl, hh⟩
 rw [hh.env]; clear hh
 refine cSR ?_
 refine sBin (v := .bool false) (a := 0) (b := 0) rfl rfl rfl ?_
 refine sN ?_
 refine cSeq ?_
 refine cCondF rfl ?_
 refine cExit (kSeqE (kSeqE (kBlkS (kSeqN ?_))))
 refine cSR ?_
 refine sMv (v := .slice _ _ _) rfl ?_
 refine sAs (v := .slice _ _ _) rfl ?_
 refine sN ?_
 refine cRet ?_
 refine ⟨.inr rfl, _, rfl, #[], ⟨.inr ⟨m.size, 0, T, rfl, Nat.le_refl _, g2, Nat.le_refl _, by omega, rfl, fun i hi => by simp at hi⟩, fun i g h => by cases i <;> cases h⟩, ?_⟩
 exact ⟨by omega, fun b hb => by rw [hB2.2 b (by simp; omega) (by omega), gPn hb]⟩
end Go.AM

/-! R25 -/
namespace Go.AM
open Go.Proofs
/-- What compiling an expression does. -/
def ToSpec (vars : Int) (D : Nat) : Prop := ∀ {P : Nat → Prop} {m : Mem} {d N bb W t f : Nat} {Gs : List (Nat × List Nat)} {bv v : Value} {e : BX}, BldP P N bb m W Gs bv → N ≤ m.size → BAt P m d v e → fmB vars d e = 0 → nfB d e ≤ D → f + 2 * D ≤ 1000000 → Gs.length + (gT D e t f).length ≤ 200000 →
  ∃ r m', ACalls Tryd.prog 113 #[.pointer (some ⟨bb, 0, none⟩), v, nv t, nv f] m r m' ∧ (m.size ≤ m'.size ∧ (∀ b, P b → Mem.get m' b = Mem.get m b) ∧ ∃ bv', BldP P N bb m' (max W (uT D e f)) (Gs ++ gT D e t f) bv')
theorem BldP.lt {P : Nat → Prop} {N bb W : Nat} {m : Mem} {Gs : List (Nat × List Nat)} {v : Value} (h : BldP P N bb m W Gs v) {b : Nat} (hb : P b) : b < m.size := (h.2.2.1 b hb).1
theorem BldP.len {P : Nat → Prop} {N bb W : Nat} {m : Mem} {Gs : List (Nat × List Nat)} {v : Value} (h : BldP P N bb m W Gs v) : ∃ q cap, v = .slice q Gs.length cap := by
 obtain ⟨_, _, _, cs, hO, _⟩ := h; exact hO.1.len
theorem drop_consB {α : Type} {l : List α} {i : Nat} {a : α} (h : l[i]? = some a) : l.drop i = a :: l.drop (i + 1) := by
 have hl := (List.getElem?_eq_some_iff.1 h).1
 rw [List.drop_eq_getElem_cons hl, (List.getElem?_eq_some_iff.1 h).2]
theorem okf139 : okF Tryd.prog H0 139 67 = true := by kernel_rfl
theorem spec_both {vars : Int} {D : Nat} (ih : ToSpec vars D) {P : Nat → Prop} {m : Mem} {d N bb W t f b0 o0 cp0 : Nat} {r0 : Bool} {c00 : Array Value} {Gs : List (Nat × List Nat)} {bv : Value} {l : List BX} (hB : BldP P N bb m W Gs bv) (hN : N ≤ m.size) (hP0 : P b0) (hg0 : Mem.get m b0 = .cells r0 c00) (hl0 : ∀ (i : Nat) (a : BX), l[i]? = some a → o0 + i * 3 + 3 ≤ c00.size ∧ BAt P m d (.agg (c00.extract (o0 + i * 3) (o0 + i * 3 + 3))) a) (hl2 : l.length = 2) (hf : ∀ a ∈ l, fmB vars d a = 0) (hn : ∀ a ∈ l, nfB d a ≤ D) (hfr : f + 2 + 2 * D ≤ 1000000) (hlen : Gs.length + (gBoth (gT D) l t f).length ≤ 200000) :
 ∃ r m', ACalls Tryd.prog 139 #[.pointer (some ⟨bb, 0, none⟩), .slice (some ⟨b0, o0, some 3⟩) 2 cp0, nv t, nv f] m r m' ∧ (m.size ≤ m'.size ∧ (∀ b, P b → Mem.get m' b = Mem.get m b) ∧ ∃ bv', BldP P N bb m' (max W (inU (uT D) l f)) (Gs ++ gBoth (gT D) l t f) bv') := by
 obtain ⟨qb, cb, rfl⟩ := hB.len
 have hPm : ∀ b, P b → b < m.size := fun b hb => hB.lt hb
 have hgl : (gBoth (gT D) l t f).length = (inG (gT D) l f).length + 1 + (inG (gT D) l f).length := by simp [gBoth]; omega
 refine wpF (args := [_, _, _, _]) mixed okf139 (fn := Tryd.f139) rfl rfl rfl (by simp) ?_
 refine cSR ?_
 refine sMv (v := .pointer _) rfl ?_
 refine sNC rfl ?_
 refine sFA F96_0 rfl ?_
 refine sFA F30_2 rfl ?_
 refine sLd (v := .slice _ _ _) A28 rfl hB.1 rfl ?_
 refine sLen T28 rfl ?_
 refine sAs (v := nv _) rfl ?_
 refine sN ?_
 refine cSR ?_
 refine sAs (v := .slice _ _ _) rfl ?_
 refine sN ?_
 refine cSeq (cSR ?_)
 refine sMv (v := .slice _ _ _) rfl ?_
 refine sLen T64 rfl ?_
 refine sMv (v := nv 0) rfl ?_
 refine sN ?_
 refine cBlock ?_
 refine wpC_loop (fun k ρ m' => ∃ i fi A I Wi bvi av, k = 2 - i ∧ i ≤ 2 ∧ A ++ atM (l.drop i) fi = atM l f ∧ I ++ inG (gT D) (l.drop i) fi = inG (gT D) l f ∧ max Wi (inU (uT D) (l.drop i) fi) = max W (inU (uT D) l f) ∧ A.length = i ∧ fi ≤ f + i ∧ BldP (fun b => P b ∨ blkOf av = some b) N bb m' Wi (Gs ++ I) bvi ∧ m.size ≤ m'.size ∧ (∀ b, P b → Mem.get m' b = Mem.get m b) ∧ OwnF m.size m' av (ofs A) ∧ Has ρ [(0, .pointer (some ⟨bb, 0, none⟩)), (2, nv t), (3, nv fi), (8, nv Gs.length), (9, av), (19, .slice (some ⟨b0, o0, some 3⟩) 2 cp0), (20, nv 2), (21, nv i)]) ⟨0, f, [], [], W, _, .slice none 0 0, rfl, Nat.zero_le _, rfl, rfl, rfl, rfl, Nat.le_refl _, by rw [List.append_nil]; exact hB.move (Nat.le_refl _) (fun _ _ _ => rfl) (fun b hb => by rcases hb with hb | hb; exact ⟨hPm b hb, .inl hb⟩; cases hb), Nat.le_refl _, fun _ _ => rfl, .nil _ _, rfl, rfl, rfl, rfl, rfl, rfl, rfl, rfl, trivial⟩ ?_
 rintro k ρ m' ⟨i, fi, A, I, Wi, bvi, av, rfl, hi, hA, hI, hW, hAl, hfi, hBi, hz, hPk, hav, hh⟩
 obtain ⟨qa, ca, rfl⟩ := hav.ints.lenN
 rw [hh.env]; clear hh
 have hIl : I.length ≤ (inG (gT D) l f).length := by rw [← hI, List.length_append]; omega
 refine cSR ?_
 refine sBin rfl rfl (aInt_lss) ?_
 refine sN ?_
 refine cSeq ?_
 refine cCond rfl (fun c0 => ?_) (fun c0 => ?_)
 ·
  obtain ⟨a, ha⟩ : ∃ a, l[i]? = some a := ⟨_, List.getElem?_eq_getElem (by omega)⟩
  have ham := List.mem_of_getElem? ha
  obtain ⟨hs1, hat0⟩ := hl0 i a ha
  rw [drop_consB ha] at hA hI hW
  have hat : BAt P m' d (.agg (c00.extract (o0 + i * 3) (o0 + i * 3 + 3))) a := hat0.frame fun b hb _ => ⟨hb, hPk b hb⟩
  obtain ⟨da, q1, cp1, hda, hca⟩ := hat.agg
  subst hda
  obtain ⟨kn, hk, hk1, hk7, hkl, hv0, hv1, hfa⟩ := fm_right (hf a ham)
  refine cSkip (kSeqN ?_)
  refine cSeq (cBlock (cSR ?_))
  refine sIx T64 S66 rfl rfl (by omega) ?_
  refine sLdA A66 S66 rfl ((hPk b0 hP0).trans hg0) hs1 ?_
  refine sAlloc Z66 (by kernel_rfl) ?_
  rw [hca]
  refine sStNA S66 rfl rfl rfl rfl (by kernel_rfl) ?_
  rw [hca, hk] at hat
  rw [hk]
  have e1 : Ext m' (m'.push (.cells true #[nv kn, .int .i64 a.var, .slice q1 a.args.length cp1])) := .push _ _
  have g1 : Mem.get (m'.push (.cells true #[nv kn, .int .i64 a.var, .slice q1 a.args.length cp1])) m'.size = .cells true #[nv kn, .int .i64 a.var, .slice q1 a.args.length cp1] := gP rfl
  have z1 : (m'.push (.cells true #[nv kn, .int .i64 a.var, .slice q1 a.args.length cp1])).size = m'.size + 1 := by simp
  have hat1 := hat.ext e1
  have hB1 := hBi.ext e1
  have hav1 := hav.ext e1
  have hPk1 : ∀ b, P b → Mem.get (m'.push (.cells true #[nv kn, .int .i64 a.var, .slice q1 a.args.length cp1])) b = Mem.get m b := fun b hb => (e1.2 b (by have := hPm b hb; omega)).trans (hPk b hb)
  generalize m'.push (.cells true #[nv kn, .int .i64 a.var, .slice q1 a.args.length cp1]) = m1 at *
  refine sN ?_
  refine cSeq (cSR ?_)
  refine sFA F66_0 rfl ?_
  refine sLd (v := nv kn) A3 rfl g1 rfl ?_
  refine sBin (a := kn) (b := 1) rfl rfl aInt_eql ?_
  refine sN ?_
  refine cCond (p := kn = 1) rfl (fun c1 => ?_) (fun c1 => ?_)
  ·
   obtain ⟨w1, w2⟩ := hv1 c1
   obtain ⟨vn, hvn⟩ : ∃ vn : Nat, a.var = Int.ofNat vn := ⟨a.var.toNat, by simp; omega⟩
   rw [hvn] at g1
   have hk1' : a.kind = 1 := by rw [hk, c1]; rfl
   rw [atM, if_pos hk1'] at hA
   rw [inG, if_pos hk1'] at hI
   rw [inU, if_pos hk1'] at hW
   refine cSR ?_
   refine sMv (v := .slice _ _ _) rfl ?_
   refine sFA F66_1 rfl ?_
   refine sLd (v := nv vn) A3 rfl g1 rfl ?_
   refine sBuildS T22 S3 Z3 (by decide) (by decide) (by decide) (by kernel_rfl) fill1 rfl ?_
   refine sAppF rfl rfl (N := m.size) (hav1.ext (.push _ _)) (gP rfl) (by simp; omega) (by omega) fun v4 m4 hO4 hG4 => ?_
   have z4 := hG4.1
   simp only [Array.size_push] at z4
   have hav1l : ∀ b, blkOf (Value.slice qa A.length ca) = some b → m.size ≤ b ∧ b < m'.size := fun b hb => hav.lt hb
   refine sAs (v := v4) rfl ?_
   refine sN ?_
   refine cExit (kSeqE (kBlkS (kSeqN ?_)))
   refine cRegion ?_
   refine sBin rfl rfl (aInt_add (b := 1) (by omega)) ?_
   refine sMv (v := nv _) rfl ?_
   refine sN ?_
   refine ⟨_, ?_, i + 1, fi, A ++ [vn], I, Wi, bvi, v4, rfl, by omega, by rw [← hA, hvn, List.append_assoc]; rfl, hI, hW, by simp [hAl], by omega, ?_, by omega, fun b hb => ?_, hO4, rfl, rfl, rfl, rfl, rfl, rfl, rfl, rfl, trivial⟩
   ·omega
   ·refine (hB1.ext (.push m1 (.cells true #[nv vn]))).move (by simpa using z4) (fun b h1 h2 => hG4.2.1 b h1 (fun e => h2 (.inr e))) fun b hb => ?_
    rcases hb with hb | hb
    ·exact ⟨by have := hPm b hb; omega, .inl (.inl hb)⟩
    ·refine ⟨(hO4.lt hb).2, ?_⟩
     rcases hG4.2.2 with e | ⟨b1, e, hb1⟩
     ·rw [e] at hb; exact .inl (.inr hb)
     ·rw [e] at hb; injection hb with hb; exact .inr (by simp only [Array.size_push] at hb1 ⊢; omega)
   ·have hbm := hPm b hb
    rw [hG4.2.1 b (by simp only [Array.size_push]; omega) (fun e => by have := (hav1l b e).1; omega), gPn (by omega)]; exact hPk1 b hb
  ·
   have hk1' : ¬ a.kind = 1 := by rw [hk]; intro h; exact c1 (Int.ofNat.inj h)
   rw [atM, if_neg hk1'] at hA
   rw [inG, if_neg hk1'] at hI
   rw [inU, if_neg hk1'] at hW
   have hTl : I.length + (gT D a fi (fi + 1)).length ≤ (inG (gT D) l f).length := by rw [← hI]; simp only [List.length_append]; omega
   refine cSkip (kSeqN ?_)
   refine cSR ?_
   refine sMv (v := .pointer _) rfl ?_
   refine sMv (v := nv _) rfl ?_
   obtain ⟨r35, m35, h35, hB35, z35, k35⟩ := spec_use hB1 (w := fi) (by omega)
   refine sCall2 rfl call156 rfl rfl h35 ?_
   have hbl : bb < m1.size := live hB1.1
   have hbP : ∀ b, P b → b ≠ bb := fun b hb => (hB.2.2.1 b hb).2.1
   have g35 : Mem.get m35 m'.size = .cells true #[nv kn, .int .i64 a.var, .slice q1 a.args.length cp1] := (k35 _ (by have := hB.2.1; omega)).trans g1
   have hat35 : BAt P m35 (da + 1) (.agg #[nv kn, .int .i64 a.var, .slice q1 a.args.length cp1]) a := hat1.frame fun b hb _ => ⟨hb, k35 b (hbP b hb)⟩
   have hav35 : OwnF m.size m35 (.slice qa A.length ca) (ofs A) := hav1.keep fun b hb => k35 b (by have := (hav.lt hb).1; have := hB.2.1; omega)
   refine sN ?_
   refine cSR ?_
   refine sMv (v := .pointer _) rfl ?_
   refine sLdAll A66 S66 rfl g35 rfl ?_
   refine sMv (v := nv _) rfl ?_
   refine sMv (v := nv _) rfl ?_
   refine sBin rfl rfl (aInt_add (b := 1) (by omega)) ?_
   obtain ⟨r41, m41, h41, z41, k41, bv41, hB41⟩ := ih (t := fi) (f := fi + 1) hB35 (by omega) (hat35.frame fun b hb _ => ⟨.inl hb, rfl⟩) (hf a ham) (hn a ham) (by omega) (by rw [List.length_append]; omega)
   refine sCall4 rfl call113 rfl rfl rfl rfl h41 ?_
   have hav41 : OwnF m.size m41 (.slice qa A.length ca) (ofs A) := hav35.keep fun b hb => k41 b (.inr hb)
   have hPk41 : ∀ b, P b → Mem.get m41 b = Mem.get m b := fun b hb => (k41 b (.inl hb)).trans ((k35 b (hbP b hb)).trans (hPk1 b hb))
   refine sN ?_
   refine cSR ?_
   refine sMv (v := .slice _ _ _) rfl ?_
   refine sMv (v := nv _) rfl ?_
   refine sBuildS T22 S3 Z3 (by decide) (by decide) (by decide) (by kernel_rfl) fill1 rfl ?_
   refine sAppF rfl rfl (N := m.size) (hav41.ext (.push _ _)) (gP rfl) (by simp; omega) (by omega) fun v4 m4 hO4 hG4 => ?_
   have z4 := hG4.1
   simp only [Array.size_push] at z4
   have hav1l : ∀ b, blkOf (Value.slice qa A.length ca) = some b → m.size ≤ b ∧ b < m'.size := fun b hb => hav.lt hb
   refine sAs (v := v4) rfl ?_
   refine sN ?_
   refine cRegion ?_
   refine sMv (v := nv _) rfl ?_
   refine sBin rfl rfl (aInt_add (b := 1) (by omega)) ?_
   refine sAs (v := nv _) rfl ?_
   refine sNil (kBlkN (kSeqN ?_))
   refine cRegion ?_
   refine sBin rfl rfl (aInt_add (b := 1) (by omega)) ?_
   refine sMv (v := nv _) rfl ?_
   refine sN ?_
   refine ⟨_, ?_, i + 1, fi + 1, A ++ [fi], I ++ gT D a fi (fi + 1), max (max Wi (fi + 1)) (uT D a (fi + 1)), bv41, v4, rfl, by omega, by rw [← hA, List.append_assoc]; rfl, by rw [List.append_assoc]; exact hI, ?_, by simp [hAl], by omega, ?_, by omega, fun b hb => ?_, hO4, rfl, rfl, rfl, rfl, rfl, rfl, rfl, rfl, trivial⟩
   ·omega
   ·rw [← hW]; omega
   ·rw [← List.append_assoc]
    refine (hB41.ext (.push m41 (.cells true #[nv fi]))).move (by simpa using z4) (fun b h1 h2 => hG4.2.1 b h1 (fun e => h2 (.inr e))) fun b hb => ?_
    rcases hb with hb | hb
    ·exact ⟨by have := hPm b hb; omega, .inl (.inl hb)⟩
    ·refine ⟨(hO4.lt hb).2, ?_⟩
     rcases hG4.2.2 with e | ⟨b1, e, hb1⟩
     ·rw [e] at hb; exact .inl (.inr hb)
     ·rw [e] at hb; injection hb with hb; exact .inr (by simp only [Array.size_push] at hb1 ⊢; omega)
   ·have hbm := hPm b hb
    rw [hG4.2.1 b (by simp; omega) (fun e => by have := (hav1l b e).1; omega), gPn (by omega)]; exact hPk41 b hb
 ·
  obtain rfl : i = 2 := by omega
  rw [List.drop_of_length_le (by omega)] at hA hI hW
  simp only [atM, inG, inU, List.append_nil, Nat.max_zero] at hA hI hW
  subst hA hI hW
  obtain ⟨qB, cB, rfl⟩ := hBi.len
  refine cExit (kSeqE (kSeqE (kBlkS (kSeqN ?_))))
  refine cSR ?_
  refine sMv (v := .pointer _) rfl ?_
  refine sNC rfl ?_
  refine sFA F96_0 rfl ?_
  refine sFA F30_2 rfl ?_
  refine sLd (v := .slice _ _ _) A28 rfl hBi.1 rfl ?_
  refine sMv (v := nv _) rfl ?_
  obtain ⟨cs55, hO55, hcs55⟩ := hBi.2.2.2
  refine sSlG hO55 rfl rfl fun w hw => ?_
  obtain ⟨v56, m56, h56, cs56, o56, e56⟩ : ∃ v m56, ACalls Tryd.prog 79 #[w] m' v m56 ∧ ∃ cs, OwnG m'.size m56 v cs (inG (gT D) l f).reverse ∧ Ext m' m56 := by
   rcases hw with ⟨hR, _⟩ | ⟨h0, q, c, rfl⟩
   ·exact spec_back hR (by omega) (fun g hg => by
     have := inG_ok (T := gT D) (p := fun g => g.2.length ≤ 3) l f (fun a ha t f => gT_ok D d a t f (hf a ha)) g hg
     omega)
   ·rw [h0]; exact spec_backE
  obtain ⟨q56, c56, rfl⟩ := o56.1.len
  refine sCall1 rfl call79 rfl h56 ?_
  have z56 := e56.1
  refine sAs (v := .slice _ _ _) rfl ?_
  refine sN ?_
  refine cSR ?_
  refine sMv (v := .pointer _) rfl ?_
  refine sMv (v := nv _) rfl ?_
  refine sMv (v := .slice _ _ _) rfl ?_
  obtain ⟨x, y, hxy⟩ := len2 (show (atM l f).length = 2 by rw [atM_len]; exact hl2)
  obtain ⟨ba, Ca, hea, hba, hga, hCa, hc0, hc1⟩ : ∃ ba Ca, Value.slice qa (atM l f).length ca = .slice (some ⟨ba, 0, some 1⟩) 2 (Array.size Ca) ∧ m.size ≤ ba ∧ Mem.get m' ba = .cells true Ca ∧ 2 ≤ Ca.size ∧ Ca[0]? = some (nv x) ∧ Ca[1]? = some (nv y) := by
   rcases hav with ⟨h, _⟩ | ⟨b, cap, c, h1, h2, h3, h4, h5, h6⟩
   ·rw [hxy] at h; cases h
   ·rw [ofs_length, hxy] at h4
    refine ⟨b, c, ?_, h2, h3, by simp at h4; omega, h6 0 (Int.ofNat x) (by rw [hxy]; rfl), h6 1 (Int.ofNat y) (by rw [hxy]; rfl)⟩
    rw [h1, ofs_length, h5, hxy]; rfl
  have hbal := live hga
  have havb : blkOf (Value.slice qa (atM l f).length ca) = some ba := by rw [hea]; rfl
  obtain ⟨v60, m60, h60, i60, k60, z60⟩ := spec_Compact2 (e56.cells hga) hCa hc0 hc1
  refine sCall1 rfl call157 hea h60 ?_
  have hQ : BldP (fun b => P b ∨ b = ba ∨ (m'.size ≤ b ∧ b < m56.size)) N bb m60 (max W (inU (uT D) l f)) (Gs ++ inG (gT D) l f) (.slice qB (Gs ++ inG (gT D) l f).length cB) := by
   refine hBi.move (by omega) (fun b h1 h2 => ?_) fun b hb => ?_
   ·rw [k60.2 b (by omega) (fun e => h2 (.inr (by rw [e]; exact havb))), e56.2 b h1]
   ·rcases hb with hb | hb | hb
    ·exact ⟨by have := hPm b hb; omega, .inl (.inl hb)⟩
    ·exact ⟨by omega, .inl (.inr (by rw [hb]; exact havb))⟩
    ·exact ⟨by omega, .inr hb.1⟩
  have hcm : (if x = y then [x] else [x, y]) = cmpM (atM l f) := by rw [hxy]; rfl
  rw [hcm] at i60
  have hcl := cmpM_len (atM l f)
  rw [atM_len] at hcl
  obtain ⟨v61, m61, h61, w61, rfl, o61, e61⟩ := spec_turn (k := t) i60 (by omega)
  refine sCall2 rfl call78 rfl rfl h61 ?_
  obtain ⟨q61, c61, rfl⟩ := o61.ints.lenN
  refine sBuildS T28 S49 Z49 (by decide) (by decide) (by decide) (by kernel_rfl) fillA4 rfl ?_
  obtain ⟨r63, m63, h63, bv63, hB63, z63, k63⟩ := add_one (gk := kindM (cmpM (atM l f)).length) hQ e61 (by omega) (o61.mono (Nat.le_succ _)) (by rw [List.length_append]; omega)
  refine sCall2 rfl call75 rfl rfl h63 ?_
  have hvB : ∀ b, blkOf (Value.slice qB (Gs ++ inG (gT D) l f).length cB) = some b → ¬ (P b ∨ b = ba ∨ (m'.size ≤ b ∧ b < m56.size)) := fun b hb hp => (hQ.2.2.1 b hp).2.2 hb
  have z61 := e61.1
  refine sN ?_
  refine cRegion ?_
  refine sMv (v := .pointer _) rfl ?_
  refine sMv (v := .slice _ _ _) rfl ?_
  have o63 : OwnG m'.size m63 (.slice q56 (inG (gT D) l f).reverse.length c56) cs56 (inG (gT D) l f).reverse := o56.up fun b h1 h2 => by
   rw [k63 b (by omega) (by have := hB.2.1; omega) (fun e => hvB b e (.inr (.inr ⟨h1, h2⟩))), k60.2 b h2 (by omega)]
  have hBP : BldP P N bb m63 (max W (inU (uT D) l f)) (Gs ++ inG (gT D) l f ++ [(kindM (cmpM (atM l f)).length, cmpM (atM l f) ++ [t])]) bv63 := hB63.move (Nat.le_refl _) (fun _ _ _ => rfl) fun b hb => ⟨by have := hPm b hb; omega, .inl (.inl hb)⟩
  obtain ⟨r66, m66, h66, bv66, hB66, z66, k66⟩ := spec_addP hBP (Gs2 := (inG (gT D) l f).reverse) (x := .slice q56 (inG (gT D) l f).reverse.length c56) ⟨cs56, o63.1.src, fun i g hi => by
   obtain ⟨s, a0, a1, a2, a3, ho, hb⟩ := o63.2 i g hi
   have ho' : m'.size ≤ m'.size := Nat.le_refl _
   obtain ⟨s2, b0, b1, b2, b3, ho2, _⟩ := o56.2 i g hi
   rw [a1] at b1; injection b1 with b1; subst b1
   refine ⟨s, a0, a1, a2, a3, ho.mono (by omega), fun b hbs => ?_⟩
   have h1 := ho2.lt hbs
   exact ⟨(hB63.2.2.1 b (.inr (.inr h1))).2.2, fun hp => by have := hPm b hp; omega⟩⟩ (by omega) (by simp only [List.length_append, List.length_singleton]; omega) (by rw [List.length_reverse]; omega)
  refine sCall2 rfl call75 rfl rfl h66 ?_
  refine sNil ?_
  refine ⟨.inl rfl, _, rfl, by omega, fun b hb => ?_, bv66, ?_⟩
  ·have hbm := hPm b hb
   rw [k66 b (by omega) (hBP.2.2.1 b hb).2.1 (hBP.2.2.1 b hb).2.2, k63 b (by omega) (hBP.2.2.1 b hb).2.1 (fun e => hvB b e (.inl hb)), k60.2 b (by omega) (by omega), e56.2 b (by omega)]
   exact hPk b hb
  ·rw [show Gs ++ gBoth (gT D) l t f = Gs ++ inG (gT D) l f ++ [(kindM (cmpM (atM l f)).length, cmpM (atM l f) ++ [t])] ++ (inG (gT D) l f).reverse by simp [gBoth, turnG]]
   exact hB66
end Go.AM

/-! N6 -/
namespace Go.AM
open Go.Proofs
theorem maxL_le_sum (l : List Nat) : maxL l ≤ l.sum := by
 induction l with
 | nil => exact Nat.le_refl _
 | cons a l ih => show max a (maxL l) ≤ (a :: l).sum; rw [List.sum_cons]; omega
theorem maxL_mono {α : Type} {g h : α → Nat} {l : List α} (hl : ∀ a ∈ l, g a ≤ h a) : maxL (l.map g) ≤ maxL (l.map h) := by
 induction l with
 | nil => exact Nat.le_refl _
 | cons a l ih =>
  have h1 := hl a (by simp)
  have h2 := ih fun b hb => hl b (by simp [hb])
  show max (g a) (maxL (l.map g)) ≤ max (h a) (maxL (l.map h))
  omega
theorem sum_two (g : BX → Nat) (l : List BX) : (l.map fun a => 2 * g a).sum = 2 * (l.map g).sum := by
 induction l with
 | nil => rfl
 | cons a l ih => simp only [List.map_cons, List.sum_cons, ih]; omega
theorem nf_sz : ∀ (d : Nat) (e : BX), nfB d e ≤ 2 * szB d e
 | 0, e => by simp [nfB]
 | d + 1, e => by
  have h1 := maxL_mono (l := e.args) (g := nfB d) (h := fun a => 2 * szB d a) fun a _ => nf_sz d a
  have h2 := maxL_le_sum (e.args.map fun a => 2 * szB d a)
  rw [sum_two] at h2
  rw [nfB, szB]
  split <;> omega
/-- The bound on the number of gates. -/
def Cnt (T s : Nat) : Prop := (T + 8) * 2 ^ (s - 1) ≤ 9 * 3 ^ (s - 1)
theorem pow_le3 (n : Nat) : 2 ^ n ≤ 3 ^ n := Nat.pow_le_pow_left (by decide) n
theorem cnt_not {T s : Nat} (h : Cnt T s) (hs : 1 ≤ s) : Cnt (T + 1) (1 + s) := by
 obtain ⟨k, rfl⟩ : ∃ k, s = k + 1 := ⟨s - 1, by omega⟩
 unfold Cnt at h ⊢
 rw [show k + 1 - 1 = k by omega] at h
 rw [show 1 + (k + 1) - 1 = k + 1 by omega, Nat.pow_succ, Nat.pow_succ]
 have h2 := pow_le3 k
 generalize 2 ^ k = x at *
 generalize 3 ^ k = X at *
 have e1 : (T + 1 + 8) * (x * 2) = 2 * ((T + 8) * x) + 2 * x := by rw [show T + 1 + 8 = (T + 8) + 1 by omega, Nat.add_mul, Nat.one_mul, ← Nat.mul_assoc]; omega
 omega
theorem cnt_two {A B T s1 s2 k : Nat} (h1 : Cnt A s1) (h2 : Cnt B s2) (hs1 : 1 ≤ s1) (hs2 : 1 ≤ s2) (hT : T + 8 + 18 ≤ 2 * (A + 8) + 2 * (B + 8)) : Cnt T (1 + (s1 + s2)) := by
 obtain ⟨a, rfl⟩ : ∃ a, s1 = a + 1 := ⟨s1 - 1, by omega⟩
 obtain ⟨b, rfl⟩ : ∃ b, s2 = b + 1 := ⟨s2 - 1, by omega⟩
 unfold Cnt at h1 h2 ⊢
 rw [show a + 1 - 1 = a by omega] at h1
 rw [show b + 1 - 1 = b by omega] at h2
 rw [show 1 + (a + 1 + (b + 1)) - 1 = a + b + 2 by omega]
 have ha := pow_le3 a
 have hb := pow_le3 b
 have p2 : 2 ^ (a + b + 2) = 4 * (2 ^ a * 2 ^ b) := by rw [Nat.pow_add, Nat.pow_add]; omega
 have p3 : 3 ^ (a + b + 2) = 9 * (3 ^ a * 3 ^ b) := by rw [Nat.pow_add, Nat.pow_add]; omega
 rw [p2, p3]
 generalize 2 ^ a = x at *
 generalize 2 ^ b = y at *
 generalize 3 ^ a = X at *
 generalize 3 ^ b = Y at *
 generalize A + 8 = A' at *
 generalize B + 8 = B' at *
 generalize T + 8 = T' at *
 obtain ⟨u, rfl⟩ : ∃ u, X = x + u := ⟨X - x, by omega⟩
 obtain ⟨v, rfl⟩ : ∃ v, Y = y + v := ⟨Y - y, by omega⟩
 have k1 : (T' + 18) * (x * y) ≤ (2 * A' + 2 * B') * (x * y) := Nat.mul_le_mul_right _ hT
 have k2 : A' * x * y ≤ 9 * (x + u) * y := Nat.mul_le_mul_right _ h1
 have k3 : B' * y * x ≤ 9 * (y + v) * x := Nat.mul_le_mul_right _ h2
 have e1 : (2 * A' + 2 * B') * (x * y) = 2 * (A' * x * y) + 2 * (B' * y * x) := by
  rw [Nat.add_mul, Nat.mul_assoc 2 A', Nat.mul_assoc 2 B', Nat.mul_assoc A' x y, Nat.mul_assoc B' y x, Nat.mul_comm y x]
 have e2 : 9 * (x + u) * y = 9 * (x * y) + 9 * (u * y) := by rw [Nat.mul_assoc, Nat.add_mul, Nat.mul_add]
 have e3 : 9 * (y + v) * x = 9 * (x * y) + 9 * (v * x) := by rw [Nat.mul_assoc, Nat.add_mul, Nat.mul_add, Nat.mul_comm y x]
 have e4 : (T' + 18) * (x * y) = T' * (x * y) + 18 * (x * y) := Nat.add_mul _ _ _
 have e5 : (x + u) * (y + v) = x * y + v * x + (u * y + u * v) := by rw [Nat.add_mul, Nat.mul_add, Nat.mul_add, Nat.mul_comm v x]
 have e6 : T' * (4 * (x * y)) = 4 * (T' * (x * y)) := Nat.mul_left_comm _ _ _
 rw [e5, e6]
 generalize T' * (x * y) = Txy at *
 generalize A' * x * y = Axy at *
 generalize B' * y * x = Byx at *
 generalize x * y = xy at *
 generalize u * y = uy at *
 generalize v * x = vx at *
 generalize u * v = uv at *
 omega
theorem two_args {l : List BX} (h : l.length = 2) : ∃ a b, l = [a, b] := len2g h
theorem one_arg {l : List BX} (h : l.length = 1) : ∃ a, l = [a] := List.length_eq_one_iff.1 h
theorem inG_two {T : BX → Nat → Nat → List Gt} {a b : BX} {f : Nat} {x y : Nat} (ha : ∀ t f, (T a t f).length ≤ x) (hb : ∀ t f, (T b t f).length ≤ y) : (inG T [a, b] f).length ≤ x + y := by
 simp only [inG]
 split
 ·split
  ·simp
  ·have := hb f (f + 1); simp; omega
 ·split
  ·have := ha f (f + 1); simp; omega
  ·have h1 := ha f (f + 1)
   have h2 := hb (f + 1) (f + 1 + 1)
   simp only [List.length_append, List.append_nil]; omega
theorem gT_not {D : Nat} {a : BX} {t f : Nat} : gT (D + 1) (notX a) t f = gT D a t f ++ [turnG t []] := rfl
theorem gBoth_len (T : BX → Nat → Nat → List Gt) (l : List BX) (t f : Nat) : (gBoth T l t f).length = 2 * (inG T l f).length + 1 := by
 simp [gBoth]; omega
theorem szB_pos' {vars : Int} {d : Nat} {e : BX} (h : fmB vars d e = 0) : 1 ≤ szB d e := by
 cases d with
 | zero => cases h
 | succ d => rw [szB]; omega
/-- A common bound on the gates of an expression, whatever the wires are. -/
theorem cnt_gT {vars : Int} : ∀ (D d : Nat) (e : BX), fmB vars d e = 0 → ∃ T, (∀ t f, (gT D e t f).length ≤ T) ∧ Cnt T (szB d e) := by
 intro D
 induction D using Nat.strongRecOn with
 | ind D ih =>
 intro d e h
 obtain ⟨d, rfl⟩ : ∃ d', d = d' + 1 := by
  cases d with
  | zero => cases h
  | succ d => exact ⟨d, rfl⟩
 have hzero : Cnt 0 (szB (d + 1) e) := by
  unfold Cnt
  have := pow_le3 (szB (d + 1) e - 1)
  omega
 cases D with
 | zero => exact ⟨0, fun t f => Nat.le_refl _, hzero⟩
 | succ D =>
 obtain ⟨kn, hk, hk1, hk7, hkl, _, _, hfa⟩ := fm_right h
 have hT : ∀ t f, gT (D + 1) e t f = gK (gT D) kn e t f := fun t f => by rw [gT, hk]; rfl
 have hcase : kn = 1 ∨ kn = 2 ∨ kn = 3 ∨ kn = 4 ∨ kn = 5 ∨ kn = 6 ∨ kn = 7 := by omega
 rcases hcase with rfl | rfl | rfl | rfl | rfl | rfl | rfl
 ·refine ⟨1, fun t f => by rw [hT]; exact Nat.le_refl _, ?_⟩
  have : e.args = [] := List.length_eq_zero_iff.1 hkl
  rw [szB, this]; show (1 + 8) * 2 ^ (1 - 1) ≤ 9 * 3 ^ (1 - 1); decide
 ·obtain ⟨a, ha⟩ := one_arg hkl
  have hfa' := hfa a (by rw [ha]; simp)
  obtain ⟨T, h1, h2⟩ := ih D (Nat.lt_succ_self _) d a hfa'
  refine ⟨T + 1, fun t f => ?_, ?_⟩
  ·rw [hT, gK, if_neg (by decide), if_neg (by decide), if_pos rfl, ha]
   have := h1 t f
   simp only [List.length_append, List.length_singleton]
   exact Nat.succ_le_succ this
  ·rw [szB, ha]; simp only [List.map_cons, List.map_nil, List.sum_cons, List.sum_nil, Nat.add_zero]
   exact cnt_not h2 (szB_pos' hfa')
 ·obtain ⟨a, b, ha⟩ := two_args hkl
  have hfa' := hfa a (by rw [ha]; simp)
  have hfb' := hfa b (by rw [ha]; simp)
  obtain ⟨A, h1, h2⟩ := ih D (Nat.lt_succ_self _) d a hfa'
  obtain ⟨B, h3, h4⟩ := ih D (Nat.lt_succ_self _) d b hfb'
  refine ⟨2 * (A + B) + 1, fun t f => ?_, ?_⟩
  ·rw [hT, gK, if_neg (by decide), if_neg (by decide), if_neg (by decide), if_neg (by decide), if_pos rfl, gBoth_len, ha]
   have := inG_two (f := f) h1 h3
   omega
  ·rw [szB, ha]; simp only [List.map_cons, List.map_nil, List.sum_cons, List.sum_nil, Nat.add_zero]
   exact cnt_two (k := 0) h2 h4 (szB_pos' hfa') (szB_pos' hfb') (by omega)
 ·obtain ⟨a, b, ha⟩ := two_args hkl
  have hfa' := hfa a (by rw [ha]; simp)
  have hfb' := hfa b (by rw [ha]; simp)
  obtain ⟨A, h1, h2⟩ := ih D (Nat.lt_succ_self _) d a hfa'
  obtain ⟨B, h3, h4⟩ := ih D (Nat.lt_succ_self _) d b hfb'
  refine ⟨A + B, fun t f => ?_, ?_⟩
  ·rw [hT, gK, if_neg (by decide), if_neg (by decide), if_neg (by decide), if_pos rfl, ha]
   have e1 := h1 t f
   have e2 := h3 t f
   rw [List.length_append]
   exact Nat.add_le_add e1 e2
  ·rw [szB, ha]; simp only [List.map_cons, List.map_nil, List.sum_cons, List.sum_nil, Nat.add_zero]
   exact cnt_two (k := 0) h2 h4 (szB_pos' hfa') (szB_pos' hfb') (by omega)
 ·obtain ⟨a, b, ha⟩ := two_args hkl
  have hfa' := hfa a (by rw [ha]; simp)
  have hfb' := hfa b (by rw [ha]; simp)
  have hnot : ∀ x, fmB vars d x = 0 → ∃ T, (∀ t f, (gT D (notX x) t f).length ≤ T + 1) ∧ Cnt T (szB d x) := fun x hx => by
   cases D with
   | zero => exact ⟨0, fun t f => by simp [gT], by
     unfold Cnt
     have := pow_le3 (szB d x - 1)
     omega⟩
   | succ D =>
    obtain ⟨T, q1, q2⟩ := ih D (by omega) d x hx
    exact ⟨T, fun t f => by rw [gT_not, List.length_append]; have := q1 t f; simp; exact this, q2⟩
  obtain ⟨A, h1, h2⟩ := hnot a hfa'
  obtain ⟨B, h3, h4⟩ := hnot b hfb'
  refine ⟨2 * (A + 1 + (B + 1)) + 2, fun t f => ?_, ?_⟩
  ·rw [hT, gK, if_neg (by decide), if_neg (by decide), if_neg (by decide), if_neg (by decide), if_neg (by decide), if_pos rfl, List.length_append, gBoth_len, ha]
   have := inG_two (f := f) h1 h3
   simp only [List.map_cons, List.map_nil, List.length_singleton]
   omega
  ·rw [szB, ha]; simp only [List.map_cons, List.map_nil, List.sum_cons, List.sum_nil, Nat.add_zero]
   exact cnt_two (k := 0) h2 h4 (szB_pos' hfa') (szB_pos' hfb') (by omega)
 ·exact ⟨0, fun t f => by rw [hT]; exact Nat.le_refl _, hzero⟩
 ·refine ⟨1, fun t f => by rw [hT]; exact Nat.le_refl _, ?_⟩
  have : e.args = [] := List.length_eq_zero_iff.1 hkl
  rw [szB, this]; show (1 + 8) * 2 ^ (1 - 1) ≤ 9 * 3 ^ (1 - 1); decide
theorem pow_table : ∀ s < 24, 9 * 3 ^ s < 200008 * 2 ^ s := by decide +kernel
theorem gT_len {vars : Int} {D d t f : Nat} {e : BX} (h : fmB vars d e = 0) (hs : szB d e ≤ 24) : (gT D e t f).length ≤ 200000 := by
 obtain ⟨T, h1, h2⟩ := cnt_gT D d e h
 have h3 := pow_table (szB d e - 1) (by have := szB_pos' h; omega)
 unfold Cnt at h2
 have h4 : T + 8 < 200008 := Nat.lt_of_mul_lt_mul_right (Nat.lt_of_le_of_lt h2 h3)
 have := h1 t f
 omega
end Go.AM

/-! R26 -/
namespace Go.AM
open Go.Proofs
section
variable {P : Program} {n : Nat} {ρ : Env} {m m' : Mem} {K : List Ent → Env → Mem → Prop} {ops : Array Oper} {l : List Oper} {log : List Ent}
  {d : Option Nat} {i : Nat} {op : Op} {ty t tz : TypeId} {pos : String} {af : Array Edge} {v : Value} {x y : Operand}
theorem readLdP {m : Mem} {bl o s : Nat} {rw_ : Bool} {c : Array Value} (ht : isAggT P t = some true) (hs : szOf P t = some s) (hx : evR ρ x = .pointer (some ⟨bl, o, none⟩)) (hb : Mem.get m bl = .cells rw_ c) (hc : o + s ≤ c.size) : aRead P m (evR ρ) (.load t x) = some (.agg (c.extract o (o + s))) := by
 simp only [aRead, aLoad, hx, hb, ht, hs]
 rw [if_pos hc]
theorem lStepLdP {bl o s : Nat} {rw_ : Bool} {c : Array Value} (ht : isAggT P t = some true) (hs : szOf P t = some s) (hx : evR ρ x = .pointer (some ⟨bl, o, none⟩)) (hb : Mem.get m bl = .cells rw_ c) (hc : o + s ≤ c.size)
  (hk : ∀ e : Ent, e.m = m → e.v = .agg (c.extract o (o + s)) → (∀ M r, Mem.get M bl = .cells r c → aRead P M (evR e.ρ) (.load t x) = some (.agg (c.extract o (o + s)))) → wpLog P ops K l (log ++ [e]) (updO ρ d (.agg (c.extract o (o + s)))) m) :
  wpLog P ops K (⟨d, .load t x, ty, pos, af, none⟩ :: l) log ρ m := by
 refine ⟨fun hw => ?_, fun hn => absurd trivial hn⟩
 refine wpOp_opF (v := .agg (c.extract o (o + s))) (m' := m) (opF_read rfl (readLdP ht hs hx hb hc)) ?_
 exact hk ⟨ρ, m, .agg (c.extract o (o + s))⟩ rfl rfl fun M r h1 => readLdP ht hs hx h1 hc
end
theorem BAt.all {P : Nat → Prop} {m : Mem} {d : Nat} {k x : Value} {q : Option Addr} {n cap : Nat} {e : BX} (h : BAt P m (d + 1) (.agg #[k, x, .slice q n cap]) e) (hne : e.args ≠ []) :
  ∃ b o r c, q = some ⟨b, o, some 3⟩ ∧ n = e.args.length ∧ P b ∧ Mem.get m b = .cells r c ∧ ∀ (i : Nat) (a : BX), e.args[i]? = some a → o + i * 3 + 3 ≤ c.size ∧ BAt P m d (.agg (c.extract (o + i * 3) (o + i * 3 + 3))) a := by
 obtain ⟨w, h1, h2⟩ := h
 rcases h2 with ⟨h2, _⟩ | ⟨b, o, cap, r, c, rfl, g2, g3, g4⟩
 ·exact absurd h2 hne
 ·simp at h1
  obtain ⟨_, _, h1, h3, h4⟩ := h1
  exact ⟨b, o, r, c, h1, h3, g2, g3, g4⟩
theorem not_at {P : Nat → Prop} {m : Mem} {d b : Nat} {a : BX} {k x w : Value} (hb : P b) (hg : Mem.get m b = .cells true #[k, x, w]) (h : BAt P m d (.agg #[k, x, w]) a) : BAt P m (d + 1) (.agg #[nv 2, nv 0, .slice (some ⟨b, 0, some 3⟩) 1 1]) (notX a) := by
 refine ⟨.slice (some ⟨b, 0, some 3⟩) 1 1, rfl, .inr ⟨b, 0, 1, true, _, rfl, hb, hg, fun i a' hi => ?_⟩⟩
 have h1 := (List.getElem?_eq_some_iff.1 hi).1
 have hi0 : i = 0 := by have : (notX a).args.length = 1 := rfl; omega
 subst hi0
 obtain rfl : a = a' := by injection hi
 exact ⟨by simp, h⟩
theorem fill66b {q q' : Option Addr} {n c n' c' : Nat} : Instr.fill (fun i => some (i * 3, 3)) (if 2 * 3 = 0 then #[] else (Array.range (2 * 3)).map ((Value.agg #[nv 0, nv 0, .slice none 0 0]).cells[· % (Value.agg #[nv 0, nv 0, .slice none 0 0]).cells.size]!)) [(0, .agg #[nv 2, nv 0, .slice q n c]), (1, .agg #[nv 2, nv 0, .slice q' n' c'])] = some #[nv 2, nv 0, .slice q n c, nv 2, nv 0, .slice q' n' c'] := by kernel_rfl
def H113r : Nat → List (Nat × Nat) := fun id => if id = 15 then [(7, 0), (9, 0)] else []
theorem okf113 : okF Tryd.prog H113r 113 90 = true := by kernel_rfl
theorem spec_to (vars : Int) (D : Nat) : ToSpec vars D := by
 induction D
 ·intro P m d N bb W t f Gs bv v e hB hN h hf hn
  exfalso
  cases d with
  | zero => exact h.elim
  | succ d => have := nf_pos (vars := vars) (e := e) (show 0 < d + 1 by omega); omega
 rename_i D ih
 intro P m d N bb W t f Gs bv v e hB hN h hf hn hfr hlen
 obtain ⟨d, q, cap, rfl, rfl⟩ := h.agg
 obtain ⟨kn, hk, hk1, hk7, hkl, hv0, hv1, hfa⟩ := fm_right hf
 have hgT : gT (D + 1) e t f = gK (gT D) kn e t f := by rw [gT, hk]; rfl
 have huT : uT (D + 1) e f = uK (uT D) kn e f := by rw [uT, hk]; rfl
 rw [hgT] at hlen
 rw [hgT, huT]
 rw [hk] at h ⊢
 have hPm : ∀ b, P b → b < m.size := fun b hb => hB.lt hb
 have hbbm := live hB.1
 have hbbN := hB.2.1
 refine wpF (args := [_, _, _, _]) mixed okf113 (fn := Tryd.f113) rfl rfl rfl (by simp) ?_
 refine cSR ?_
 refine sBox (v := .agg _) rfl ?_
 change wpOps _ _ _ _ _ (m.push (.cells true #[nv kn, .int .i64 e.var, .slice q e.args.length cap]))
 have e1 : Ext m (m.push (.cells true #[nv kn, .int .i64 e.var, .slice q e.args.length cap])) := .push _ _
 have g1 : Mem.get (m.push (.cells true #[nv kn, .int .i64 e.var, .slice q e.args.length cap])) m.size = .cells true #[nv kn, .int .i64 e.var, .slice q e.args.length cap] := gP rfl
 have z1 : (m.push (.cells true #[nv kn, .int .i64 e.var, .slice q e.args.length cap])).size = m.size + 1 := by simp
 have hB1 : BldP (fun b => P b ∨ b = m.size) N bb (m.push (.cells true #[nv kn, .int .i64 e.var, .slice q e.args.length cap])) W Gs bv := hB.move e1.1 (fun b hb _ => e1.2 b hb) fun b hb => by
  rcases hb with hb | hb
  ·exact ⟨by have := hPm b hb; omega, .inl hb⟩
  ·exact ⟨by omega, .inr (by omega)⟩
 generalize m.push (.cells true #[nv kn, .int .i64 e.var, .slice q e.args.length cap]) = m1 at *
 have hat1 : BAt (fun b => P b ∨ b = m.size) m1 (d + 1) (.agg #[nv kn, .int .i64 e.var, .slice q e.args.length cap]) e := h.frame fun b hb hl => ⟨.inl hb, e1.2 b hl⟩
 have hfin : ∀ {m' : Mem} {W' : Nat} {Gs' : List Gt} {bv' : Value}, m1.size ≤ m'.size → (∀ b, P b ∨ b = m.size → Mem.get m' b = Mem.get m1 b) → BldP (fun b => P b ∨ b = m.size) N bb m' W' Gs' bv' → m.size ≤ m'.size ∧ (∀ b, P b → Mem.get m' b = Mem.get m b) ∧ BldP P N bb m' W' Gs' bv' := fun h1 h2 h3 =>
  ⟨by omega, fun b hb => (h2 b (.inl hb)).trans (e1.2 b (hPm b hb)), h3.move (Nat.le_refl _) (fun _ _ _ => rfl) fun b hb => ⟨by have := hPm b hb; omega, .inl (.inl hb)⟩⟩
 have hone : ∀ {m2 m3 : Mem} {W' gk : Nat} {Gs' : List Gt} {bv2 ws : Value} {w : List Nat}, BldP (fun b => P b ∨ b = m.size) N bb m2 W' Gs' bv2 → m1.size ≤ m2.size → Ext m2 m3 → OwnF (m2.size + 1) m3 ws (ofs w) → Gs'.length ≤ 200000 → ∃ r m4, ACalls Tryd.prog 75 #[.pointer (some ⟨bb, 0, none⟩), .slice (some ⟨m3.size, 0, some 4⟩) 1 1] (m3.push (.cells true #[nv gk, ws, nv 0, nv 0])) r m4 ∧ ∃ bv', BldP (fun b => P b ∨ b = m.size) N bb m4 W' (Gs' ++ [(gk, w)]) bv' ∧ m2.size ≤ m4.size ∧ (∀ b, P b ∨ b = m.size → Mem.get m4 b = Mem.get m2 b) := fun h1 h2 h3 h4 h5 => by
  obtain ⟨r, m4, k1, bv', k2, k3, k4⟩ := add_one h1 h3 (by omega) (h4.mono (Nat.le_succ _)) h5
  have hb1 := live h1.1
  exact ⟨r, m4, k1, bv', k2, by have := h3.1; omega, fun b hb => k4 b (h1.lt hb) (h1.2.2.1 b hb).2.1 (h1.2.2.1 b hb).2.2⟩
 refine sN ?_
 refine cSR ?_
 refine sFA F66_0 rfl ?_
 refine sLd (v := nv kn) A3 rfl g1 rfl ?_
 refine sN ?_
 refine cBlock (cSR ?_)
 refine sBin (a := kn) (b := 7) rfl rfl aInt_eql ?_
 refine sAs (v := .bool _) rfl ?_
 refine sN ?_
 refine cCond (p := kn = 7) rfl (fun c0 => ?_) (fun c0 => ?_)
 ·
  have hg : gK (gT D) kn e t f = [turnG t []] := by rw [gK, if_pos c0]
  have hu : uK (uT D) kn e f = 0 := by rw [uK, if_pos c0]
  rw [hg] at hlen
  rw [hg, hu, Nat.max_zero]
  simp only [List.length_singleton] at hlen
  refine cRegion ?_
  refine sMv (v := .pointer _) rfl ?_
  refine sMv (v := nv _) rfl ?_
  obtain ⟨v14, m14, h14, w14, rfl, o14, e14⟩ := spec_turn (m := m1) (k := t) (a := .slice none 0 0) (l := []) (.inl ⟨rfl, .inl rfl⟩) (by simp)
  obtain ⟨q14, c14, rfl⟩ := o14.ints.lenN
  refine sCall2 rfl call78 rfl rfl h14 ?_
  refine sBuildS T28 S49 Z49 (by decide) (by decide) (by decide) (by kernel_rfl) fillA4 rfl ?_
  obtain ⟨r16, m16, h16, bv16, hB16, z16, k16⟩ := hone (gk := kindM [].length) hB1 (Nat.le_refl _) e14 o14 (by omega)
  refine sCall2 rfl call75 rfl rfl h16 ?_
  refine sNil (kBlkN ?_)
  obtain ⟨q1, q2, q3⟩ := hfin z16 k16 hB16
  exact ⟨.inl rfl, _, rfl, q1, q2, bv16, q3⟩
 ·
  refine cSR ?_
  refine sBin (a := kn) (b := 1) rfl rfl aInt_eql ?_
  refine sAs (v := .bool _) rfl ?_
  refine sN ?_
  refine cCond (p := kn = 1) rfl (fun c1 => ?_) (fun c1 => ?_)
  ·
   have hg : gK (gT D) kn e t f = [turnG t [e.var.toNat]] := by rw [gK, if_neg c0, if_pos c1]
   have hu : uK (uT D) kn e f = 0 := by rw [uK, if_neg c0, if_pos c1]
   rw [hg] at hlen
   rw [hg, hu, Nat.max_zero]
   simp only [List.length_singleton] at hlen
   obtain ⟨w1, w2⟩ := hv1 c1
   obtain ⟨vn, hvn⟩ : ∃ vn : Nat, e.var = Int.ofNat vn := ⟨e.var.toNat, by simp; omega⟩
   rw [hvn] at g1
   rw [show e.var.toNat = vn by rw [hvn]; rfl]
   refine cRegion ?_
   refine sMv (v := .pointer _) rfl ?_
   refine sMv (v := nv _) rfl ?_
   refine sFA F66_1 rfl ?_
   refine sLd (v := nv vn) A3 rfl g1 rfl ?_
   refine sBuildS T22 S3 Z3 (by decide) (by decide) (by decide) (by kernel_rfl) fill1 rfl ?_
   obtain ⟨v14, m14, h14, w14, rfl, o14, e14⟩ := spec_turn (m := m1.push (.cells true #[nv vn])) (k := t) (l := [vn]) (show IntsAt (m1.push (.cells true #[nv vn])) (.slice (some ⟨m1.size, 0, some 1⟩) 1 1) (ofs [vn]) from one_ints) (by simp)
   obtain ⟨q14, c14, rfl⟩ := o14.ints.lenN
   refine sCall2 rfl call78 rfl rfl h14 ?_
   refine sBuildS T28 S49 Z49 (by decide) (by decide) (by decide) (by kernel_rfl) fillA4 rfl ?_
   obtain ⟨r16, m16, h16, bv16, hB16, z16, k16⟩ := hone (gk := kindM [vn].length) (hB1.ext (.push _ (.cells true #[nv vn]))) (by simp) e14 o14 (by omega)
   simp only [Array.size_push] at z16
   refine sCall2 rfl call75 rfl rfl h16 ?_
   refine sNil (kBlkN ?_)
   obtain ⟨q1, q2, q3⟩ := hfin (by omega) (fun b hb => (k16 b hb).trans (gPn (by have := hB1.lt hb; omega))) hB16
   exact ⟨.inl rfl, _, rfl, q1, q2, bv16, q3⟩
  ·
   refine cSR ?_
   refine sBin (a := kn) (b := 2) rfl rfl aInt_eql ?_
   refine sAs (v := .bool _) rfl ?_
   refine sN ?_
   refine cCond (p := kn = 2) rfl (fun c2 => ?_) (fun c2 => ?_)
   ·
    obtain ⟨a0, ha⟩ := one_arg (show e.args.length = 1 by rw [hkl, c2]; rfl)
    have hg : gK (gT D) kn e t f = gT D a0 t f ++ [turnG t []] := by rw [gK, if_neg c0, if_neg c1, if_pos c2, ha]; rfl
    have hu : uK (uT D) kn e f = uT D a0 f := by rw [uK, if_neg c0, if_neg c1, if_pos c2, ha]; rfl
    rw [hg] at hlen
    rw [hg, hu]
    simp only [List.length_append, List.length_singleton] at hlen
    have hm0 : a0 ∈ e.args := by rw [ha]; simp
    have hi0 : e.args[0]? = some a0 := by rw [ha]; rfl
    have hnf := nf_arg (d := d) hm0
    obtain ⟨b, o, r, c, rfl, _, hPb, hgb, hsz, hata⟩ := hat1.arg hi0
    refine cSR ?_
    refine sMv (v := .pointer _) rfl ?_
    refine sFA F66_2 rfl ?_
    refine sLd (v := .slice (some ⟨b, o, some 3⟩) e.args.length cap) A64 rfl g1 rfl ?_
    refine sIx T64 S66 rfl rfl (show 0 < e.args.length by rw [ha]; simp) ?_
    refine sLdA A66 S66 rfl hgb hsz ?_
    refine sMv (v := nv _) rfl ?_
    refine sMv (v := nv _) rfl ?_
    obtain ⟨r36, m36, h36, z36, k36, bv36, hB36⟩ := ih (t := t) (f := f) hB1 (by omega) hata (hfa a0 hm0) (by omega) (by omega) (by omega)
    refine sCall4 rfl call113 rfl rfl rfl rfl h36 ?_
    refine sN ?_
    refine cRegion ?_
    refine sMv (v := .pointer _) rfl ?_
    refine sMv (v := nv _) rfl ?_
    obtain ⟨v14, m14, h14, w14, rfl, o14, e14⟩ := spec_turn (m := m36) (k := t) (a := .slice none 0 0) (l := []) (.inl ⟨rfl, .inl rfl⟩) (by simp)
    obtain ⟨q14, c14, rfl⟩ := o14.ints.lenN
    refine sCall2 rfl call78 rfl rfl h14 ?_
    refine sBuildS T28 S49 Z49 (by decide) (by decide) (by decide) (by kernel_rfl) fillA4 rfl ?_
    obtain ⟨r16, m16, h16, bv16, hB16, z16, k16⟩ := hone (gk := kindM [].length) hB36 z36 e14 o14 (by simp only [List.length_append]; omega)
    refine sCall2 rfl call75 rfl rfl h16 ?_
    refine sNil (kBlkN ?_)
    obtain ⟨q1, q2, q3⟩ := hfin (by omega) (fun b hb => (k16 b hb).trans (k36 b hb)) hB16
    exact ⟨.inl rfl, _, rfl, q1, q2, bv16, by rw [← List.append_assoc]; exact q3⟩
   ·
    refine cSR ?_
    refine sBin (a := kn) (b := 4) rfl rfl aInt_eql ?_
    refine sAs (v := .bool _) rfl ?_
    refine sN ?_
    refine cCond (p := kn = 4) rfl (fun c3 => ?_) (fun c3 => ?_)
    ·
     obtain ⟨a0, a1, ha⟩ := two_args (show e.args.length = 2 by rw [hkl, c3]; rfl)
     have hg : gK (gT D) kn e t f = gT D a0 t f ++ gT D a1 t f := by rw [gK, if_neg c0, if_neg c1, if_neg c2, if_pos c3, ha]; rfl
     have hu : uK (uT D) kn e f = max (uT D a0 f) (uT D a1 f) := by rw [uK, if_neg c0, if_neg c1, if_neg c2, if_pos c3, ha]; rfl
     rw [hg] at hlen
     rw [hg, hu]
     simp only [List.length_append] at hlen
     have hm0 : a0 ∈ e.args := by rw [ha]; simp
     have hm1 : a1 ∈ e.args := by rw [ha]; simp
     have hi0 : e.args[0]? = some a0 := by rw [ha]; rfl
     have hi1 : e.args[1]? = some a1 := by rw [ha]; rfl
     have hnf := nf_arg (d := d) hm0
     have hnf1 := nf_arg (d := d) hm1
     obtain ⟨b, o, r, c, rfl, _, hPb, hgb, hall⟩ := hat1.all (by rw [ha]; simp)
     obtain ⟨hsz, hata⟩ := hall 0 a0 hi0
     obtain ⟨hsz1, hata1⟩ := hall 1 a1 hi1
     refine cSR ?_
     refine sMv (v := .pointer _) rfl ?_
     refine sFA F66_2 rfl ?_
     refine sLd (v := .slice (some ⟨b, o, some 3⟩) e.args.length cap) A64 rfl g1 rfl ?_
     refine sIx T64 S66 rfl rfl (show 0 < e.args.length by rw [ha]; simp) ?_
     refine sLdA A66 S66 rfl hgb hsz ?_
     refine sMv (v := nv _) rfl ?_
     refine sMv (v := nv _) rfl ?_
     obtain ⟨r36, m36, h36, z36, k36, bv36, hB36⟩ := ih (t := t) (f := f) hB1 (by omega) hata (hfa a0 hm0) (by omega) (by omega) (by omega)
     refine sCall4 rfl call113 rfl rfl rfl rfl h36 ?_
     refine sN ?_
     refine cRegion ?_
     refine sMv (v := .pointer _) rfl ?_
     refine sFA F66_2 rfl ?_
     refine sLd (v := .slice (some ⟨b, o, some 3⟩) e.args.length cap) A64 rfl ((k36 _ (.inr rfl)).trans g1) rfl ?_
     refine sIx T64 S66 rfl rfl (show 1 < e.args.length by rw [ha]; simp) ?_
     refine sLdA A66 S66 rfl ((k36 _ hPb).trans hgb) hsz1 ?_
     refine sMv (v := nv _) rfl ?_
     refine sMv (v := nv _) rfl ?_
     obtain ⟨r37, m37, h37, z37, k37, bv37, hB37⟩ := ih (t := t) (f := f) hB36 (by omega) (hata1.frame fun b hb _ => ⟨hb, k36 b hb⟩) (hfa a1 hm1) (by omega) (by omega) (by simp only [List.length_append]; omega)
     refine sCall4 rfl call113 rfl rfl rfl rfl h37 ?_
     refine sNil (kBlkN ?_)
     obtain ⟨q1, q2, q3⟩ := hfin (by omega) (fun b hb => (k37 b hb).trans (k36 b hb)) hB37
     exact ⟨.inl rfl, _, rfl, q1, q2, bv37, by rw [← List.append_assoc, ← Nat.max_assoc]; exact q3⟩
    ·
     refine cSR ?_
     refine sBin (a := kn) (b := 3) rfl rfl aInt_eql ?_
     refine sAs (v := .bool _) rfl ?_
     refine sN ?_
     refine cCond (p := kn = 3) rfl (fun c4 => ?_) (fun c4 => ?_)
     ·
      have hal : e.args.length = 2 := by rw [hkl, c4]; rfl
      have hg : gK (gT D) kn e t f = gBoth (gT D) e.args t f := by rw [gK, if_neg c0, if_neg c1, if_neg c2, if_neg c3, if_pos c4]
      have hu : uK (uT D) kn e f = inU (uT D) e.args f := by rw [uK, if_neg c0, if_neg c1, if_neg c2, if_neg c3, if_pos c4]
      rw [hg] at hlen
      rw [hg, hu]
      have hnf : ∀ a ∈ e.args, nfB d a ≤ D := fun a ha => by have := nf_arg (d := d) ha; omega
      obtain ⟨b, o, r, c, rfl, _, hPb, hgb, hall⟩ := hat1.all (by intro h; rw [h] at hal; cases hal)
      refine cRegion ?_
      refine sMv (v := .pointer _) rfl ?_
      refine sFA F66_2 rfl ?_
      refine sLd (v := .slice (some ⟨b, o, some 3⟩) e.args.length cap) A64 rfl g1 rfl ?_
      rw [hal]
      refine sMv (v := nv _) rfl ?_
      refine sMv (v := nv _) rfl ?_
      obtain ⟨r67, m67, h67, z67, k67, bv67, hB67⟩ := spec_both (cp0 := cap) ih (t := t) (f := f) hB1 (by omega) hPb hgb hall hal (fun a ha => hfa a ha) hnf (by omega) hlen
      refine sCall4 rfl call139 rfl rfl rfl rfl h67 ?_
      refine sNil (kBlkN ?_)
      obtain ⟨q1, q2, q3⟩ := hfin z67 k67 hB67
      exact ⟨.inl rfl, _, rfl, q1, q2, bv67, q3⟩
     ·
      refine cSR ?_
      refine sBin (a := kn) (b := 5) rfl rfl aInt_eql ?_
      refine sAs (v := .bool _) rfl ?_
      refine sN ?_
      refine cCond (p := kn = 5) rfl (fun c5 => ?_) (fun c5 => ?_)
      ·
       obtain ⟨a0, a1, ha⟩ := two_args (show e.args.length = 2 by rw [hkl, c5]; rfl)
       have hk5 : e.kind = 5 := by rw [hk, c5]; rfl
       have hg : gK (gT D) kn e t f = gBoth (gT D) [notX a0, notX a1] t f ++ [turnG t []] := by rw [gK, if_neg c0, if_neg c1, if_neg c2, if_neg c3, if_neg c4, if_pos c5, ha]; rfl
       have hu : uK (uT D) kn e f = inU (uT D) [notX a0, notX a1] f := by rw [uK, if_neg c0, if_neg c1, if_neg c2, if_neg c3, if_neg c4, if_pos c5, ha]; rfl
       rw [hg] at hlen
       rw [hg, hu]
       simp only [List.length_append, List.length_singleton] at hlen
       have hma0 : a0 ∈ e.args := by rw [ha]; simp
       have hma1 : a1 ∈ e.args := by rw [ha]; simp
       have hi0 : e.args[0]? = some a0 := by rw [ha]; rfl
       have hi1 : e.args[1]? = some a1 := by rw [ha]; rfl
       have hnf := nf_arg5 (d := d) hma0 hk5
       have hnf1 := nf_arg5 (d := d) hma1 hk5
       obtain ⟨b, o, r, c, rfl, _, hPb, hgb, hall⟩ := hat1.all (by rw [ha]; simp)
       obtain ⟨hsz, hata⟩ := hall 0 a0 hi0
       obtain ⟨hsz1, hata1⟩ := hall 1 a1 hi1
       obtain ⟨_, qa0, ca0, _, hca0⟩ := hata.agg
       obtain ⟨_, qa1, ca1, _, hca1⟩ := hata1.agg
       refine cSeq ?_
       refine cDrawH (hs := [(7, 0), (9, 0)]) rfl (by decide) ?_
       refine lStepO (sMv (v := .pointer _) rfl (sNil fun e0 hm0 => ?_))
       refine lStepO (sFA F66_2 rfl (sNil fun e1 hm1 => ?_))
       refine lStepLd (v := .slice (some ⟨b, o, some 3⟩) e.args.length cap) A64 rfl g1 rfl fun e2 hm2 hv2 hr2 => ?_
       refine lStepO (sIx T64 S66 rfl rfl (show 0 < e.args.length by rw [ha]; simp) (sNil fun e3 hm3 => ?_))
       refine lStepLdP A66 S66 rfl hgb hsz fun e4 hm4 hv4 hr4 => ?_
       obtain ⟨v75, m75, h75, rfl, g75, e75, z75⟩ := spec_not (m := m1) (k := a0.kind) (x := a0.var) (q := qa0) (n := a0.args.length) (cap := ca0)
       refine lStepO (sCall1 rfl call140 hca0 h75 (sNil fun e5 hm5 => ?_))
       refine lStepO (sFA F66_2 rfl (sNil fun e6 hm6 => ?_))
       refine lStepLd (v := .slice (some ⟨b, o, some 3⟩) e.args.length cap) A64 rfl (e75.cells g1) rfl fun e7 hm7 hv7 hr7 => ?_
       refine lStepO (sIx T64 S66 rfl rfl (show 1 < e.args.length by rw [ha]; simp) (sNil fun e8 hm8 => ?_))
       refine lStepLdP A66 S66 rfl (e75.cells hgb) hsz1 fun e9 hm9 hv9 hr9 => ?_
       obtain ⟨v80, m80, h80, rfl, g80, e80, z80⟩ := spec_not (m := m75) (k := a1.kind) (x := a1.var) (q := qa1) (n := a1.args.length) (cap := ca1)
       refine lStepO (sCall1 rfl call140 hca1 h80 (sNil fun e10 hm10 => ?_))
       refine lStepO (sBuildS T64 S66 Z66 (by decide) (by decide) (by decide) (by kernel_rfl) fill66b rfl (sNil fun e11 hm11 => ?_))
       refine lStepO (sMv (v := nv _) rfl (sNil fun e12 hm12 => ?_))
       refine lStepO (sMv (v := nv _) rfl (sNil fun e13 hm13 => ?_))
       have hX : Ext m1 (m80.push (.cells true #[nv 2, nv 0, .slice (some ⟨m1.size + 2, 0, some 3⟩) 1 1, nv 2, nv 0, .slice (some ⟨m75.size + 2, 0, some 3⟩) 1 1])) := (e75.trans e80).trans (.push _ _)
       have z80' := e80.1
       have hgA : Mem.get (m80.push (.cells true #[nv 2, nv 0, .slice (some ⟨m1.size + 2, 0, some 3⟩) 1 1, nv 2, nv 0, .slice (some ⟨m75.size + 2, 0, some 3⟩) 1 1])) (m1.size + 2) = .cells true #[.int .i64 a0.kind, .int .i64 a0.var, .slice qa0 a0.args.length ca0] := (gPn (by omega)).trans (e80.cells g75)
       have hgB : Mem.get (m80.push (.cells true #[nv 2, nv 0, .slice (some ⟨m1.size + 2, 0, some 3⟩) 1 1, nv 2, nv 0, .slice (some ⟨m75.size + 2, 0, some 3⟩) 1 1])) (m75.size + 2) = .cells true #[.int .i64 a1.kind, .int .i64 a1.var, .slice qa1 a1.args.length ca1] := (gPn (by omega)).trans g80
       have hgC : Mem.get (m80.push (.cells true #[nv 2, nv 0, .slice (some ⟨m1.size + 2, 0, some 3⟩) 1 1, nv 2, nv 0, .slice (some ⟨m75.size + 2, 0, some 3⟩) 1 1])) m80.size = .cells true #[nv 2, nv 0, .slice (some ⟨m1.size + 2, 0, some 3⟩) 1 1, nv 2, nv 0, .slice (some ⟨m75.size + 2, 0, some 3⟩) 1 1] := gP rfl
       have z81 : (m80.push (.cells true #[nv 2, nv 0, .slice (some ⟨m1.size + 2, 0, some 3⟩) 1 1, nv 2, nv 0, .slice (some ⟨m75.size + 2, 0, some 3⟩) 1 1])).size = m80.size + 1 := by simp
       generalize m80.push (.cells true #[nv 2, nv 0, .slice (some ⟨m1.size + 2, 0, some 3⟩) 1 1, nv 2, nv 0, .slice (some ⟨m75.size + 2, 0, some 3⟩) 1 1]) = m81 at *
       have hB81 : BldP (fun b => (P b ∨ b = m.size) ∨ (m1.size ≤ b ∧ b < m81.size)) N bb m81 W Gs bv := hB1.move hX.1 (fun b hb _ => hX.2 b hb) fun b hb => by
        rcases hb with hb | hb
        ·exact ⟨by have := hB1.lt hb; have := hX.1; omega, .inl hb⟩
        ·exact ⟨hb.2, .inr hb.1⟩
       have hat0 : BAt (fun b => (P b ∨ b = m.size) ∨ (m1.size ≤ b ∧ b < m81.size)) m81 (d + 1) (.agg #[nv 2, nv 0, .slice (some ⟨m1.size + 2, 0, some 3⟩) 1 1]) (notX a0) := not_at (.inr ⟨by omega, by omega⟩) hgA (by rw [← hca0]; exact hata.frame fun b hb hl => ⟨.inl hb, hX.2 b hl⟩)
       have hat1' : BAt (fun b => (P b ∨ b = m.size) ∨ (m1.size ≤ b ∧ b < m81.size)) m81 (d + 1) (.agg #[nv 2, nv 0, .slice (some ⟨m75.size + 2, 0, some 3⟩) 1 1]) (notX a1) := not_at (.inr ⟨by omega, by omega⟩) hgB (by rw [← hca1]; exact hata1.frame fun b hb hl => ⟨.inl hb, hX.2 b hl⟩)
       obtain ⟨r67, m67, h67, z67, k67, bv67, hB67⟩ := spec_both (cp0 := 2) (o0 := 0) ih (l := [notX a0, notX a1]) (d := d + 1) (t := t) (f := f) hB81 (by have := hX.1; omega) (.inr ⟨by omega, by omega⟩) hgC (fun i a hi => by
        have h1 := (List.getElem?_eq_some_iff.1 hi).1
        have hi' : i = 0 ∨ i = 1 := by simp at h1; omega
        rcases hi' with rfl | rfl
        ·obtain rfl : notX a0 = a := by injection hi
         exact ⟨by simp, hat0⟩
        ·obtain rfl : notX a1 = a := by injection hi
         exact ⟨by simp, hat1'⟩) rfl (fun a ha' => by
        rcases List.mem_cons.1 ha' with rfl | ha'
        ·exact fm_not (hfa a0 hma0)
        ·rcases List.mem_cons.1 ha' with rfl | ha'
         ·exact fm_not (hfa a1 hma1)
         ·cases ha') (fun a ha' => by
        rcases List.mem_cons.1 ha' with rfl | ha'
        ·rw [nf_not]; omega
        ·rcases List.mem_cons.1 ha' with rfl | ha'
         ·rw [nf_not]; omega
         ·cases ha') (by omega) (by omega)
       refine lStepO (sCall4 rfl call139 rfl rfl rfl rfl h67 (sNil fun e14 hm14 => ?_))
       refine ⟨?_, (kSeqN ?_)⟩
       ·
        refine obl_atE (e := e7) (e' := e0) (by simp) (by rfl) (by simp) ((hr7 e0.m _ _ (by rw [hm0]; exact g1) (by rfl)).trans (congrArg some hv7.symm)) ?_
        refine obl_atE (e := e9) (e' := e0) (by simp) (by rfl) (by simp) ((hr9 e0.m _ (by rw [hm0]; exact hgb)).trans (congrArg some hv9.symm)) ?_
        trivial
       refine cRegion ?_
       refine sMv (v := .pointer _) rfl ?_
       refine sMv (v := nv _) rfl ?_
       have hB67' : BldP (fun b => P b ∨ b = m.size) N bb m67 (max W (inU (uT D) [notX a0, notX a1] f)) (Gs ++ gBoth (gT D) [notX a0, notX a1] t f) bv67 := hB67.move (Nat.le_refl _) (fun _ _ _ => rfl) fun b hb => ⟨by have := hB67.lt (.inl hb); omega, .inl (.inl hb)⟩
       obtain ⟨v14, m14, h14, w14, rfl, o14, e14⟩ := spec_turn (m := m67) (k := t) (a := .slice none 0 0) (l := []) (.inl ⟨rfl, .inl rfl⟩) (by simp)
       obtain ⟨q14, c14, rfl⟩ := o14.ints.lenN
       refine sCall2 rfl call78 rfl rfl h14 ?_
       refine sBuildS T28 S49 Z49 (by decide) (by decide) (by decide) (by kernel_rfl) fillA4 rfl ?_
       obtain ⟨r16, m16, h16, bv16, hB16, z16, k16⟩ := hone (gk := kindM [].length) hB67' (by have := hX.1; omega) e14 o14 (by simp only [List.length_append]; omega)
       refine sCall2 rfl call75 rfl rfl h16 ?_
       refine sNil (kBlkN ?_)
       obtain ⟨q1, q2, q3⟩ := hfin (by have := hX.1; omega) (fun b hb => (k16 b hb).trans ((k67 b (.inl hb)).trans (hX.2 b (hB1.lt hb)))) hB16
       exact ⟨.inl rfl, _, rfl, q1, q2, bv16, by rw [← List.append_assoc]; exact q3⟩
      ·
       have hg : gK (gT D) kn e t f = [] := by rw [gK, if_neg c0, if_neg c1, if_neg c2, if_neg c3, if_neg c4, if_neg c5]
       have hu : uK (uT D) kn e f = 0 := by rw [uK, if_neg c0, if_neg c1, if_neg c2, if_neg c3, if_neg c4, if_neg c5]
       rw [hg, hu, Nat.max_zero, List.append_nil]
       refine cSkip (kBlkN ?_)
       obtain ⟨q1, q2, q3⟩ := hfin (Nat.le_refl _) (fun b _ => rfl) hB1
       exact ⟨.inl rfl, _, rfl, q1, q2, bv, q3⟩
end Go.AM

/-! R27 -/
namespace Go.AM
open Go.Proofs
def cpG0 (n d : Nat) (e : BX) : List Gt := gT (nfB d e) e n (n + 1)
def cpW0 (n d : Nat) (e : BX) : Nat := max (n + 1) (uT (nfB d e) e (n + 1))
def cpE (vars : Int) (d : Nat) (e : BX) : Nat := if goodB vars d e ≠ 0 then goodB vars d e else if 12 < cpW0 vars.toNat d e then 12 else if 120 < (cpG0 vars.toNat d e).length then 2 else 0
def cpN (vars : Int) (d : Nat) (e : BX) : Nat := if cpE vars d e = 0 then cpW0 vars.toNat d e else 0
def cpG (vars : Int) (d : Nat) (e : BX) : List Gt := if cpE vars d e = 0 then cpG0 vars.toNat d e else []
theorem sCallB3 {ρ : Env} {m m' : Mem} {K : Env → Mem → Prop} {ops : Array Oper} {l : List Oper} {d : Option Nat} {ty : TypeId} {pos : String} {af : Array Edge} {v : Value} {f x y z : Operand} {tys : Array TypeId} {g : FuncId} {a b c e : Value}
  (hv : evR ρ f = .func (.func g) #[a] #[]) (hk : callable Tryd.prog g = true) (h1 : evR ρ x = b) (h2 : evR ρ y = c) (h3 : evR ρ z = e) (h : ACalls Tryd.prog g #[a, b, c, e] m v m') (hK : wpOps Tryd.prog ops K l (updO ρ d v) m') :
  wpOps Tryd.prog ops K (⟨d, .call ⟨.value f, ⟨[x, y, z]⟩, tys⟩, ty, pos, af, none⟩ :: l) ρ m := sCall hv hk (by simpa [h1, h2, h3] using h) hK
theorem okf55 : okF Tryd.prog H0 55 42 = true := by kernel_rfl
theorem spec_Compile (vars : Int) (d : Nat) {m : Mem} {v : Value} {e : BX} (hG : GlobW m) (h : BAt (fun b => b < m.size) m d v e) (hs : szB d e ≤ 1000000) : ∃ v' m', ACalls Tryd.prog 55 #[v, .int .i64 vars] m v' m' ∧ (∃ s cs, v' = .tuple #[.agg #[nv (cpN vars d e), nv 0, s], nv (cpE vars d e)] ∧ OwnG m.size m' s cs (cpG vars d e) ∧ Ext m m') := by
 obtain ⟨d', q, cap, hd, rfl⟩ := h.agg
 refine wpF (args := [_, _]) mixed okf55 (fn := Tryd.f55) rfl rfl rfl (by simp) ?_
 refine cSR ?_
 refine sBox (v := .agg _) rfl ?_
 change wpOps _ _ _ _ _ (m.push (.cells true #[.int .i64 e.kind, .int .i64 e.var, .slice q e.args.length cap]))
 refine sAllocB (bl := m.size + 1) (by simp) Z30 (by kernel_rfl) ?_
 change wpOps _ _ _ _ _ ((m.push (.cells true #[.int .i64 e.kind, .int .i64 e.var, .slice q e.args.length cap])).push (.cells true #[nv 0, nv 0, .slice none 0 0]))
 have e1 : Ext m ((m.push (.cells true #[.int .i64 e.kind, .int .i64 e.var, .slice q e.args.length cap])).push (.cells true #[nv 0, nv 0, .slice none 0 0])) := (Ext.push _ _).trans (.push _ _)
 have g1 : Mem.get ((m.push (.cells true #[.int .i64 e.kind, .int .i64 e.var, .slice q e.args.length cap])).push (.cells true #[nv 0, nv 0, .slice none 0 0])) m.size = .cells true #[.int .i64 e.kind, .int .i64 e.var, .slice q e.args.length cap] := (gPn (by simp)).trans (gP rfl)
 have g2 : Mem.get ((m.push (.cells true #[.int .i64 e.kind, .int .i64 e.var, .slice q e.args.length cap])).push (.cells true #[nv 0, nv 0, .slice none 0 0])) (m.size + 1) = .cells true #[nv 0, nv 0, .slice none 0 0] := gP (by simp)
 have z1 : ((m.push (.cells true #[.int .i64 e.kind, .int .i64 e.var, .slice q e.args.length cap])).push (.cells true #[nv 0, nv 0, .slice none 0 0])).size = m.size + 2 := by simp
 generalize (m.push (.cells true #[.int .i64 e.kind, .int .i64 e.var, .slice q e.args.length cap])).push (.cells true #[nv 0, nv 0, .slice none 0 0]) = m1 at *
 refine sAs (v := nv 0) rfl ?_
 refine sN ?_
 refine cSeq (cSR ?_)
 refine sLdAll A66 S66 rfl g1 rfl ?_
 refine sMv (v := .int .i64 vars) rfl ?_
 obtain ⟨v11, m11, h11, rfl, e11⟩ := spec_Good vars d (hG.ext e1) (h.ext e1) hs
 refine sCall2 rfl call57 rfl rfl h11 ?_
 have g211 := e11.cells g2
 have z11 := e11.1
 have hfail : ∀ (er : Nat) (M : Mem), cpE vars d e = er → er ≠ 0 → Ext m M → m.size + 1 < M.size → ∃ s cs, (Value.tuple #[.agg #[nv 0, nv 0, .slice none 0 0], nv er] : Value) = .tuple #[.agg #[nv (cpN vars d e), nv 0, s], nv (cpE vars d e)] ∧ OwnG m.size (M.setIfInBounds (m.size + 1) (.cells true #[nv 0, nv 0, .slice none 0 0])) s cs (cpG vars d e) ∧ Ext m (M.setIfInBounds (m.size + 1) (.cells true #[nv 0, nv 0, .slice none 0 0])) := by
  intro er M h1 h2 h3 h4
  refine ⟨.slice none 0 0, #[], ?_, ?_, h3.set (by omega) _⟩
  ·rw [h1, cpN, h1, if_neg h2]
  ·rw [cpG, h1, if_neg h2]; exact .nil _ _
 refine sAs (v := nv _) rfl ?_
 refine sN ?_
 refine cSR ?_
 refine sMv (v := nv _) rfl ?_
 refine sBin (a := goodB vars d e) (b := 0) rfl rfl aInt_neq ?_
 refine sN ?_
 refine cCond (p := goodB vars d e ≠ 0) rfl (fun c0 => ?_) (fun c0 => ?_)
 ·
  refine cSR ?_
  refine sBuild B57_0 ?_
  refine sMv (v := nv _) rfl ?_
  refine sStAll S30 rfl rfl g211 rfl rfl (by kernel_rfl) ?_
  refine sAs (v := nv _) rfl ?_
  refine sN ?_
  refine cRet (kSeqR ?_)
  exact ⟨.inr rfl, _, resRs_agg2 A30 S30 rfl (gS rfl (by omega)) rfl, hfail _ m11 (by rw [cpE, if_pos c0]) c0 (e1.trans e11) (by omega)⟩
 ·
  have hgv : ¬ (vars < 1 ∨ 8 < vars) := fun hh => c0 (by rw [goodB, if_pos hh]; decide)
  have h00 := Decidable.not_not.1 c0
  rw [goodB, if_neg hgv] at h00
  have hs24 : ¬ 24 < szB d e := fun hh => by rw [if_pos hh] at h00; cases h00
  rw [if_neg hs24] at h00
  obtain ⟨n, rfl⟩ : ∃ n : Nat, vars = Int.ofNat n := ⟨vars.toNat, by simp; omega⟩
  have hn8 : n ≤ 8 := by
   have h8 : Int.ofNat n ≤ 8 := by omega
   exact Int.ofNat_le.1 h8
  have hnf := nf_sz d e
  have hE : cpE (Int.ofNat n) d e = if 12 < cpW0 n d e then 12 else if 120 < (cpG0 n d e).length then 2 else 0 := by rw [cpE, if_neg c0]; rfl
  have hlen : (cpG0 n d e).length ≤ 200000 := gT_len h00 (by omega)
  refine cSkip (kSeqN ?_)
  refine cSR ?_
  refine sMv (v := nv _) rfl ?_
  refine sBin (a := n) (b := 1) rfl rfl (aInt_add (by omega)) ?_
  refine sBuild B57_1 ?_
  refine sBuild B96 ?_
  refine sAllocB (bl := m11.size) rfl Z96 (by kernel_rfl) ?_
  refine sStNAB rfl S96 rfl rfl rfl rfl (by kernel_rfl) ?_
  have e7 : Ext m11 (m11.push (.cells true #[nv (n + 1), nv 0, .slice none 0 0])) := .push _ _
  have hB0 : BldP (fun b => b < m11.size) (m11.size + 1) m11.size (m11.push (.cells true #[nv (n + 1), nv 0, .slice none 0 0])) (n + 1) [] (.slice none 0 0) := ⟨gP rfl, by omega, fun b hb => ⟨by simp; omega, by omega, fun e => by cases e⟩, #[], .nil _ _, fun i s hi => by simp at hi⟩
  have z7 : (m11.push (.cells true #[nv (n + 1), nv 0, .slice none 0 0])).size = m11.size + 1 := by simp
  generalize m11.push (.cells true #[nv (n + 1), nv 0, .slice none 0 0]) = m7 at *
  refine sN ?_
  refine cSR ?_
  refine sMFf rfl ?_
  refine sAs (v := .func _ _ _) rfl ?_
  refine sN ?_
  refine cSR ?_
  refine sMv (v := .func _ _ _) rfl ?_
  refine sLdAll A66 S66 rfl (e7.cells (e11.cells g1)) rfl ?_
  refine sMv (v := nv n) rfl ?_
  refine sMv (v := nv n) rfl ?_
  refine sBin (a := n) (b := 1) rfl rfl (aInt_add (by omega)) ?_
  obtain ⟨r26, m26, h26, z26, k26, bv, hB26⟩ := spec_to (Int.ofNat n) (nfB d e) (t := n) (f := n + 1) hB0 (by omega) (((h.ext e1).ext e11).frame (P' := fun b => b < m11.size) fun b hb hl => ⟨by omega, e7.2 b hl⟩) h00 (Nat.le_refl _) (by omega) (by simp only [List.length_nil, Nat.zero_add]; exact hlen)
  refine sCallB3 rfl call113 rfl rfl rfl h26 ?_
  have hx26 : Ext m m26 := ⟨by omega, fun b hb => by rw [k26 b (by omega), e7.2 b (by omega), e11.2 b (by omega)]; exact e1.2 b hb⟩
  have g226 : Mem.get m26 (m.size + 1) = .cells true #[nv 0, nv 0, .slice none 0 0] := by rw [k26 _ (by omega), e7.2 _ (by omega)]; exact g211
  rw [List.nil_append] at hB26
  obtain ⟨qb, cpb, rfl⟩ := hB26.len
  change BldP _ _ _ _ (cpW0 n d e) (cpG0 n d e) (.slice qb (cpG0 n d e).length cpb) at hB26
  refine sN ?_
  refine cSeq (cBlock (cSR ?_))
  refine sFA F96_0 rfl ?_
  refine sFA F30_0 rfl ?_
  refine sLd (v := nv (cpW0 n d e)) A3 rfl hB26.1 rfl ?_
  refine sBin (a := cpW0 n d e) (b := 12) rfl rfl aInt_gtr ?_
  refine sAs (v := .bool _) rfl ?_
  refine sN ?_
  refine cCond (p := 12 < cpW0 n d e) rfl (fun c1 => ?_) (fun c1 => ?_)
  ·
   refine cSR ?_
   refine sBuild B57_0 ?_
   refine sStAll S30 rfl rfl g226 rfl rfl (by kernel_rfl) ?_
   refine sAs (v := nv 12) rfl ?_
   refine sN ?_
   refine cRet (kBlkR (kSeqR ?_))
   exact ⟨.inr rfl, _, resRs_agg2 A30 S30 rfl (gS rfl (by omega)) rfl, hfail 12 m26 (by rw [hE, if_pos c1]) (by decide) hx26 (by omega)⟩
  ·
   refine cSR ?_
   refine sFA F96_0 rfl ?_
   refine sFA F30_2 rfl ?_
   refine sLd (v := .slice qb (cpG0 n d e).length cpb) A28 rfl hB26.1 rfl ?_
   refine sLen T28 rfl ?_
   refine sBin (a := (cpG0 n d e).length) (b := 120) rfl rfl aInt_gtr ?_
   refine sAs (v := .bool _) rfl ?_
   refine sN ?_
   refine cCond (p := 120 < (cpG0 n d e).length) rfl (fun c2 => ?_) (fun c2 => ?_)
   ·
    refine cSR ?_
    refine sBuild B57_0 ?_
    refine sStAll S30 rfl rfl g226 rfl rfl (by kernel_rfl) ?_
    refine sAs (v := nv 2) rfl ?_
    refine sN ?_
    refine cRet (kBlkR (kSeqR ?_))
    exact ⟨.inr rfl, _, resRs_agg2 A30 S30 rfl (gS rfl (by omega)) rfl, hfail 2 m26 (by rw [hE, if_neg c1, if_pos c2]) (by decide) hx26 (by omega)⟩
   ·
    refine cSkip (kBlkN (kSeqN ?_))
    refine cSR ?_
    refine sFA F96_0 rfl ?_
    refine sLdAll A30 S30 rfl hB26.1 rfl ?_
    refine sStAll S30 rfl rfl g226 rfl rfl (by kernel_rfl) ?_
    refine sAs (v := nv 0) rfl ?_
    refine sN ?_
    refine cRet ?_
    have hE0 : cpE (Int.ofNat n) d e = 0 := by rw [hE, if_neg c1, if_neg c2]
    obtain ⟨_, _, _, cs, hO, _⟩ := hB26
    refine ⟨.inr rfl, _, resRs_agg2 A30 S30 rfl (gS rfl (by omega)) rfl, .slice qb (cpG0 n d e).length cpb, cs, ?_, ?_, hx26.set (by omega) _⟩
    ·rw [cpN, hE0, if_pos rfl]; rfl
    ·rw [cpG, hE0, if_pos rfl]
     exact (hO.only (.set (m.size + 1) m26 _) (by omega)).mono (by omega)
end Go.AM

/-! R28 -/
namespace Go.AM
open Go.Proofs
def firstS (n : Nat) (so : Nat → Bool) : Option Nat := (List.range (2 ^ n)).find? so
def foundN (n : Nat) (so : Nat → Bool) : Nat := (firstS n so).getD 0
def foundE (n : Nat) (so : Nat → Bool) : Nat := if (firstS n so).isSome then 0 else 6
theorem firstS_none {n : Nat} {so : Nat → Bool} (h : ∀ x, x < 2 ^ n → so x = false) : firstS n so = none := by
 unfold firstS
 rw [List.find?_eq_none]
 intro x hx
 rw [h x (List.mem_range.1 hx)]; decide
theorem firstS_some {n i : Nat} {so : Nat → Bool} (hi : i < 2 ^ n) (h : so i = true) (h0 : ∀ x, x < i → so x = false) : firstS n so = some i := by
 unfold firstS
 rw [List.find?_range_eq_some]
 exact ⟨h, List.mem_range.2 hi, fun x hx => by rw [h0 x hx]; rfl⟩
theorem spec_statesX {m : Mem} {lp p n : Nat} {J E : Nat → Mem → Prop} (hn : n ≤ 12)
  (hview : ∀ i m', J i m' → ∃ r, Mem.get m' p = .cells r #[nv n])
  (hJ : ∀ i m', i < 2 ^ n → J i m' → ∃ c m'', ARound Tryd.prog lp #[nv i] m' (.bool c) m'' ∧ (c = true ∧ J (i + 1) m'' ∨ c = false ∧ E i m''))
  (h0 : J 0 m) : ∃ v m', ACalls Tryd.prog 149 #[.func (.yield lp) #[] #[], .pointer (some ⟨p, 0, none⟩)] m v m' ∧ (J (2 ^ n) m' ∨ ∃ i, i < 2 ^ n ∧ E i m') := by
 obtain ⟨r, g1⟩ := hview 0 m h0
 have hp10 : 2 ^ n ≤ 2 ^ 12 := Nat.pow_le_pow_right (by omega) hn
 refine wpF (args := [_, _]) mixed okf149 (fn := Tryd.f149) rfl rfl rfl (by simp) ?_
 refine cSR ?_
 refine sLd (v := nv n) A3 rfl g1 rfl ?_
 refine sBin rfl rfl (aInt_shl (a := 1) (by omega)) ?_
 rw [Nat.shiftLeft_eq, Nat.one_mul]
 refine sMv (v := nv 0) rfl ?_
 refine sN ?_
 refine cBlock ?_
 refine wpC_loop (fun k' ρ m' => ∃ i, k' = 2 ^ n - i ∧ i ≤ 2 ^ n ∧ J i m' ∧ Has ρ [(0, .func (.yield lp) #[] #[]), (5, nv (2 ^ n)), (6, nv i)]) ⟨0, rfl, Nat.zero_le _, h0, rfl, rfl, rfl, trivial⟩ ?_
 clear g1
 rintro k' ρ m' ⟨i, rfl, hi, hJi, hh⟩
 rw [hh.env]; clear hh
 refine cSR ?_
 refine sBin rfl rfl (aInt_lss) ?_
 refine sN ?_
 refine cSeq ?_
 refine cCond rfl (fun c0 => ?_) (fun c0 => ?_)
 ·
  refine cSkip (kSeqN ?_)
  refine cSeq (cBlock (cSR ?_))
  refine sMv (v := nv _) rfl ?_
  refine sAs (v := nv _) rfl ?_
  refine sN ?_
  refine cSR ?_
  refine sMv (v := .func _ _ _) rfl ?_
  refine sMv (v := nv _) rfl ?_
  obtain ⟨c, m11, hR, hc⟩ := hJ i m' c0 hJi
  refine sYield1 rfl rfl hR ?_
  refine sP (v := .bool (!c)) rfl ?_
  refine sN ?_
  refine cCond (p := c = false) (by cases c <;> rfl) (fun c1 => ?_) (fun c1 => ?_)
  ·
   refine cRet (kBlkR (kSeqR (kSeqR (kBlkR ?_))))
   rcases hc with ⟨h, _⟩ | ⟨_, h⟩
   ·rw [h] at c1; cases c1
   ·exact ⟨.inr rfl, _, rfl, .inr ⟨i, c0, h⟩⟩
  ·
   refine cSkip (kBlkN (kSeqN ?_))
   refine cRegion ?_
   refine sBin rfl rfl (aInt_add (b := 1) (by omega)) ?_
   refine sMv (v := nv _) rfl ?_
   refine sN ?_
   rcases hc with ⟨_, h⟩ | ⟨h, _⟩
   ·exact ⟨_, (by omega), i + 1, rfl, by omega, h, rfl, rfl, rfl, trivial⟩
   ·exact absurd h c1
 ·
  refine cExit (kSeqE (kSeqE (kBlkS ?_)))
  obtain rfl : i = 2 ^ n := by omega
  exact ⟨.inl rfl, _, rfl, .inl hJi⟩
theorem spec_foundX {m : Mem} {n fid : Nat} {c1 c2 : Value} {so : Nat → Bool} (hn : n ≤ 12) (hcall : callable Tryd.prog fid = true) (hso : ∀ x, x < 2 ^ n → ∀ m', Ext m m' → ∃ v m'', ACalls Tryd.prog fid #[nv x, c1, c2] m' v m'' ∧ (v = .bool (so x) ∧ Ext m' m'')) : ∃ v m', ACalls Tryd.prog 103 #[nv n, .func (.func fid) #[] #[c1, c2]] m v m' ∧ (v = .tuple #[nv (foundN n so), nv (foundE n so)] ∧ Ext m m') := by
 refine wpF (args := [_, _]) mixed okf103 (fn := Tryd.f103) rfl rfl rfl (by simp) ?_
 refine cSR ?_
 refine sBox (v := .func (.func fid) #[] #[c1, c2]) rfl ?_
 change wpOps _ _ _ _ _ (m.push (.cells true #[.func (.func fid) #[] #[c1, c2]]))
 refine sAllocB (bl := m.size + 1) (by simp) Z3 (by kernel_rfl) ?_
 refine sAllocB (bl := m.size + 2) (by simp) Z25 (by kernel_rfl) ?_
 change wpOps _ _ _ _ _ (((m.push (.cells true #[.func (.func fid) #[] #[c1, c2]])).push (.cells true #[nv 0])).push (.cells true #[nv 0]))
 have e1 : Ext m (((m.push (.cells true #[.func (.func fid) #[] #[c1, c2]])).push (.cells true #[nv 0])).push (.cells true #[nv 0])) := ((Ext.push _ _).trans (.push _ _)).trans (.push _ _)
 have hz : (((m.push (.cells true #[.func (.func fid) #[] #[c1, c2]])).push (.cells true #[nv 0])).push (.cells true #[nv 0])).size = m.size + 3 := by simp
 have g3 : Mem.get (((m.push (.cells true #[.func (.func fid) #[] #[c1, c2]])).push (.cells true #[nv 0])).push (.cells true #[nv 0])) m.size = .cells true #[.func (.func fid) #[] #[c1, c2]] := by rw [gPn (by simp; omega), gPn (by simp), gP rfl]
 have g4 : Mem.get (((m.push (.cells true #[.func (.func fid) #[] #[c1, c2]])).push (.cells true #[nv 0])).push (.cells true #[nv 0])) (m.size + 1) = .cells true #[nv 0] := by rw [gPn (by simp), gP (by simp)]
 have g5 : Mem.get (((m.push (.cells true #[.func (.func fid) #[] #[c1, c2]])).push (.cells true #[nv 0])).push (.cells true #[nv 0])) (m.size + 2) = .cells true #[nv 0] := gP (by simp)
 generalize ((m.push (.cells true #[.func (.func fid) #[] #[c1, c2]])).push (.cells true #[nv 0])).push (.cells true #[nv 0]) = M at *
 refine sN ?_
 refine cScope (cSeq ?_)
 refine cLabel (kSeqN ?_)
 refine cSeq (cSR ?_)
 refine sMv (v := nv _) rfl ?_
 obtain ⟨v8, m8, h8, rfl, rfl⟩ := spec_states (m := M) (n := n)
 refine sCall1 rfl call130 rfl h8 ?_
 have e2 : Ext M (M.push (.cells true #[nv n])) := .push _ _
 have g8 : Mem.get (M.push (.cells true #[nv n])) M.size = .cells true #[nv n] := gP rfl
 have hz2 : (M.push (.cells true #[nv n])).size = m.size + 4 := by simp [hz]
 generalize M.push (.cells true #[nv n]) = M2 at *
 refine sN ?_
 refine cBlock ?_
 refine cRangeX (by kernel_rfl) mixed (by kernel_rfl) rfl call149 ?_
 intro R B D hD hround
 have hJ : ∀ i m1, i < 2 ^ n → ((∀ x, x < i → so x = false) ∧ Low M2.size M2 m1 ∧ Mem.get m1 M2.size = .loop R) → ∃ c m3, ARound Tryd.prog M2.size #[nv i] m1 (.bool c) m3 ∧ (c = true ∧ ((∀ x, x < i + 1 → so x = false) ∧ Low M2.size M2 m3 ∧ Mem.get m3 M2.size = .loop R) ∨ c = false ∧ (so i = true ∧ (∀ x, x < i → so x = false) ∧ (∀ b, b < M2.size → b ≠ m.size + 1 → b ≠ m.size + 2 → Mem.get m3 b = Mem.get M2 b) ∧ Mem.get m3 (m.size + 1) = .cells true #[nv i] ∧ Mem.get m3 (m.size + 2) = .cells true #[nv 0] ∧ M2.size < m3.size ∧ Mem.get m3 M2.size = .loop (D .ret))) := by
  rintro i m1 hi ⟨hno, hlo, hlp⟩
  have hlt := Mem.lt_of_live (show (Mem.get m1 M2.size).live = true by rw [hlp]; rfl)
  have hgo : (∃ e m3, ARound Tryd.prog M2.size #[nv i] m1 (.bool (AExit.jump e).isNone) m3 ∧ (e = .normal ∧ ((∀ x, x < i + 1 → so x = false) ∧ Low M2.size M2 m3 ∧ Mem.get m3 M2.size = .loop R) ∨ e = .ret ∧ (so i = true ∧ (∀ x, x < i → so x = false) ∧ (∀ b, b < M2.size → b ≠ m.size + 1 → b ≠ m.size + 2 → Mem.get m3 b = Mem.get M2 b) ∧ Mem.get m3 (m.size + 1) = .cells true #[nv i] ∧ Mem.get m3 (m.size + 2) = .cells true #[nv 0] ∧ M2.size < m3.size ∧ Mem.get m3 M2.size = .loop (D .ret)))) → ∃ c m3, ARound Tryd.prog M2.size #[nv i] m1 (.bool c) m3 ∧ (c = true ∧ ((∀ x, x < i + 1 → so x = false) ∧ Low M2.size M2 m3 ∧ Mem.get m3 M2.size = .loop R) ∨ c = false ∧ (so i = true ∧ (∀ x, x < i → so x = false) ∧ (∀ b, b < M2.size → b ≠ m.size + 1 → b ≠ m.size + 2 → Mem.get m3 b = Mem.get M2 b) ∧ Mem.get m3 (m.size + 1) = .cells true #[nv i] ∧ Mem.get m3 (m.size + 2) = .cells true #[nv 0] ∧ M2.size < m3.size ∧ Mem.get m3 M2.size = .loop (D .ret))) := by
   rintro ⟨e, m3, hr, ⟨rfl, h⟩ | ⟨rfl, h⟩⟩
   ·exact ⟨true, m3, hr, .inl ⟨rfl, h⟩⟩
   ·exact ⟨false, m3, hr, .inr ⟨rfl, h⟩⟩
  refine hgo (hround m1 (nv i) _ hlp ?_)
  clear hgo
  have hlo2 : Low M2.size M2 (m1.setIfInBounds M2.size (.loop B)) := hlo.trans (.set (Nat.le_refl _) _)
  have E1 : Ext M2 (m1.setIfInBounds M2.size (.loop B)) := Low.to_ext (.refl _) hlo2 (Nat.le_refl _)
  have hlt2 : M2.size < (m1.setIfInBounds M2.size (.loop B)).size := by simpa using hlt
  have hBB : Mem.get (m1.setIfInBounds M2.size (.loop B)) M2.size = .loop B := gS rfl hlt
  refine cRegion ?_
  refine sAs (v := nv _) rfl ?_
  refine sNil ?_
  refine ⟨rfl, hlp, ?_⟩
  generalize m1.setIfInBounds M2.size (.loop B) = m2 at *
  refine cBlock (cSeq (cSR ?_))
  refine sLd (v := .func (.func fid) #[] #[c1, c2]) A131 rfl ((e2.trans E1).cells g3) rfl ?_
  refine sMv (v := nv _) rfl ?_
  obtain ⟨v12, m12, h12, rfl, e12⟩ := hso i hi _ (e1.trans (e2.trans E1))
  refine sCall rfl hcall (by simpa [evR, updO] using h12) ?_
  have z12 := e12.1
  refine sP (v := .bool (!so i)) rfl ?_
  refine sN ?_
  refine cCond (p := so i = false) (by cases so i <;> rfl) (fun c0 => ?_) (fun c0 => ?_)
  ·
   refine cExit (kSeqE (kBlkS ?_))
   refine ⟨(e12.2 _ hlt2).trans hBB, .inl ⟨rfl, fun x hx => ?_, (hlo2.trans_ext e12 (by omega)).trans (.set (Nat.le_refl _) _), ?_⟩⟩
   ·by_cases h : x = i
    ·subst h; exact c0
    ·exact hno x (by omega)
   ·rw [hD]; exact gS rfl (by omega)
  ·
   have hsi : so i = true := by simpa using c0
   have g412 := e12.cells ((e2.trans E1).cells g4)
   have g512 := e12.cells ((e2.trans E1).cells g5)
   refine cSkip (kSeqN ?_)
   refine cSR ?_
   refine sMv (v := nv _) rfl ?_
   refine sSt (v := nv _) S3 rfl rfl g412 (by simp) rfl rfl ?_
   refine sSt (v := nv 0) S25 rfl rfl ((gSn (by omega)).trans g512) (by simp) rfl rfl ?_
   refine sN ?_
   refine cRet (kBlkR ?_)
   refine ⟨?_, .inr ⟨rfl, hsi, hno, fun b h1 h2 h3 => ?_, ?_, ?_, by simp; omega, gS rfl (by simp; omega)⟩⟩
   ·rw [gSn (by omega), gSn (by omega), e12.2 _ hlt2]; exact hBB
   ·rw [gSn (by omega), gSn (by omega), gSn (by omega), e12.2 b (by omega)]; exact E1.2 b h1
   ·rw [gSn (by omega), gSn (by omega)]; exact gS rfl (live g412)
   ·rw [gSn (by omega)]; exact gS rfl (by simp; exact live g512)
 obtain ⟨v2, m2, h2, hout⟩ := spec_statesX (m := M2.push (.loop R)) (lp := M2.size) (p := M.size) (n := n) (J := fun i m1 => (∀ x, x < i → so x = false) ∧ Low M2.size M2 m1 ∧ Mem.get m1 M2.size = .loop R) (E := fun i m3 => so i = true ∧ (∀ x, x < i → so x = false) ∧ (∀ b, b < M2.size → b ≠ m.size + 1 → b ≠ m.size + 2 → Mem.get m3 b = Mem.get M2 b) ∧ Mem.get m3 (m.size + 1) = .cells true #[nv i] ∧ Mem.get m3 (m.size + 2) = .cells true #[nv 0] ∧ M2.size < m3.size ∧ Mem.get m3 M2.size = .loop (D .ret)) hn (fun i m' h => ⟨true, (Low.to_ext (.refl _) h.2.1 (Nat.le_refl _)).cells g8⟩) hJ ⟨fun x hx => by omega, .push _ (Nat.le_refl _) _, gP rfl⟩
 rcases hout with ⟨hno, hlo, hlp⟩ | ⟨i, hi, hsi, hno, k1, k2, k3, k4, k5⟩
 rotate_left
 ·refine ⟨v2, m2, .ret, h2, k5, (kBlkR (kSeqR ?_))⟩
  refine ⟨.inr rfl, _, resRs_cell2 A3 rfl (by rw [gSn (by omega)]; exact k2) rfl A25 rfl ((gSn (by omega)).trans k3) rfl, ?_, ⟨by simp; omega, fun b hb => ?_⟩⟩
  ·rw [foundN, foundE, firstS_some hi hsi hno]; rfl
  ·rw [gSn (by omega), k1 b (by omega) (by omega) (by omega), e2.2 b (by omega)]; exact e1.2 b hb
 have E2 : Ext M2 (m2.setIfInBounds M2.size .dead) := Low.to_ext (.refl _) (hlo.trans (.set (Nat.le_refl _) _)) (Nat.le_refl _)
 replace g4 := (e2.trans E2).cells g4
 replace g5 := (e2.trans E2).cells g5
 refine ⟨v2, m2, .normal, h2, (by rw [hD]; exact hlp), (kBlkN (kSeqN ?_))⟩
 refine cSR ?_
 refine sSt (v := nv 0) S3 rfl rfl g4 (by simp) rfl rfl ?_
 refine sSt (v := nv 6) S25 rfl rfl (by rw [gSn (by omega)]; exact g5) (by simp) rfl rfl ?_
 refine sN ?_
 refine cRet ?_
 have hz2' := E2.1
 refine ⟨.inr rfl, _, resRs_cell2 A3 rfl (by rw [gSn (by omega)]; exact gS rfl (live g4)) rfl A25 rfl (gS rfl (by simp; have := live g5; simpa using this)) rfl, ?_, ?_⟩
 ·rw [foundN, foundE, firstS_none hno]; rfl
 ·have e9 : Ext m (m2.setIfInBounds M2.size .dead) := e1.trans (e2.trans E2)
  exact (e9.set (b := m.size + 1) (by omega) _).set (b := m.size + 2) (by omega) _
end Go.AM

/-! R29 -/
namespace Go.AM
open Go.Proofs
def cleanS (Gs : List (Nat × List Nat)) (mk x : Nat) : Bool := decide (x &&& mk = 0) && decide (runM Gs x &&& mk ≠ 0)
def borrS (Gs : List (Nat × List Nat)) (mk x : Nat) : Bool := decide ((runM Gs x ^^^ x) &&& mk ≠ 0) || decide (offM (runM Gs x ^^^ runM Gs (offM x mk)) mk ≠ 0)
theorem spec_Clean1X {m : Mem} {N n x p1 p2 mk : Nat} {r1 r2 : Bool} {s : Value} {cs : Array Value} {Gs : List (Nat × List Nat)} (hC : GlobC m) (hG : OwnG N m s cs Gs) (hc : CircOk n Gs) (hx : x < 2 ^ n) (g1 : Mem.get m p1 = .cells r1 #[nv mk]) (g2 : Mem.get m p2 = .cells r2 #[nv n, nv 0, s]) (hmk : mk < 2 ^ 12) : ∃ v m', ACalls Tryd.prog 104 #[nv x, .pointer (some ⟨p1, 0, none⟩), .pointer (some ⟨p2, 0, none⟩)] m v m' ∧ (v = .bool (cleanS Gs mk x) ∧ Ext m m') := by
 obtain ⟨q, cap, rfl⟩ := hG.1.len
 have h10 := hc.ten
 have hp10 : 2 ^ n ≤ 2 ^ 12 := Nat.pow_le_pow_right (by omega) h10
 have hrl := runM_lt hx hc.all
 refine wpF (args := [_, _, _]) mixed okf104 (fn := Tryd.f104) rfl rfl rfl (by simp) ?_
 refine cSR ?_
 refine sAs (v := .bool _) rfl ?_
 refine sN ?_
 refine cSeq ?_
 refine cDrawH (hs := [(1, 8), (5, 8), (8, 0)]) rfl (by decide) ?_
 refine lStepO (sMv (v := nv _) rfl (sNil fun e0 hm0 => ?_))
 refine lStepLd (v := nv mk) A3 rfl g1 rfl fun e1 hm1 hv1 hr1 => ?_
 refine lStepO (sBin (a := x) (b := mk) rfl rfl (aInt_and ⟨by omega, by omega⟩) (sNil fun e2 hm2 => ?_))
 refine lStepO (sBin (v := .bool (decide (x &&& mk = 0))) (b := 0) rfl rfl aInt_eql (sNil fun e3 hm3 => ?_))
 refine lStepO (sMv (v := .bool _) rfl (sNil fun e4 hm4 => ?_))
 by_cases h1 : x &&& mk = 0
 ·
  rw [decide_eq_true h1]
  refine lG rfl rfl ?_
  refine lStepLdA A30 S30 rfl g2 rfl fun e5 hm5 hv5 hr5 => ?_
  refine lG rfl rfl ?_
  refine lStepO (sMv (v := nv _) rfl (sNil fun e6 hm6 => ?_))
  refine lG rfl rfl ?_
  obtain ⟨v12, m12, h12, rfl, ex12⟩ := spec_run hC hG hc hx
  refine lStepO (sCall2 rfl call97 rfl rfl h12 (sNil fun e7 hm7 => ?_))
  refine lG rfl rfl ?_
  refine lStepLd (v := nv mk) A3 rfl (ex12.cells g1) rfl fun e8 hm8 hv8 hr8 => ?_
  refine lG rfl rfl ?_
  refine lStepO (sBin (a := runM Gs x) (b := mk) rfl rfl (aInt_and ⟨by omega, by omega⟩) (sNil fun e9 hm9 => ?_))
  refine lG rfl rfl ?_
  refine lStepO (sBin (a := runM Gs x &&& mk) (b := 0) rfl rfl aInt_neq (sNil fun e10 hm10 => ?_))
  refine lStepO (sP (v := .bool _) rfl (sNil fun e11 hm11 => ?_))
  refine lStepO (sAs (v := .bool _) rfl (sNil fun e12 hm12 => ?_))
  refine ⟨?_, (kSeqN ?_)⟩
  ·
   refine obl_atE (e := e1) (e' := e8) (by simp) (by rfl) (by simp) ((hr1 e8.m _ _ (by rw [hm8]; exact ex12.cells g1) (by rfl)).trans (congrArg some hv1.symm)) ?_
   refine obl_atE (e := e5) (e' := e8) (by simp) (by rfl) (by simp) ((hr5 e8.m _ (by rw [hm8]; exact ex12.cells g2)).trans (congrArg some hv5.symm)) ?_
   refine obl_atE (e := e8) (e' := e0) (by simp) (by rfl) (by simp) ((hr8 e0.m _ _ (by rw [hm0]; exact g1) (by rfl)).trans (congrArg some hv8.symm)) ?_
   trivial
  refine cRet ?_
  exact ⟨.inr rfl, _, rfl, by rw [cleanS, decide_eq_true h1]; rfl, ex12⟩
 ·
  rw [decide_eq_false h1]
  refine lGno (q' := false) rfl rfl (by simp) fun e5 hm5 hq5 => ?_
  refine lGno (q' := false) rfl rfl (by simp) fun e6 hm6 hq6 => ?_
  refine lGno (q' := false) rfl rfl (by simp) fun e7 hm7 hq7 => ?_
  refine lGno (q' := false) rfl rfl (by simp) fun e8 hm8 hq8 => ?_
  refine lGno (q' := false) rfl rfl (by simp) fun e9 hm9 hq9 => ?_
  refine lGno (q' := false) rfl rfl (by simp) fun e10 hm10 hq10 => ?_
  refine lStepO (sP (v := .bool _) rfl (sNil fun e11 hm11 => ?_))
  refine lStepO (sAs (v := .bool _) rfl (sNil fun e12 hm12 => ?_))
  refine ⟨?_, (kSeqN ?_)⟩
  ·
   refine obl_atE (e := e1) (e' := e8) (by simp) (by rfl) (by simp) ((hr1 e8.m _ _ (by rw [hm8]; exact g1) (by rfl)).trans (congrArg some hv1.symm)) ?_
   refine obl_no (e := e5) (by simp) (by rfl) rfl rfl hq5 (by simp) ?_
   refine obl_no (e := e8) (by simp) (by rfl) rfl rfl hq8 (by simp) ?_
   trivial
  refine cRet ?_
  exact ⟨.inr rfl, _, rfl, by rw [cleanS, decide_eq_false h1]; rfl, .refl _⟩
def H106r : Nat → List (Nat × Nat) := fun id => if id = 2 then [(3, 13), (8, 13), (10, 13), (14, 0)] else []
theorem okf106 : okF Tryd.prog H106r 106 27 = true := by kernel_rfl
theorem spec_Borr1 {m : Mem} {N n x p1 p2 mk : Nat} {r1 r2 : Bool} {s : Value} {cs : Array Value} {Gs : List (Nat × List Nat)} (hC : GlobC m) (hG : OwnG N m s cs Gs) (hc : CircOk n Gs) (hx : x < 2 ^ n) (g1 : Mem.get m p2 = .cells r1 #[nv mk]) (g2 : Mem.get m p1 = .cells r2 #[nv n, nv 0, s]) (hmk : mk < 2 ^ 12) : ∃ v m', ACalls Tryd.prog 106 #[nv x, .pointer (some ⟨p1, 0, none⟩), .pointer (some ⟨p2, 0, none⟩)] m v m' ∧ (v = .bool (borrS Gs mk x) ∧ Ext m m') := by
 obtain ⟨q, cap, rfl⟩ := hG.1.len
 have h10 := hc.ten
 have hp10 : 2 ^ n ≤ 2 ^ 12 := Nat.pow_le_pow_right (by omega) h10
 have hrl := runM_lt hx hc.all
 have hxl : runM Gs x ^^^ x < 2 ^ 12 := Nat.xor_lt_two_pow (by omega) (by omega)
 have hofl := offM_le x mk
 have hrl2 := runM_lt (x := offM x mk) (n := n) (Gs := Gs) (by omega) hc.all
 have hxl2 : runM Gs x ^^^ runM Gs (offM x mk) < 2 ^ 12 := Nat.xor_lt_two_pow (by omega) (by omega)
 refine wpF (args := [_, _, _]) mixed okf106 (fn := Tryd.f106) rfl rfl rfl (by simp) ?_
 refine cSR ?_
 refine sAs (v := .bool _) rfl ?_
 refine sN ?_
 refine cSR ?_
 refine sLdAll A30 S30 rfl g2 rfl ?_
 refine sMv (v := nv _) rfl ?_
 obtain ⟨v8, m8, h8, rfl, ex8⟩ := spec_run hC hG hc hx
 refine sCall2 rfl call97 rfl rfl h8 ?_
 have g1' := ex8.cells g1
 have g2' := ex8.cells g2
 refine sAs (v := nv _) rfl ?_
 refine sN ?_
 refine cSeq ?_
 refine cDrawH (hs := [(3, 13), (8, 13), (10, 13), (14, 0)]) rfl (by decide) ?_
 refine lStepO (sMv (v := nv _) rfl (sNil fun e0 hm0 => ?_))
 refine lStepO (sMv (v := nv _) rfl (sNil fun e1 hm1 => ?_))
 refine lStepO (sBin (a := runM Gs x) (b := x) rfl rfl (aInt_xor ⟨by omega, by omega⟩) (sNil fun e2 hm2 => ?_))
 refine lStepLd (v := nv mk) A3 rfl g1' rfl fun e3 hm3 hv3 hr3 => ?_
 refine lStepO (sBin (a := runM Gs x ^^^ x) (b := mk) rfl rfl (aInt_and ⟨by omega, by omega⟩) (sNil fun e4 hm4 => ?_))
 refine lStepO (sBin (a := (runM Gs x ^^^ x) &&& mk) (b := 0) rfl rfl aInt_neq (sNil fun e5 hm5 => ?_))
 refine lStepO (sMv (v := .bool _) rfl (sNil fun e6 hm6 => ?_))
 by_cases h1 : (runM Gs x ^^^ x) &&& mk ≠ 0
 ·
  rw [decide_eq_true h1]
  refine lGno (q' := true) rfl rfl (by simp) fun e7 hm7 hq7 => ?_
  refine lGno (q' := true) rfl rfl (by simp) fun e8 hm8 hq8 => ?_
  refine lGno (q' := true) rfl rfl (by simp) fun e9 hm9 hq9 => ?_
  refine lGno (q' := true) rfl rfl (by simp) fun e10 hm10 hq10 => ?_
  refine lGno (q' := true) rfl rfl (by simp) fun e11 hm11 hq11 => ?_
  refine lGno (q' := true) rfl rfl (by simp) fun e12 hm12 hq12 => ?_
  refine lGno (q' := true) rfl rfl (by simp) fun e13 hm13 hq13 => ?_
  refine lGno (q' := true) rfl rfl (by simp) fun e14 hm14 hq14 => ?_
  refine lGno (q' := true) rfl rfl (by simp) fun e15 hm15 hq15 => ?_
  refine lGno (q' := true) rfl rfl (by simp) fun e16 hm16 hq16 => ?_
  refine lStepO (sP (v := .bool _) rfl (sNil fun e17 hm17 => ?_))
  refine lStepO (sAs (v := .bool _) rfl (sNil fun e18 hm18 => ?_))
  refine ⟨?_, (kSeqN ?_)⟩
  ·
   refine obl_atE (e := e3) (e' := e13) (by simp) (by rfl) (by simp) ((hr3 e13.m _ _ (by rw [hm13]; exact g1') (by rfl)).trans (congrArg some hv3.symm)) ?_
   refine obl_no (e := e8) (by simp) (by rfl) rfl rfl hq8 (by simp) ?_
   refine obl_no (e := e10) (by simp) (by rfl) rfl rfl hq10 (by simp) ?_
   refine obl_no (e := e14) (by simp) (by rfl) rfl rfl hq14 (by simp) ?_
   trivial
  refine cRet ?_
  exact ⟨.inr rfl, _, rfl, by rw [borrS, decide_eq_true h1]; rfl, ex8⟩
 ·
  rw [decide_eq_false h1]
  refine lG rfl rfl ?_
  refine lStepO (sMv (v := nv _) rfl (sNil fun e7 hm7 => ?_))
  refine lG rfl rfl ?_
  refine lStepLdA A30 S30 rfl g2' rfl fun e8 hm8 hv8 hr8 => ?_
  refine lG rfl rfl ?_
  refine lStepO (sMv (v := nv _) rfl (sNil fun e9 hm9 => ?_))
  refine lG rfl rfl ?_
  refine lStepLd (v := nv mk) A3 rfl g1' rfl fun e10 hm10 hv10 hr10 => ?_
  refine lG rfl rfl ?_
  refine lStepO (sBin (a := x) (b := mk) rfl rfl (aInt_andNot ⟨by omega, by omega⟩) (sNil fun e11 hm11 => ?_))
  refine lG rfl rfl ?_
  obtain ⟨v12, m12, h12, rfl, ex12⟩ := spec_run (hC.ext ex8) (hG.ext ex8) hc (x := offM x mk) (by omega)
  refine lStepO (sCall2 rfl call97 rfl rfl h12 (sNil fun e12 hm12 => ?_))
  refine lG rfl rfl ?_
  refine lStepO (sBin (a := runM Gs x) (b := runM Gs (offM x mk)) rfl rfl (aInt_xor ⟨by omega, by omega⟩) (sNil fun e13 hm13 => ?_))
  refine lG rfl rfl ?_
  refine lStepLd (v := nv mk) A3 rfl (ex12.cells g1') rfl fun e14 hm14 hv14 hr14 => ?_
  refine lG rfl rfl ?_
  refine lStepO (sBin (a := runM Gs x ^^^ runM Gs (offM x mk)) (b := mk) rfl rfl (aInt_andNot ⟨by omega, by omega⟩) (sNil fun e15 hm15 => ?_))
  refine lG rfl rfl ?_
  refine lStepO (sBin (a := offM (runM Gs x ^^^ runM Gs (offM x mk)) mk) (b := 0) rfl rfl aInt_neq (sNil fun e16 hm16 => ?_))
  refine lStepO (sP (v := .bool _) rfl (sNil fun e17 hm17 => ?_))
  refine lStepO (sAs (v := .bool _) rfl (sNil fun e18 hm18 => ?_))
  refine ⟨?_, (kSeqN ?_)⟩
  ·
   refine obl_atE (e := e3) (e' := e13) (by simp) (by rfl) (by simp) ((hr3 e13.m _ _ (by rw [hm13]; exact ex12.cells g1') (by rfl)).trans (congrArg some hv3.symm)) ?_
   refine obl_atE (e := e8) (e' := e13) (by simp) (by rfl) (by simp) ((hr8 e13.m _ (by rw [hm13]; exact ex12.cells g2')).trans (congrArg some hv8.symm)) ?_
   refine obl_atE (e := e10) (e' := e13) (by simp) (by rfl) (by simp) ((hr10 e13.m _ _ (by rw [hm13]; exact ex12.cells g1') (by rfl)).trans (congrArg some hv10.symm)) ?_
   refine obl_atE (e := e14) (e' := e0) (by simp) (by rfl) (by simp) ((hr14 e0.m _ _ (by rw [hm0]; exact g1') (by rfl)).trans (congrArg some hv14.symm)) ?_
   trivial
  refine cRet ?_
  exact ⟨.inr rfl, _, rfl, by rw [borrS, decide_eq_false h1]; rfl, ex8.trans ex12⟩
theorem spec_CleanX {m : Mem} {N n : Nat} {s a : Value} {cs : Array Value} {Gs : List (Nat × List Nat)} {l : List Nat} (hC : GlobC m) (hG : OwnG N m s cs Gs) (hc : CircOk n Gs) (ha : IntsAt m a (ofs l)) (hlt : ∀ y ∈ l, y < n) (hnd : l.Nodup) : ∃ v m', ACalls Tryd.prog 46 #[.agg #[nv n, nv 0, s], a] m v m' ∧ (v = .tuple #[nv (foundN n (cleanS Gs (posM l))), nv (foundE n (cleanS Gs (posM l)))] ∧ Ext m m') := by
 obtain ⟨q, cap, rfl⟩ := hG.1.len
 obtain ⟨qa, ca, rfl⟩ := ha.lenN
 have h10 := hc.ten
 have hpl : posM l < 2 ^ 12 := posM_lt fun y hy => by have := hlt y hy; omega
 refine wpF (args := [_, _]) mixed okf46 (fn := Tryd.f46) rfl rfl rfl (by simp) ?_
 refine cSR ?_
 refine sBox (v := .agg _) rfl ?_
 change wpOps _ _ _ _ _ (m.push (.cells true #[nv n, nv 0, .slice q Gs.length cap]))
 have e1 : Ext m (m.push (.cells true #[nv n, nv 0, .slice q Gs.length cap])) := .push _ _
 have g1 : Mem.get (m.push (.cells true #[nv n, nv 0, .slice q Gs.length cap])) m.size = .cells true #[nv n, nv 0, .slice q Gs.length cap] := gP rfl
 refine sAs (v := nv 0) rfl ?_
 refine sAs (v := nv 0) rfl ?_
 refine sN ?_
 refine cSR ?_
 refine sLdAll A30 S30 rfl g1 rfl ?_
 refine sMv (v := .slice _ _ _) rfl ?_
 obtain ⟨v11, m11, h11, rfl, e11⟩ := spec_mask (hC.ext e1) (hG.ext e1) hc (ha.ext e1) hlt hnd
 refine sCall2 rfl call102 rfl rfl h11 ?_
 replace g1 := e11.cells g1
 replace e1 := e1.trans e11
 refine sMv (v := .tuple _) rfl ?_
 refine sP (v := nv _) rfl ?_
 refine sP (v := nv _) rfl ?_
 refine sAlloc Z3 (by kernel_rfl) ?_
 refine sStN (v := nv (posM l)) S3 rfl rfl rfl rfl rfl ?_
 have e2 : Ext m11 (m11.push (.cells true #[nv (posM l)])) := .push _ _
 have g2 : Mem.get (m11.push (.cells true #[nv (posM l)])) m11.size = .cells true #[nv (posM l)] := gP rfl
 replace g1 := e2.cells g1
 replace e1 := e1.trans e2
 refine sAs (v := nv _) rfl ?_
 refine sN ?_
 refine cSeq (cSR ?_)
 refine sMv (v := nv _) rfl ?_
 refine sBin (v := .bool false) (a := 0) (b := 0) rfl rfl (neqF rfl) ?_
 refine sN ?_
 refine cCondF rfl ?_
 refine cSkip (kSeqN ?_)
 refine cSR ?_
 refine sFA F30_0 rfl ?_
 refine sLd (v := nv n) A3 rfl g1 rfl ?_
 refine sMFc2 rfl rfl ?_
 obtain ⟨v20, m20, h20, rfl, e20⟩ := spec_foundX (m := m11.push (.cells true #[nv (posM l)])) (fid := 104) (so := cleanS Gs (posM l)) (c1 := .pointer (some ⟨m11.size, 0, none⟩)) (c2 := .pointer (some ⟨m.size, 0, none⟩)) h10 call104 fun x hx m' he => spec_Clean1X ((hC.ext e1).ext he) ((hG.ext e1).ext he) hc hx (he.cells g2) (he.cells g1) hpl
 refine sCall2 rfl call103 rfl rfl h20 ?_
 refine sP (v := nv _) rfl ?_
 refine sP (v := nv _) rfl ?_
 refine sAs (v := nv _) rfl ?_
 refine sAs (v := nv _) rfl ?_
 refine sN ?_
 refine cRet ?_
 exact ⟨.inr rfl, _, rfl, rfl, e1.trans e20⟩
theorem okf48 : okF Tryd.prog H0 48 23 = true := by kernel_rfl
theorem spec_BorrX {m : Mem} {N n : Nat} {s a : Value} {cs : Array Value} {Gs : List (Nat × List Nat)} {l : List Nat} (hC : GlobC m) (hG : OwnG N m s cs Gs) (hc : CircOk n Gs) (ha : IntsAt m a (ofs l)) (hlt : ∀ y ∈ l, y < n) (hnd : l.Nodup) : ∃ v m', ACalls Tryd.prog 48 #[.agg #[nv n, nv 0, s], a] m v m' ∧ (v = .tuple #[nv (foundN n (borrS Gs (posM l))), nv (foundE n (borrS Gs (posM l)))] ∧ Ext m m') := by
 obtain ⟨q, cap, rfl⟩ := hG.1.len
 obtain ⟨qa, ca, rfl⟩ := ha.lenN
 have h10 := hc.ten
 have hpl : posM l < 2 ^ 12 := posM_lt fun y hy => by have := hlt y hy; omega
 refine wpF (args := [_, _]) mixed okf48 (fn := Tryd.f48) rfl rfl rfl (by simp) ?_
 refine cSR ?_
 refine sBox (v := .agg _) rfl ?_
 change wpOps _ _ _ _ _ (m.push (.cells true #[nv n, nv 0, .slice q Gs.length cap]))
 have e1 : Ext m (m.push (.cells true #[nv n, nv 0, .slice q Gs.length cap])) := .push _ _
 have g1 : Mem.get (m.push (.cells true #[nv n, nv 0, .slice q Gs.length cap])) m.size = .cells true #[nv n, nv 0, .slice q Gs.length cap] := gP rfl
 refine sAs (v := nv 0) rfl ?_
 refine sAs (v := nv 0) rfl ?_
 refine sN ?_
 refine cSR ?_
 refine sLdAll A30 S30 rfl g1 rfl ?_
 refine sMv (v := .slice _ _ _) rfl ?_
 obtain ⟨v11, m11, h11, rfl, e11⟩ := spec_mask (hC.ext e1) (hG.ext e1) hc (ha.ext e1) hlt hnd
 refine sCall2 rfl call102 rfl rfl h11 ?_
 replace g1 := e11.cells g1
 replace e1 := e1.trans e11
 refine sMv (v := .tuple _) rfl ?_
 refine sP (v := nv _) rfl ?_
 refine sP (v := nv _) rfl ?_
 refine sAlloc Z3 (by kernel_rfl) ?_
 refine sStN (v := nv (posM l)) S3 rfl rfl rfl rfl rfl ?_
 have e2 : Ext m11 (m11.push (.cells true #[nv (posM l)])) := .push _ _
 have g2 : Mem.get (m11.push (.cells true #[nv (posM l)])) m11.size = .cells true #[nv (posM l)] := gP rfl
 replace g1 := e2.cells g1
 replace e1 := e1.trans e2
 refine sAs (v := nv _) rfl ?_
 refine sN ?_
 refine cSeq (cSR ?_)
 refine sMv (v := nv _) rfl ?_
 refine sBin (v := .bool false) (a := 0) (b := 0) rfl rfl (neqF rfl) ?_
 refine sN ?_
 refine cCondF rfl ?_
 refine cSkip (kSeqN ?_)
 refine cSR ?_
 refine sFA F30_0 rfl ?_
 refine sLd (v := nv n) A3 rfl g1 rfl ?_
 refine sMFc2 rfl rfl ?_
 obtain ⟨v20, m20, h20, rfl, e20⟩ := spec_foundX (m := m11.push (.cells true #[nv (posM l)])) (fid := 106) (so := borrS Gs (posM l)) (c1 := .pointer (some ⟨m.size, 0, none⟩)) (c2 := .pointer (some ⟨m11.size, 0, none⟩)) h10 call106 fun x hx m' he => spec_Borr1 ((hC.ext e1).ext he) ((hG.ext e1).ext he) hc hx (he.cells g2) (he.cells g1) hpl
 refine sCall2 rfl call103 rfl rfl h20 ?_
 refine sP (v := nv _) rfl ?_
 refine sP (v := nv _) rfl ?_
 refine sAs (v := nv _) rfl ?_
 refine sAs (v := nv _) rfl ?_
 refine sN ?_
 refine cRet ?_
 exact ⟨.inr rfl, _, rfl, rfl, e1.trans e20⟩
end Go.AM

/-! R30 -/
namespace Go.AM
open Go.Proofs
/-- A row of given numbers. -/
theorem sRow {ρ : Env} {m : Mem} {K : Env → Mem → Prop} {ops : Array Oper} {l : List Oper} {d : Option Nat} {ty : TypeId} {pos : String} {af : Array Edge} {len : Nat} {ps : Array (Nat × Operand)} (r : List Nat) (hlen : len = r.length) (h1 : len * 1 ≤ 16777216)
  (hf : Instr.fill (fun i => some (i * 1, 1)) (if len * 1 = 0 then #[] else (Array.range (len * 1)).map ((nv 0).cells[· % (nv 0).cells.size]!)) (ps.toList.map fun p => (p.1, evR ρ p.2)) = some (cellsN r))
  (hk : ∀ q m', OwnF 0 m' (.slice q r.length r.length) (ofs r) → Ext m m' → wpOps Tryd.prog ops K l (updO ρ d (.slice q r.length r.length)) m') : wpOps Tryd.prog ops K (⟨d, .buildSlice 22 len ps, ty, pos, af, none⟩ :: l) ρ m := by
 subst hlen
 refine sBuildS T22 S3 Z3 (by decide) h1 (by decide) (by kernel_rfl) hf (by simp) ?_
 refine hk (some ⟨m.size, 0, some 1⟩) _ ?_ (.push _ _)
 have := OwnF.ofCells (N := 0) (m := m.push (.cells true (cellsN r))) (b := m.size) (l := r) (r := []) (Nat.zero_le _) (by rw [List.append_nil]; exact gP rfl)
 rw [List.append_nil] at this
 exact this
def quadsC (l : List (Nat × Value × List Nat)) : Array Value := (l.flatMap fun t => [nv t.1, t.2.1, nv 0, nv 0]).toArray
theorem quads_len (l : List (Nat × Value × List Nat)) : (l.flatMap fun t => [nv t.1, t.2.1, nv 0, nv 0]).length = l.length * 4 := by
 induction l with
 | nil => rfl
 | cons t l ih => rw [List.flatMap_cons, List.length_append, ih, List.length_cons]; simp; omega
theorem quadsC_size (l : List (Nat × Value × List Nat)) : (quadsC l).size = l.length * 4 := by unfold quadsC; rw [List.size_toArray, quads_len]
theorem CircOk.of {n : Nat} {Gs : List (Nat × List Nat)} (h : 1 ≤ n ∧ n ≤ 12 ∧ Gs.length ≤ 120 ∧ ∀ g ∈ Gs, ((g.1 = 1 ∧ g.2.length = 1) ∨ (g.1 = 9 ∧ g.2.length = 2) ∨ (g.1 = 12 ∧ g.2.length = 3)) ∧ (∀ w ∈ g.2, w < n) ∧ g.2.Nodup) : CircOk n Gs :=
 ⟨h.1, h.2.1, h.2.2.1, fun g hg => ⟨(h.2.2.2 g hg).1, (h.2.2.2 g hg).2.1, (h.2.2.2 g hg).2.2⟩⟩
theorem quads_get : ∀ (l : List (Nat × Value × List Nat)) (i : Nat) (t : Nat × Value × List Nat), l[i]? = some t → ∀ j, j < 4 → (l.flatMap fun t => [nv t.1, t.2.1, nv 0, nv 0])[i * 4 + j]? = [nv t.1, t.2.1, nv 0, nv 0][j]?
 | [], i, t, h, j, hj => by simp at h
 | a :: l, 0, t, h, j, hj => by
  obtain rfl : a = t := by simpa using h
  rw [List.flatMap_cons, List.getElem?_append_left (by simp; omega), Nat.zero_mul, Nat.zero_add]
 | a :: l, i + 1, t, h, j, hj => by
  rw [List.flatMap_cons, List.getElem?_append_right (by simp; omega)]
  have := quads_get l i t (by simpa using h) j hj
  rw [← this]; congr 1; simp; omega
theorem ownG_build {m : Mem} (l : List (Nat × Value × List Nat)) (h : ∀ t ∈ l, OwnF 0 m t.2.1 (ofs t.2.2)) : OwnG 0 (m.push (.cells true (quadsC l))) (.slice (some ⟨m.size, 0, some 4⟩) l.length l.length) (quadsC l) (l.map fun t => (t.1, t.2.2)) := by
 refine ⟨.inr ⟨m.size, l.length, quadsC l, by rw [List.length_map], Nat.zero_le _, gP rfl, by rw [List.length_map]; exact Nat.le_refl _, quadsC_size l, by rw [quadsC_size, List.length_map], fun i _ => rfl⟩, fun i g hi => ?_⟩
 rw [List.getElem?_map] at hi
 obtain ⟨t, ht, rfl⟩ := Option.map_eq_some_iff.1 hi
 have hq := quads_get l i t ht
 have ho := h t (List.mem_of_getElem? ht)
 refine ⟨t.2.1, ?_, ?_, ?_, ?_, ho.ext (.push _ _), fun b hb e => ?_⟩
 ·have := hq 0 (by omega); simp [quadsC] at this ⊢; exact this
 ·have := hq 1 (by omega); simp [quadsC] at this ⊢; exact this
 ·have := hq 2 (by omega); simp [quadsC] at this ⊢; exact this
 ·have := hq 3 (by omega); simp [quadsC] at this ⊢; exact this
 ·have h1 := (ho.lt hb).2
  have e' : m.size = b := Option.some.inj e
  omega
/-- Gates that have been made. -/
theorem sGates {ρ : Env} {m : Mem} {K : Env → Mem → Prop} {ops : Array Oper} {l : List Oper} {d : Option Nat} {ty : TypeId} {pos : String} {af : Array Edge} {len : Nat} {ps : Array (Nat × Operand)} (r : List (Nat × Value × List Nat)) (hr : ∀ t ∈ r, OwnF 0 m t.2.1 (ofs t.2.2)) (hlen : len = r.length) (h1 : len * 4 ≤ 16777216)
  (hf : Instr.fill (fun i => some (i * 4, 4)) (if len * 4 = 0 then #[] else (Array.range (len * 4)).map ((Value.agg #[nv 0, .slice none 0 0, nv 0, nv 0]).cells[· % (Value.agg #[nv 0, .slice none 0 0, nv 0, nv 0]).cells.size]!)) (ps.toList.map fun p => (p.1, evR ρ p.2)) = some (quadsC r))
  (hk : ∀ q m' cs, OwnG 0 m' (.slice q r.length r.length) cs (r.map fun t => (t.1, t.2.2)) → Ext m m' → wpOps Tryd.prog ops K l (updO ρ d (.slice q r.length r.length)) m') : wpOps Tryd.prog ops K (⟨d, .buildSlice 28 len ps, ty, pos, af, none⟩ :: l) ρ m := by
 subst hlen
 refine sBuildS T28 S49 Z49 (by decide) h1 (by decide) (by kernel_rfl) hf (quadsC_size r) ?_
 exact hk (some ⟨m.size, 0, some 4⟩) _ _ (ownG_build r hr) (.push _ _)
theorem B49k {k : Nat} {q : Option Addr} {n c : Nat} : aBuild Tryd.prog 49 [(0, nv k), (1, .slice q n c)] = some (.agg #[nv k, .slice q n c, nv 0, nv 0]) := by kernel_rfl
theorem B30k {k : Nat} {q : Option Addr} {n c : Nat} : aBuild Tryd.prog 30 [(0, nv k), (2, .slice q n c)] = some (.agg #[nv k, nv 0, .slice q n c]) := by kernel_rfl
theorem B66k {k : Nat} {q : Option Addr} {n c : Nat} : aBuild Tryd.prog 66 [(0, nv k), (2, .slice q n c)] = some (.agg #[nv k, nv 0, .slice q n c]) := by kernel_rfl
theorem B66v {k : Nat} : aBuild Tryd.prog 66 [(0, nv 1), (1, nv k)] = some (.agg #[nv 1, nv k, .slice none 0 0]) := by kernel_rfl
theorem okf69 : okF Tryd.prog H0 69 8 = true := by kernel_rfl
theorem spec_lgate {m : Mem} {k n c : Nat} {q : Option Addr} : ∃ v m', ACalls Tryd.prog 69 #[nv k, .slice q n c] m v m' ∧ (v = .agg #[nv k, .slice q n c, nv 0, nv 0] ∧ Ext m m') := by
 refine wpF (args := [_, _]) mixed okf69 (fn := Tryd.f69) rfl rfl rfl (by simp) ?_
 refine cSR ?_
 refine sAlloc Z49 (by kernel_rfl) ?_
 refine sN ?_
 refine cSR ?_
 refine sMv (v := nv _) rfl ?_
 refine sMv (v := .slice _ _ _) rfl ?_
 refine sBuild B49k ?_
 refine sStAll S49 rfl rfl (gP rfl) rfl rfl (by kernel_rfl) ?_
 refine sN ?_
 refine cRet ?_
 exact ⟨.inr rfl, _, resRs_agg A49 S49 rfl (gS rfl (by simp)) rfl, rfl, (Ext.push _ _).set (Nat.le_refl _) _⟩
theorem okf68 : okF Tryd.prog H0 68 8 = true := by kernel_rfl
theorem spec_lof {m : Mem} {k n c : Nat} {q : Option Addr} : ∃ v m', ACalls Tryd.prog 68 #[nv k, .slice q n c] m v m' ∧ (v = .agg #[nv k, nv 0, .slice q n c] ∧ Ext m m') := by
 refine wpF (args := [_, _]) mixed okf68 (fn := Tryd.f68) rfl rfl rfl (by simp) ?_
 refine cSR ?_
 refine sAlloc Z30 (by kernel_rfl) ?_
 refine sN ?_
 refine cSR ?_
 refine sMv (v := nv _) rfl ?_
 refine sMv (v := .slice _ _ _) rfl ?_
 refine sBuild B30k ?_
 refine sStAll S30 rfl rfl (gP rfl) rfl rfl (by kernel_rfl) ?_
 refine sN ?_
 refine cRet ?_
 exact ⟨.inr rfl, _, resRs_agg A30 S30 rfl (gS rfl (by simp)) rfl, rfl, (Ext.push _ _).set (Nat.le_refl _) _⟩
theorem okf71 : okF Tryd.prog H0 71 8 = true := by kernel_rfl
theorem spec_lmade {m : Mem} {k n c : Nat} {q : Option Addr} : ∃ v m', ACalls Tryd.prog 71 #[nv k, .slice q n c] m v m' ∧ (v = .agg #[nv k, nv 0, .slice q n c] ∧ Ext m m') := by
 refine wpF (args := [_, _]) mixed okf71 (fn := Tryd.f71) rfl rfl rfl (by simp) ?_
 refine cSR ?_
 refine sAlloc Z66 (by kernel_rfl) ?_
 refine sN ?_
 refine cSR ?_
 refine sMv (v := nv _) rfl ?_
 refine sMv (v := .slice _ _ _) rfl ?_
 refine sBuild B66k ?_
 refine sStAll S66 rfl rfl (gP rfl) rfl rfl (by kernel_rfl) ?_
 refine sN ?_
 refine cRet ?_
 exact ⟨.inr rfl, _, resRs_agg A66 S66 rfl (gS rfl (by simp)) rfl, rfl, (Ext.push _ _).set (Nat.le_refl _) _⟩
theorem okf72 : okF Tryd.prog H0 72 5 = true := by kernel_rfl
theorem spec_lvar {m : Mem} {k : Nat} : ∃ v m', ACalls Tryd.prog 72 #[nv k] m v m' ∧ (v = .agg #[nv 1, nv k, .slice none 0 0] ∧ Ext m m') := by
 refine wpF (args := [_]) mixed okf72 (fn := Tryd.f72) rfl rfl rfl (by simp) ?_
 refine cSR ?_
 refine sAlloc Z66 (by kernel_rfl) ?_
 refine sN ?_
 refine cSR ?_
 refine sMv (v := nv _) rfl ?_
 refine sBuild B66v ?_
 refine sStAll S66 rfl rfl (gP rfl) rfl rfl (by kernel_rfl) ?_
 refine sN ?_
 refine cRet ?_
 exact ⟨.inr rfl, _, resRs_agg A66 S66 rfl (gS rfl (by simp)) rfl, rfl, (Ext.push _ _).set (Nat.le_refl _) _⟩
theorem okf70 : okF Tryd.prog H0 70 14 = true := by kernel_rfl
theorem spec_known {m : Mem} {a b : Value} {W B W' B' er : Nat} {l r : List GateV} (ha : GatesAt m a l) (hb : GatesAt m b r) (hl : l.length < 4611686018427387904) (hw : ∀ g ∈ l, g.2.1.length < 4611686018427387904) : ∃ v m', ACalls Tryd.prog 70 #[.agg #[nv W, nv B, a], nv er, .agg #[nv W', nv B', b]] m v m' ∧ (v = .bool (decide (er = 0) && decide (W = W' ∧ B = B' ∧ l = r)) ∧ Ext m m') := by
 obtain ⟨q, cap, rfl⟩ := ha.len
 obtain ⟨q', cap', rfl⟩ := hb.len
 refine wpF (args := [_, _, _]) mixed okf70 (fn := Tryd.f70) rfl rfl rfl (by simp) ?_
 refine cSR ?_
 refine sBox (v := .agg _) rfl ?_
 change wpOps _ _ _ _ _ (m.push (.cells true #[nv W, nv B, .slice q l.length cap]))
 refine sBoxB (bl := m.size + 1) (v := .agg _) (by simp) rfl ?_
 change wpOps _ _ _ _ _ ((m.push (.cells true #[nv W, nv B, .slice q l.length cap])).push (.cells true #[nv W', nv B', .slice q' r.length cap']))
 refine sAs (v := .bool _) rfl ?_
 refine sN ?_
 refine cSR ?_
 refine sMv (v := nv _) rfl ?_
 refine sBin (a := er) (b := 0) rfl rfl aInt_eql ?_
 refine sMv (v := .bool _) rfl ?_
 by_cases h0 : er = 0
 ·
  rw [decide_eq_true h0]
  refine sG rfl rfl ?_
  refine sLdAll A30 S30 rfl ((gPn (by simp)).trans (gP rfl)) rfl ?_
  refine sG rfl rfl ?_
  refine sLdAll A30 S30 rfl (gP (by simp)) rfl ?_
  refine sG rfl rfl ?_
  obtain ⟨v12, m12, h12, rfl, e12⟩ := spec_Same (W := W) (B := B) (W' := W') (B' := B') (m := (m.push (.cells true #[nv W, nv B, .slice q l.length cap])).push (.cells true #[nv W', nv B', .slice q' r.length cap'])) ((ha.ext (.push _ _)).ext (.push _ _)) ((hb.ext (.push _ _)).ext (.push _ _)) hl hw
  refine sCall2 rfl call20 rfl rfl h12 ?_
  refine sP (v := .bool _) rfl ?_
  refine sAs (v := .bool _) rfl ?_
  refine sN ?_
  refine cRet ?_
  exact ⟨.inr rfl, _, rfl, rfl, ((Ext.push _ _).trans (.push _ _)).trans e12⟩
 ·
  rw [decide_eq_false h0]
  refine sGF rfl rfl ?_
  refine sGF rfl rfl ?_
  refine sGF rfl rfl ?_
  refine sP (v := .bool _) rfl ?_
  refine sAs (v := .bool _) rfl ?_
  refine sN ?_
  refine cRet ?_
  exact ⟨.inr rfl, _, rfl, rfl, (Ext.push _ _).trans (.push _ _)⟩
end Go.AM

/-! R31 -/
namespace Go.AM
open Go.Proofs
theorem awT : rtabM 2 [(9, [0, 1])] = [0, 3, 2, 1] := by decide +kernel
theorem awA : runM [(12, [0, 1, 2])] 3 = 7 := by decide +kernel
theorem awC : circP (ofs [0, 2, 1, 3]) = [(9, [1, 0]), (9, [0, 1]), (9, [1, 0])] := by decide +kernel
theorem awY : cyclesP (ofs [0, 2, 1, 3]) = [[1, 2]] := by decide +kernel
theorem awEv : evenP (ofs [0, 2, 1, 3]) = false := by decide +kernel
theorem awWE : wideE (ofs [0, 2, 1, 3]) = 0 := by decide +kernel
theorem awWN : wideN (ofs [0, 2, 1, 3]) = 2 := by decide +kernel
theorem awCn : countV 3 2 = 102 ∧ countE 3 2 = 0 := by decide +kernel
theorem awS2 : shortE (ofs [0, 2, 1, 3]) 2 = 6 := by decide +kernel
theorem awS2n : shortN (ofs [0, 2, 1, 3]) 2 = 0 := by decide +kernel
theorem awS3 : shortE (ofs [0, 2, 1, 3]) 3 = 0 := by decide +kernel
theorem awS3n : shortN (ofs [0, 2, 1, 3]) 3 = 2 := by decide +kernel
theorem awS3l : (shortP (ofs [0, 2, 1, 3]) 3).length = 3 := by decide +kernel
theorem awF1n : foundN 2 (cleanS [(9, [0, 1])] (posM [1])) = 1 := by decide +kernel
theorem awF1e : foundE 2 (cleanS [(9, [0, 1])] (posM [1])) = 0 := by decide +kernel
theorem awF2n : foundN 2 (borrS [(9, [0, 1])] (posM [0])) = 1 := by decide +kernel
theorem awF2e : foundE 2 (borrS [(9, [0, 1])] (posM [0])) = 0 := by decide +kernel
theorem awF3n : foundN 2 (borrS [(9, [0, 1]), (9, [0, 1])] (posM [0])) = 0 := by decide +kernel
theorem awF3e : foundE 2 (borrS [(9, [0, 1]), (9, [0, 1])] (posM [0])) = 6 := by decide +kernel
def orX : BX := .mk 5 0 [.mk 1 0 [], .mk 1 1 []]
theorem awPE : cpE 2 2 orX = 0 := by decide +kernel
theorem awPN : cpN 2 2 orX = 5 := by decide +kernel
theorem awPG : cpG 2 2 orX = [(9, [0, 3]), (1, [3]), (9, [1, 4]), (1, [4]), (12, [3, 4, 2]), (1, [4]), (9, [1, 4]), (1, [3]), (9, [0, 3]), (1, [2])] := by decide +kernel
theorem c21 : CircOk 2 [(9, [0, 1])] := .of (by decide)
theorem c31 : CircOk 3 [(12, [0, 1, 2])] := .of (by decide)
theorem c174 : CircOk 2 [(9, [0, 1]), (9, [0, 1])] := .of (by decide)
theorem allS {α : Type} {p : α → Prop} {a : α} {l : List α} (hl : ∀ t ∈ l, p t) (h : p a) : ∀ t ∈ l ++ [a], p t := fun t ht => by
 rcases List.mem_append.1 ht with ht | ht
 ·exact hl t ht
 ·rw [List.mem_singleton.1 ht]; exact h
theorem obl3 {P : Program} {l : List Oper} {log : List Ent} {m' m0 : Mem} {hs : List (Nat × Nat)} {e17 e36 e42 : Ent} {o17 o36 o42 : Oper} (hE : ∀ e ∈ log, Ext m0 e.m) (hE' : Ext m0 m')
  (h17 : log[17]? = some e17) (l17 : l[17]? = some o17) (h36 : log[36]? = some e36) (l36 : l[36]? = some o36) (h42 : log[42]? = some e42) (l42 : l[42]? = some o42)
  (f17 : ∀ M, Ext m0 M → aRead P M (evR e17.ρ) o17.op = some e17.v) (f36 : aPure P (evR e36.ρ) o36.op = some e36.v) (f42 : ∀ M, Ext m0 M → aRead P M (evR e42.ρ) o42.op = some e42.v)
  (hh : ∀ p ∈ hs, p.1 = 17 ∨ p.1 = 36 ∨ p.1 = 42) : obl P ⟨l⟩ log m' hs := by
 refine obl_ext hE hE' fun p hp e o he ho M hM => ?_
 rcases hh p hp with h | h | h <;> rw [h] at he ho
 ·rw [h17] at he; rw [l17] at ho; cases he; cases ho; exact .inl (f17 M hM)
 ·rw [h36] at he; rw [l36] at ho; cases he; cases ho; exact .inr f36
 ·rw [h42] at he; rw [l42] at ho; cases he; cases ho; exact .inl (f42 M hM)
theorem mem_nil {α : Type} {p : α → Prop} : ∀ t ∈ ([] : List α), p t := fun t h => by cases h
theorem mem_cons {α : Type} {p : α → Prop} {a : α} {l : List α} (h : p a) (hl : ∀ t ∈ l, p t) : ∀ t ∈ a :: l, p t := fun t ht => by
 rcases List.mem_cons.1 ht with rfl | ht
 ·exact h
 ·exact hl t ht
theorem orAt {m : Mem} {b : Nat} (hg : Mem.get m b = .cells true #[nv 1, nv 0, .slice none 0 0, nv 1, nv 1, .slice none 0 0]) : BAt (fun b => b < m.size) m 2 (.agg #[nv 5, nv 0, .slice (some ⟨b, 0, some 3⟩) 2 2]) orX := by
 refine ⟨_, rfl, .inr ⟨b, 0, 2, true, _, rfl, live hg, hg, fun i a hi => ?_⟩⟩
 have h1 := (List.getElem?_eq_some_iff.1 hi).1
 have hi' : i = 0 ∨ i = 1 := by have : orX.args.length = 2 := rfl; omega
 rcases hi' with rfl | rfl
 ·obtain rfl : BX.mk 1 0 [] = a := by injection hi
  exact ⟨by simp, _, rfl, .inl ⟨rfl, _, _, rfl⟩⟩
 ·obtain rfl : BX.mk 1 1 [] = a := by injection hi
  exact ⟨by simp, _, rfl, .inl ⟨rfl, _, _, rfl⟩⟩
def H14r : Nat → List (Nat × Nat) := fun id => if id = 8 then [(999999, 0), (17, 0), (17, 5), (17, 20), (17, 21), (17, 23), (17, 25), (17, 26), (17, 27), (17, 28), (17, 44), (17, 45), (36, 0), (36, 5), (36, 6), (36, 20), (36, 21), (36, 23), (36, 25), (36, 26), (36, 27), (36, 44), (36, 45), (42, 0), (42, 5), (42, 6), (42, 20), (42, 21), (42, 23), (42, 25), (42, 26), (42, 27), (42, 44), (42, 45)] else []
theorem okf14 : okF Tryd.prog H14r 14 218 = true := by kernel_rfl
set_option maxHeartbeats 8000000 in
theorem spec_awake {m : Mem} (hC : GlobC m) (hW : GlobW m) : ∃ v m', ACalls Tryd.prog 14 #[] m v m' ∧ (v = .bool true ∧ Ext m m') := by
  refine wpF (args := []) mixed okf14 (fn := Tryd.f14) rfl rfl rfl (by simp) ?_
  refine cSeq ?_
  refine cRegion ?_
  refine sAs (v := .bool _) rfl ?_
  refine sNil (kSeqN ?_)
  refine cSeq ?_
  refine cRegion ?_
  refine sRow [0, 1] rfl (by decide) (by kernel_rfl) fun q19 m19 o19 x19 => ?_
  obtain ⟨v20, m20, h20, rfl, x20⟩ := spec_lgate (m := m19) (k := 9) (q := q19) (n := [0, 1].length) (c := [0, 1].length)
  refine sCall2 rfl call69 rfl rfl h20 ?_
  refine sGates [(9, .slice q19 [0, 1].length [0, 1].length, [0, 1])] (mem_cons (o19.ext x20) (mem_nil)) rfl (by decide) (by kernel_rfl) fun q21 m21 cs21 o21 x21 => ?_
  replace o21 : OwnG 0 m21 (.slice q21 1 1) cs21 [(9, [0, 1])] := o21
  obtain ⟨v22, m22, h22, rfl, x22⟩ := spec_lof (m := m21) (k := 2) (q := q21) (n := 1) (c := 1)
  refine sCall2 rfl call68 rfl rfl h22 ?_
  refine sAllocB (bl := m22.size) rfl Z30 (by kernel_rfl) ?_
  refine sStNAB rfl S30 rfl rfl rfl rfl (by kernel_rfl) ?_
  have xs1 : Ext m22 (m22.push (.cells true #[nv 2, nv 0, .slice q21 1 1])) := .push _ _
  have gs1 : Mem.get (m22.push (.cells true #[nv 2, nv 0, .slice q21 1 1])) m22.size = .cells true #[nv 2, nv 0, .slice q21 1 1] := gP rfl
  generalize m22.push (.cells true #[nv 2, nv 0, .slice q21 1 1]) = ms1 at *
  refine sNil (kSeqN ?_)
  refine cSeq ?_
  refine cRegion ?_
  refine sLdAll A30 S30 rfl gs1 rfl ?_
  obtain ⟨v25, m25, h25, w25, rfl, o25, x25⟩ := spec_Table (hC.ext ((((x19.trans x20).trans x21).trans x22).trans xs1)) (o21.ext (x22.trans xs1)) c21
  rw [awT] at o25
  replace o25 := o25.mono (Nat.zero_le _)
  obtain ⟨q25, c25, rfl⟩ := o25.ints.lenN
  refine sCall1 rfl call41 rfl h25 ?_
  refine sMv (v := .tuple _) rfl ?_
  refine sP (v := .slice _ _ _) rfl ?_   -- extract ['t23', '0']
  refine sP (v := nv _) rfl ?_   -- extract ['t23', '1']
  refine sAs (v := .slice _ _ _) rfl ?_
  refine sAs (v := nv _) rfl ?_
  refine sNil (kSeqN ?_)
  refine cSeq ?_
  refine cRegion ?_
  refine sRow [0, 1, 2] rfl (by decide) (by kernel_rfl) fun q29 m29 o29 x29 => ?_
  obtain ⟨v30, m30, h30, rfl, x30⟩ := spec_lgate (m := m29) (k := 12) (q := q29) (n := [0, 1, 2].length) (c := [0, 1, 2].length)
  refine sCall2 rfl call69 rfl rfl h30 ?_
  refine sGates [(12, .slice q29 [0, 1, 2].length [0, 1, 2].length, [0, 1, 2])] (mem_cons (o29.ext x30) (mem_nil)) rfl (by decide) (by kernel_rfl) fun q31 m31 cs31 o31 x31 => ?_
  replace o31 : OwnG 0 m31 (.slice q31 1 1) cs31 [(12, [0, 1, 2])] := o31
  obtain ⟨v32, m32, h32, rfl, x32⟩ := spec_lof (m := m31) (k := 3) (q := q31) (n := 1) (c := 1)
  refine sCall2 rfl call68 rfl rfl h32 ?_
  obtain ⟨v33, m33, h33, rfl, x33⟩ := spec_Apply (hC.ext (((((((((x19.trans x20).trans x21).trans x22).trans xs1).trans x25).trans x29).trans x30).trans x31).trans x32)) (o31.ext x32) c31 (x := 3) (by decide)
  rw [awA] at h33
  refine sCall2 rfl call39 rfl rfl h33 ?_
  refine sMv (v := .tuple _) rfl ?_
  refine sP (v := nv _) rfl ?_   -- extract ['t28', '0']
  refine sP (v := nv _) rfl ?_   -- extract ['t28', '1']
  refine sAs (v := nv _) rfl ?_
  refine sAs (v := nv _) rfl ?_
  refine sNil (kSeqN ?_)
  refine cSeq ?_
  refine cRegion ?_
  refine sRow [0, 2, 1, 3] rfl (by decide) (by kernel_rfl) fun q37 m37 o37 x37 => ?_
  obtain ⟨v38, m38, h38, s38, cs38, rfl, o38, x38⟩ := spec_Circuit (p := (ofs [0, 2, 1, 3])) o37.ints (by decide)
  rw [awWE, awWN] at h38
  rw [awC] at o38
  replace o38 := o38.mono (Nat.zero_le _)
  obtain ⟨q38, c38, rfl⟩ := o38.1.len
  refine sCall1 rfl call18 rfl h38 ?_
  refine sMv (v := .tuple _) rfl ?_
  refine sP (v := .agg _) rfl ?_   -- extract ['t36', '0']
  refine sP (v := nv _) rfl ?_   -- extract ['t36', '1']
  refine sAllocB (bl := m38.size) rfl Z30 (by kernel_rfl) ?_
  refine sStNAB rfl S30 rfl rfl rfl rfl (by kernel_rfl) ?_
  have xs6 : Ext m38 (m38.push (.cells true #[nv 2, nv 0, .slice q38 3 c38])) := .push _ _
  have gs6 : Mem.get (m38.push (.cells true #[nv 2, nv 0, .slice q38 3 c38])) m38.size = .cells true #[nv 2, nv 0, .slice q38 3 c38] := gP rfl
  generalize m38.push (.cells true #[nv 2, nv 0, .slice q38 3 c38]) = ms6 at *
  refine sAs (v := nv _) rfl ?_
  refine sNil (kSeqN ?_)
  refine cSeq ?_
  refine cRegion ?_
  refine sRow [0, 2, 1, 3] rfl (by decide) (by kernel_rfl) fun q42 m42 o42 x42 => ?_
  obtain ⟨v43, m43, h43, w43, cs43, rfl, o43, x43⟩ := spec_Cycles (p := (ofs [0, 2, 1, 3])) o42.ints (by decide)
  rw [awWE] at h43
  rw [awY] at o43
  have r43 := o43.rows
  obtain ⟨b43, oo43, cp43, rr43, cd43, ee43, g43, xx43⟩ := r43.at (by decide)
  obtain ⟨s43, hs43, ha43⟩ := xx43 0 (ofs [1, 2]) rfl
  obtain ⟨q43, c43, rfl⟩ := ha43.lenN
  subst ee43
  refine sCall1 rfl call21 rfl h43 ?_
  refine sMv (v := .tuple _) rfl ?_
  refine sP (v := .slice _ _ _) rfl ?_   -- extract ['t41', '0']
  refine sP (v := nv _) rfl ?_   -- extract ['t41', '1']
  refine sAs (v := .slice _ _ _) rfl ?_
  refine sAs (v := nv _) rfl ?_
  refine sNil (kSeqN ?_)
  refine cSeq ?_
  refine cRegion ?_
  refine sRow [0, 2, 1, 3] rfl (by decide) (by kernel_rfl) fun q47 m47 o47 x47 => ?_
  obtain ⟨v48, m48, h48, rfl, x48⟩ := spec_Even (p := (ofs [0, 2, 1, 3])) o47.ints (by decide)
  rw [awEv, awWE] at h48
  refine sCall1 rfl call23 rfl h48 ?_
  refine sMv (v := .tuple _) rfl ?_
  refine sP (v := .bool _) rfl ?_   -- extract ['t46', '0']
  refine sP (v := nv _) rfl ?_   -- extract ['t46', '1']
  refine sAs (v := .bool _) rfl ?_
  refine sAs (v := nv _) rfl ?_
  refine sNil (kSeqN ?_)
  refine cSeq ?_
  refine cRegion ?_
  obtain ⟨v52, m52, h52, rfl, x52⟩ := spec_Count (m := m48) (w := 3) (g := 2)
  rw [awCn.1, awCn.2] at h52
  refine sCall2 rfl call35 rfl rfl h52 ?_
  refine sMv (v := .tuple _) rfl ?_
  refine sP (v := nv _) rfl ?_   -- extract ['t51', '0']
  refine sP (v := nv _) rfl ?_   -- extract ['t51', '1']
  refine sAs (v := nv _) rfl ?_
  refine sAs (v := nv _) rfl ?_
  refine sNil (kSeqN ?_)
  refine cSeq ?_   -- seq 8
  refine cSeq ?_
  refine cDrawH (hs := [(999999, 0), (17, 0), (17, 5), (17, 20), (17, 21), (17, 23), (17, 25), (17, 26), (17, 27), (17, 28), (17, 44), (17, 45), (36, 0), (36, 5), (36, 6), (36, 20), (36, 21), (36, 23), (36, 25), (36, 26), (36, 27), (36, 44), (36, 45), (42, 0), (42, 5), (42, 6), (42, 20), (42, 21), (42, 23), (42, 25), (42, 26), (42, 27), (42, 44), (42, 45)]) rfl (by decide) ?_
  refine lStepO (sMv (v := nv _) rfl (sNil fun e0 hm0 => ?_))
  refine lStepO (sBin (v := .bool false) (a := 0) (b := 0) rfl rfl (neqF rfl) (sNil fun e1 hm1 => ?_))
  refine lStepO (sMv (v := .bool false) rfl (sNil fun e2 hm2 => ?_))
  refine lG rfl rfl ?_
  refine lStepO (sMv (v := .slice _ _ _) rfl (sNil fun e3 hm3 => ?_))
  refine lG rfl rfl ?_
  refine lStepO (sRow [0, 3, 2, 1] rfl (by decide) (by kernel_rfl) fun q59 m59 o59 x59 => (sNil fun e4 hm4 => ?_))
  refine lG rfl rfl ?_
  have h60 := spec_Equal (o25.ints.ext (((((((((((((x29.trans x30).trans x31).trans x32).trans x33).trans x37).trans x38).trans xs6).trans x42).trans x43).trans x47).trans x48).trans x52).trans x59)) o59.ints (by decide)
  rw [decide_eq_true rfl] at h60
  refine lStepO (sCall2 rfl call28 rfl rfl h60 (sNil fun e5 hm5 => ?_))
  refine lG rfl rfl ?_
  refine lStepO (sP (v := .bool false) rfl (sNil fun e6 hm6 => ?_))
  refine lStepO (sP (v := .bool false) rfl (sNil fun e7 hm7 => ?_))
  refine lStepO (sMv (v := .bool false) rfl (sNil fun e8 hm8 => ?_))
  refine lG rfl rfl ?_
  refine lStepO (sMv (v := nv _) rfl (sNil fun e9 hm9 => ?_))
  refine lG rfl rfl ?_
  refine lStepO (sBin (v := .bool false) (a := 0) (b := 0) rfl rfl (neqF rfl) (sNil fun e10 hm10 => ?_))
  refine lStepO (sP (v := .bool false) rfl (sNil fun e11 hm11 => ?_))
  refine lStepO (sMv (v := .bool false) rfl (sNil fun e12 hm12 => ?_))
  refine lG rfl rfl ?_
  refine lStepO (sMv (v := nv _) rfl (sNil fun e13 hm13 => ?_))
  refine lG rfl rfl ?_
  refine lStepO (sBin (v := .bool false) (a := 7) (b := 7) rfl rfl (neqF rfl) (sNil fun e14 hm14 => ?_))
  refine lStepO (sP (v := .bool false) rfl (sNil fun e15 hm15 => ?_))
  refine lStepO (sMv (v := .bool false) rfl (sNil fun e16 hm16 => ?_))
  refine lG rfl rfl ?_
  refine lStepLdA A30 S30 rfl ((((((x42.trans x43).trans x47).trans x48).trans x52).trans x59).cells gs6) rfl fun e17 hm17 hv17 hr17 => ?_
  refine lG rfl rfl ?_
  refine lStepO (sMv (v := nv _) rfl (sNil fun e18 hm18 => ?_))
  refine lG rfl rfl ?_
  refine lStepO (sRow [1, 0] rfl (by decide) (by kernel_rfl) fun q74 m74 o74 x74 => (sNil fun e19 hm19 => ?_))
  refine lG rfl rfl ?_
  obtain ⟨v75, m75, h75, rfl, x75⟩ := spec_lgate (m := m74) (k := 9) (q := q74) (n := [1, 0].length) (c := [1, 0].length)
  refine lStepO (sCall2 rfl call69 rfl rfl h75 (sNil fun e20 hm20 => ?_))
  refine lG rfl rfl ?_
  refine lStepO (sRow [0, 1] rfl (by decide) (by kernel_rfl) fun q76 m76 o76 x76 => (sNil fun e21 hm21 => ?_))
  refine lG rfl rfl ?_
  obtain ⟨v77, m77, h77, rfl, x77⟩ := spec_lgate (m := m76) (k := 9) (q := q76) (n := [0, 1].length) (c := [0, 1].length)
  refine lStepO (sCall2 rfl call69 rfl rfl h77 (sNil fun e22 hm22 => ?_))
  refine lG rfl rfl ?_
  refine lStepO (sRow [1, 0] rfl (by decide) (by kernel_rfl) fun q78 m78 o78 x78 => (sNil fun e23 hm23 => ?_))
  refine lG rfl rfl ?_
  obtain ⟨v79, m79, h79, rfl, x79⟩ := spec_lgate (m := m78) (k := 9) (q := q78) (n := [1, 0].length) (c := [1, 0].length)
  refine lStepO (sCall2 rfl call69 rfl rfl h79 (sNil fun e24 hm24 => ?_))
  refine lG rfl rfl ?_
  refine lStepO (sGates [(9, .slice q74 [1, 0].length [1, 0].length, [1, 0]), (9, .slice q76 [0, 1].length [0, 1].length, [0, 1]), (9, .slice q78 [1, 0].length [1, 0].length, [1, 0])] (mem_cons (o74.ext ((((x75.trans x76).trans x77).trans x78).trans x79)) (mem_cons (o76.ext ((x77.trans x78).trans x79)) (mem_cons (o78.ext x79) (mem_nil)))) rfl (by decide) (by kernel_rfl) fun q80 m80 cs80 o80 x80 => (sNil fun e25 hm25 => ?_))
  replace o80 : OwnG 0 m80 (.slice q80 3 3) cs80 [(9, [1, 0]), (9, [0, 1]), (9, [1, 0])] := o80
  refine lG rfl rfl ?_
  obtain ⟨v81, m81, h81, rfl, x81⟩ := spec_lof (m := m80) (k := 2) (q := q80) (n := 3) (c := 3)
  refine lStepO (sCall2 rfl call68 rfl rfl h81 (sNil fun e26 hm26 => ?_))
  refine lG rfl rfl ?_
  obtain ⟨v82, m82, h82, rfl, x82⟩ := spec_known (W := 2) (B := 0) (W' := 2) (B' := 0) (er := 0) (o38.gates.ext ((((((((((((((xs6.trans x42).trans x43).trans x47).trans x48).trans x52).trans x59).trans x74).trans x75).trans x76).trans x77).trans x78).trans x79).trans x80).trans x81)) (o80.gates.ext x81) (by decide) (by decide)
  rw [show (decide ((0 : Nat) = 0) && decide (2 = 2 ∧ 0 = 0 ∧ [(9, [1, 0]), (9, [0, 1]), (9, [1, 0])].map gvM = [(9, [1, 0]), (9, [0, 1]), (9, [1, 0])].map gvM)) = true by simp] at h82
  refine lStepO (sCall3 rfl call70 rfl rfl rfl h82 (sNil fun e27 hm27 => ?_))
  refine lG rfl rfl ?_
  refine lStepO (sP (v := .bool false) rfl (sNil fun e28 hm28 => ?_))
  refine lStepO (sP (v := .bool false) rfl (sNil fun e29 hm29 => ?_))
  refine lStepO (sMv (v := .bool false) rfl (sNil fun e30 hm30 => ?_))
  refine lG rfl rfl ?_
  refine lStepO (sMv (v := nv _) rfl (sNil fun e31 hm31 => ?_))
  refine lG rfl rfl ?_
  refine lStepO (sBin (v := .bool false) (a := 0) (b := 0) rfl rfl (neqF rfl) (sNil fun e32 hm32 => ?_))
  refine lStepO (sP (v := .bool false) rfl (sNil fun e33 hm33 => ?_))
  refine lStepO (sMv (v := .bool false) rfl (sNil fun e34 hm34 => ?_))
  refine lG rfl rfl ?_
  refine lStepO (sMv (v := .slice _ _ _) rfl (sNil fun e35 hm35 => ?_))
  refine lG rfl rfl ?_
  refine lStepLen T34 rfl fun e36 hm36 hv36 hr36 => ?_
  refine lG rfl rfl ?_
  refine lStepO (sBin (v := .bool false) (a := 1) (b := 1) rfl rfl (neqF rfl) (sNil fun e37 hm37 => ?_))
  refine lStepO (sP (v := .bool false) rfl (sNil fun e38 hm38 => ?_))
  refine lStepO (sMv (v := .bool false) rfl (sNil fun e39 hm39 => ?_))
  refine lG rfl rfl ?_
  refine lStepO (sMv (v := .slice _ _ _) rfl (sNil fun e40 hm40 => ?_))
  refine lG rfl rfl ?_
  refine lStepO (sIx T34 S22 rfl rfl (show 0 < (ofs2 [[1, 2]]).length by decide) (sNil fun e41 hm41 => ?_))
  refine lG rfl rfl ?_
  refine lStepLd (v := .slice q43 [1, 2].length c43) A22 rfl (((((((((((((x47.trans x48).trans x52).trans x59).trans x74).trans x75).trans x76).trans x77).trans x78).trans x79).trans x80).trans x81).trans x82).cells g43) hs43 fun e42 hm42 hv42 hr42 => ?_
  refine lG rfl rfl ?_
  refine lStepO (sRow [1, 2] rfl (by decide) (by kernel_rfl) fun q98 m98 o98 x98 => (sNil fun e43 hm43 => ?_))
  refine lG rfl rfl ?_
  have h99 := spec_Equal (ha43.ext (((((((((((((x47.trans x48).trans x52).trans x59).trans x74).trans x75).trans x76).trans x77).trans x78).trans x79).trans x80).trans x81).trans x82).trans x98)) o98.ints (by decide)
  rw [decide_eq_true rfl] at h99
  refine lStepO (sCall2 rfl call28 rfl rfl h99 (sNil fun e44 hm44 => ?_))
  refine lG rfl rfl ?_
  refine lStepO (sP (v := .bool false) rfl (sNil fun e45 hm45 => ?_))
  refine lStepO (sP (v := .bool false) rfl (sNil fun e46 hm46 => ?_))
  refine lStepO (sMv (v := .bool false) rfl (sNil fun e47 hm47 => ?_))
  refine lG rfl rfl ?_
  refine lStepO (sMv (v := nv _) rfl (sNil fun e48 hm48 => ?_))
  refine lG rfl rfl ?_
  refine lStepO (sBin (v := .bool false) (a := 0) (b := 0) rfl rfl (neqF rfl) (sNil fun e49 hm49 => ?_))
  refine lStepO (sP (v := .bool false) rfl (sNil fun e50 hm50 => ?_))
  refine lStepO (sMv (v := .bool false) rfl (sNil fun e51 hm51 => ?_))
  refine lG rfl rfl ?_
  refine lStepO (sMv (v := .bool false) rfl (sNil fun e52 hm52 => ?_))
  refine lStepO (sP (v := .bool false) rfl (sNil fun e53 hm53 => ?_))
  refine lStepO (sMv (v := .bool false) rfl (sNil fun e54 hm54 => ?_))
  refine lG rfl rfl ?_
  refine lStepO (sMv (v := nv _) rfl (sNil fun e55 hm55 => ?_))
  refine lG rfl rfl ?_
  refine lStepO (sBin (v := .bool false) (a := 0) (b := 0) rfl rfl (neqF rfl) (sNil fun e56 hm56 => ?_))
  refine lStepO (sP (v := .bool false) rfl (sNil fun e57 hm57 => ?_))
  refine lStepO (sMv (v := .bool false) rfl (sNil fun e58 hm58 => ?_))
  refine lG rfl rfl ?_
  refine lStepO (sMv (v := nv _) rfl (sNil fun e59 hm59 => ?_))
  refine lG rfl rfl ?_
  refine lStepO (sBin (v := .bool false) (a := 102) (b := 102) rfl rfl (neqF rfl) (sNil fun e60 hm60 => ?_))
  refine lStepO (sP (v := .bool false) rfl (sNil fun e61 hm61 => ?_))
  refine ⟨?_, (kSeqN ?_)⟩
  ·
    refine obl_fl (by simp) ?_
    refine obl3 (m0 := m52) (e17 := e17) (e36 := e36) (e42 := e42) ?_ ((((((((((x59.trans x74).trans x75).trans x76).trans x77).trans x78).trans x79).trans x80).trans x81).trans x82).trans x98) (by kernel_rfl) rfl (by kernel_rfl) rfl (by kernel_rfl) rfl (fun M hM => (hr17 M _ (hM.cells (((((x42.trans x43).trans x47).trans x48).trans x52).cells gs6))).trans (congrArg some hv17.symm)) (by rw [hv36]; exact hr36) (fun M hM => (hr42 M _ _ (hM.cells (((x47.trans x48).trans x52).cells g43)) hs43).trans (congrArg some hv42.symm)) (by decide)
    refine allS ?_ (by rw [hm61]; exact ((((((((((x59.trans x74).trans x75).trans x76).trans x77).trans x78).trans x79).trans x80).trans x81).trans x82).trans x98))
    refine allS ?_ (by rw [hm60]; exact ((((((((((x59.trans x74).trans x75).trans x76).trans x77).trans x78).trans x79).trans x80).trans x81).trans x82).trans x98))
    refine allS ?_ (by rw [hm59]; exact ((((((((((x59.trans x74).trans x75).trans x76).trans x77).trans x78).trans x79).trans x80).trans x81).trans x82).trans x98))
    refine allS ?_ (by rw [hm58]; exact ((((((((((x59.trans x74).trans x75).trans x76).trans x77).trans x78).trans x79).trans x80).trans x81).trans x82).trans x98))
    refine allS ?_ (by rw [hm57]; exact ((((((((((x59.trans x74).trans x75).trans x76).trans x77).trans x78).trans x79).trans x80).trans x81).trans x82).trans x98))
    refine allS ?_ (by rw [hm56]; exact ((((((((((x59.trans x74).trans x75).trans x76).trans x77).trans x78).trans x79).trans x80).trans x81).trans x82).trans x98))
    refine allS ?_ (by rw [hm55]; exact ((((((((((x59.trans x74).trans x75).trans x76).trans x77).trans x78).trans x79).trans x80).trans x81).trans x82).trans x98))
    refine allS ?_ (by rw [hm54]; exact ((((((((((x59.trans x74).trans x75).trans x76).trans x77).trans x78).trans x79).trans x80).trans x81).trans x82).trans x98))
    refine allS ?_ (by rw [hm53]; exact ((((((((((x59.trans x74).trans x75).trans x76).trans x77).trans x78).trans x79).trans x80).trans x81).trans x82).trans x98))
    refine allS ?_ (by rw [hm52]; exact ((((((((((x59.trans x74).trans x75).trans x76).trans x77).trans x78).trans x79).trans x80).trans x81).trans x82).trans x98))
    refine allS ?_ (by rw [hm51]; exact ((((((((((x59.trans x74).trans x75).trans x76).trans x77).trans x78).trans x79).trans x80).trans x81).trans x82).trans x98))
    refine allS ?_ (by rw [hm50]; exact ((((((((((x59.trans x74).trans x75).trans x76).trans x77).trans x78).trans x79).trans x80).trans x81).trans x82).trans x98))
    refine allS ?_ (by rw [hm49]; exact ((((((((((x59.trans x74).trans x75).trans x76).trans x77).trans x78).trans x79).trans x80).trans x81).trans x82).trans x98))
    refine allS ?_ (by rw [hm48]; exact ((((((((((x59.trans x74).trans x75).trans x76).trans x77).trans x78).trans x79).trans x80).trans x81).trans x82).trans x98))
    refine allS ?_ (by rw [hm47]; exact ((((((((((x59.trans x74).trans x75).trans x76).trans x77).trans x78).trans x79).trans x80).trans x81).trans x82).trans x98))
    refine allS ?_ (by rw [hm46]; exact ((((((((((x59.trans x74).trans x75).trans x76).trans x77).trans x78).trans x79).trans x80).trans x81).trans x82).trans x98))
    refine allS ?_ (by rw [hm45]; exact ((((((((((x59.trans x74).trans x75).trans x76).trans x77).trans x78).trans x79).trans x80).trans x81).trans x82).trans x98))
    refine allS ?_ (by rw [hm44]; exact ((((((((((x59.trans x74).trans x75).trans x76).trans x77).trans x78).trans x79).trans x80).trans x81).trans x82).trans x98))
    refine allS ?_ (by rw [hm43]; exact (((((((((x59.trans x74).trans x75).trans x76).trans x77).trans x78).trans x79).trans x80).trans x81).trans x82))
    refine allS ?_ (by rw [hm42]; exact (((((((((x59.trans x74).trans x75).trans x76).trans x77).trans x78).trans x79).trans x80).trans x81).trans x82))
    refine allS ?_ (by rw [hm41]; exact (((((((((x59.trans x74).trans x75).trans x76).trans x77).trans x78).trans x79).trans x80).trans x81).trans x82))
    refine allS ?_ (by rw [hm40]; exact (((((((((x59.trans x74).trans x75).trans x76).trans x77).trans x78).trans x79).trans x80).trans x81).trans x82))
    refine allS ?_ (by rw [hm39]; exact (((((((((x59.trans x74).trans x75).trans x76).trans x77).trans x78).trans x79).trans x80).trans x81).trans x82))
    refine allS ?_ (by rw [hm38]; exact (((((((((x59.trans x74).trans x75).trans x76).trans x77).trans x78).trans x79).trans x80).trans x81).trans x82))
    refine allS ?_ (by rw [hm37]; exact (((((((((x59.trans x74).trans x75).trans x76).trans x77).trans x78).trans x79).trans x80).trans x81).trans x82))
    refine allS ?_ (by rw [hm36]; exact (((((((((x59.trans x74).trans x75).trans x76).trans x77).trans x78).trans x79).trans x80).trans x81).trans x82))
    refine allS ?_ (by rw [hm35]; exact (((((((((x59.trans x74).trans x75).trans x76).trans x77).trans x78).trans x79).trans x80).trans x81).trans x82))
    refine allS ?_ (by rw [hm34]; exact (((((((((x59.trans x74).trans x75).trans x76).trans x77).trans x78).trans x79).trans x80).trans x81).trans x82))
    refine allS ?_ (by rw [hm33]; exact (((((((((x59.trans x74).trans x75).trans x76).trans x77).trans x78).trans x79).trans x80).trans x81).trans x82))
    refine allS ?_ (by rw [hm32]; exact (((((((((x59.trans x74).trans x75).trans x76).trans x77).trans x78).trans x79).trans x80).trans x81).trans x82))
    refine allS ?_ (by rw [hm31]; exact (((((((((x59.trans x74).trans x75).trans x76).trans x77).trans x78).trans x79).trans x80).trans x81).trans x82))
    refine allS ?_ (by rw [hm30]; exact (((((((((x59.trans x74).trans x75).trans x76).trans x77).trans x78).trans x79).trans x80).trans x81).trans x82))
    refine allS ?_ (by rw [hm29]; exact (((((((((x59.trans x74).trans x75).trans x76).trans x77).trans x78).trans x79).trans x80).trans x81).trans x82))
    refine allS ?_ (by rw [hm28]; exact (((((((((x59.trans x74).trans x75).trans x76).trans x77).trans x78).trans x79).trans x80).trans x81).trans x82))
    refine allS ?_ (by rw [hm27]; exact ((((((((x59.trans x74).trans x75).trans x76).trans x77).trans x78).trans x79).trans x80).trans x81))
    refine allS ?_ (by rw [hm26]; exact (((((((x59.trans x74).trans x75).trans x76).trans x77).trans x78).trans x79).trans x80))
    refine allS ?_ (by rw [hm25]; exact ((((((x59.trans x74).trans x75).trans x76).trans x77).trans x78).trans x79))
    refine allS ?_ (by rw [hm24]; exact (((((x59.trans x74).trans x75).trans x76).trans x77).trans x78))
    refine allS ?_ (by rw [hm23]; exact ((((x59.trans x74).trans x75).trans x76).trans x77))
    refine allS ?_ (by rw [hm22]; exact (((x59.trans x74).trans x75).trans x76))
    refine allS ?_ (by rw [hm21]; exact ((x59.trans x74).trans x75))
    refine allS ?_ (by rw [hm20]; exact (x59.trans x74))
    refine allS ?_ (by rw [hm19]; exact x59)
    refine allS ?_ (by rw [hm18]; exact x59)
    refine allS ?_ (by rw [hm17]; exact x59)
    refine allS ?_ (by rw [hm16]; exact x59)
    refine allS ?_ (by rw [hm15]; exact x59)
    refine allS ?_ (by rw [hm14]; exact x59)
    refine allS ?_ (by rw [hm13]; exact x59)
    refine allS ?_ (by rw [hm12]; exact x59)
    refine allS ?_ (by rw [hm11]; exact x59)
    refine allS ?_ (by rw [hm10]; exact x59)
    refine allS ?_ (by rw [hm9]; exact x59)
    refine allS ?_ (by rw [hm8]; exact x59)
    refine allS ?_ (by rw [hm7]; exact x59)
    refine allS ?_ (by rw [hm6]; exact x59)
    refine allS ?_ (by rw [hm5]; exact x59)
    refine allS ?_ (by rw [hm4]; exact .refl _)
    refine allS ?_ (by rw [hm3]; exact .refl _)
    refine allS ?_ (by rw [hm2]; exact .refl _)
    refine allS ?_ (by rw [hm1]; exact .refl _)
    refine allS ?_ (by rw [hm0]; exact .refl _)
    exact fun e h => by cases h
  refine cCondF rfl ?_
  refine cSkip (kSeqN ?_)
  refine cSeq ?_
  refine cRegion ?_
  refine sRow [0, 2, 1, 3] rfl (by decide) (by kernel_rfl) fun q118 m118 o118 x118 => ?_
  obtain ⟨v119, m119, h119, s119, cs119, rfl, o119, x119⟩ := spec_Shortest (p := (ofs [0, 2, 1, 3])) (most := 2) o118.ints (by decide)
  rw [awS2, awS2n] at h119
  obtain ⟨q119, c119, rfl⟩ := o119.1.len
  refine sCall2 rfl call29 rfl rfl h119 ?_
  refine sMv (v := .tuple _) rfl ?_
  refine sP (v := .agg _) rfl ?_   -- extract ['t117', '0']
  refine sP (v := nv _) rfl ?_   -- extract ['t117', '1']
  refine sAs (v := nv _) rfl ?_
  refine sNil (kSeqN ?_)
  refine cSeq ?_
  refine cRegion ?_
  refine sRow [0, 2, 1, 3] rfl (by decide) (by kernel_rfl) fun q123 m123 o123 x123 => ?_
  obtain ⟨v124, m124, h124, s124, cs124, rfl, o124, x124⟩ := spec_Shortest (p := (ofs [0, 2, 1, 3])) (most := 3) o123.ints (by decide)
  rw [awS3, awS3n] at h124
  obtain ⟨q124, c124, rfl⟩ := o124.1.len
  rw [awS3l] at h124
  refine sCall2 rfl call29 rfl rfl h124 ?_
  refine sMv (v := .tuple _) rfl ?_
  refine sP (v := .agg _) rfl ?_   -- extract ['t122', '0']
  refine sP (v := nv _) rfl ?_   -- extract ['t122', '1']
  refine sAllocB (bl := m124.size) rfl Z30 (by kernel_rfl) ?_
  refine sStNAB rfl S30 rfl rfl rfl rfl (by kernel_rfl) ?_
  have xs14 : Ext m124 (m124.push (.cells true #[nv 2, nv 0, .slice q124 3 c124])) := .push _ _
  have gs14 : Mem.get (m124.push (.cells true #[nv 2, nv 0, .slice q124 3 c124])) m124.size = .cells true #[nv 2, nv 0, .slice q124 3 c124] := gP rfl
  generalize m124.push (.cells true #[nv 2, nv 0, .slice q124 3 c124]) = ms14 at *
  refine sAs (v := nv _) rfl ?_
  refine sNil (kSeqN ?_)
  refine cSeq ?_
  refine cRegion ?_
  obtain ⟨v128, m128, h128, rfl, x128⟩ := spec_lvar (m := ms14) (k := 0)
  refine sCall1 rfl call72 rfl h128 ?_
  obtain ⟨v129, m129, h129, rfl, x129⟩ := spec_lvar (m := m128) (k := 1)
  refine sCall1 rfl call72 rfl h129 ?_
  refine sBuildS (c := #[nv 1, nv 0, .slice none 0 0, nv 1, nv 1, .slice none 0 0]) T64 S66 Z66 (by decide) (by decide) (by decide) (by kernel_rfl) (by kernel_rfl) rfl ?_
  have x130 : Ext m129 (m129.push (.cells true #[nv 1, nv 0, .slice none 0 0, nv 1, nv 1, .slice none 0 0])) := .push _ _
  have g130 : Mem.get (m129.push (.cells true #[nv 1, nv 0, .slice none 0 0, nv 1, nv 1, .slice none 0 0])) m129.size = .cells true #[nv 1, nv 0, .slice none 0 0, nv 1, nv 1, .slice none 0 0] := gP rfl
  generalize m129.push (.cells true #[nv 1, nv 0, .slice none 0 0, nv 1, nv 1, .slice none 0 0]) = m130 at *
  obtain ⟨v131, m131, h131, rfl, x131⟩ := spec_lmade (m := m130) (k := 5) (q := some ⟨m129.size, 0, some 3⟩) (n := 2) (c := 2)
  refine sCall2 rfl call71 rfl rfl h131 ?_
  obtain ⟨v132, m132, h132, s132, cs132, rfl, o132, x132⟩ := spec_Compile 2 2 (hW.ext ((((((((((((((((((((((((((((((((((((((x19.trans x20).trans x21).trans x22).trans xs1).trans x25).trans x29).trans x30).trans x31).trans x32).trans x33).trans x37).trans x38).trans xs6).trans x42).trans x43).trans x47).trans x48).trans x52).trans x59).trans x74).trans x75).trans x76).trans x77).trans x78).trans x79).trans x80).trans x81).trans x82).trans x98).trans x118).trans x119).trans x123).trans x124).trans xs14).trans x128).trans x129).trans x130).trans x131)) (orAt (x131.cells g130)) (by decide)
  rw [awPE, awPN] at h132
  rw [awPG] at o132
  replace o132 := o132.mono (Nat.zero_le _)
  obtain ⟨q132, c132, rfl⟩ := o132.1.len
  refine sCall2 rfl call55 rfl rfl h132 ?_
  refine sMv (v := .tuple _) rfl ?_
  refine sP (v := .agg _) rfl ?_   -- extract ['t127', '0']
  refine sP (v := nv _) rfl ?_   -- extract ['t127', '1']
  refine sAllocB (bl := m132.size) rfl Z30 (by kernel_rfl) ?_
  refine sStNAB rfl S30 rfl rfl rfl rfl (by kernel_rfl) ?_
  have xs15 : Ext m132 (m132.push (.cells true #[nv 5, nv 0, .slice q132 10 c132])) := .push _ _
  have gs15 : Mem.get (m132.push (.cells true #[nv 5, nv 0, .slice q132 10 c132])) m132.size = .cells true #[nv 5, nv 0, .slice q132 10 c132] := gP rfl
  generalize m132.push (.cells true #[nv 5, nv 0, .slice q132 10 c132]) = ms15 at *
  refine sAs (v := nv _) rfl ?_
  refine sNil (kSeqN ?_)
  refine cSeq ?_
  refine cRegion ?_
  refine sRow [0, 3] rfl (by decide) (by kernel_rfl) fun q135 m135 o135 x135 => ?_
  obtain ⟨v136, m136, h136, rfl, x136⟩ := spec_lgate (m := m135) (k := 9) (q := q135) (n := [0, 3].length) (c := [0, 3].length)
  refine sCall2 rfl call69 rfl rfl h136 ?_
  refine sRow [3] rfl (by decide) (by kernel_rfl) fun q137 m137 o137 x137 => ?_
  obtain ⟨v138, m138, h138, rfl, x138⟩ := spec_lgate (m := m137) (k := 1) (q := q137) (n := [3].length) (c := [3].length)
  refine sCall2 rfl call69 rfl rfl h138 ?_
  refine sRow [1, 4] rfl (by decide) (by kernel_rfl) fun q139 m139 o139 x139 => ?_
  obtain ⟨v140, m140, h140, rfl, x140⟩ := spec_lgate (m := m139) (k := 9) (q := q139) (n := [1, 4].length) (c := [1, 4].length)
  refine sCall2 rfl call69 rfl rfl h140 ?_
  refine sRow [4] rfl (by decide) (by kernel_rfl) fun q141 m141 o141 x141 => ?_
  obtain ⟨v142, m142, h142, rfl, x142⟩ := spec_lgate (m := m141) (k := 1) (q := q141) (n := [4].length) (c := [4].length)
  refine sCall2 rfl call69 rfl rfl h142 ?_
  refine sRow [3, 4, 2] rfl (by decide) (by kernel_rfl) fun q143 m143 o143 x143 => ?_
  obtain ⟨v144, m144, h144, rfl, x144⟩ := spec_lgate (m := m143) (k := 12) (q := q143) (n := [3, 4, 2].length) (c := [3, 4, 2].length)
  refine sCall2 rfl call69 rfl rfl h144 ?_
  refine sRow [4] rfl (by decide) (by kernel_rfl) fun q145 m145 o145 x145 => ?_
  obtain ⟨v146, m146, h146, rfl, x146⟩ := spec_lgate (m := m145) (k := 1) (q := q145) (n := [4].length) (c := [4].length)
  refine sCall2 rfl call69 rfl rfl h146 ?_
  refine sRow [1, 4] rfl (by decide) (by kernel_rfl) fun q147 m147 o147 x147 => ?_
  obtain ⟨v148, m148, h148, rfl, x148⟩ := spec_lgate (m := m147) (k := 9) (q := q147) (n := [1, 4].length) (c := [1, 4].length)
  refine sCall2 rfl call69 rfl rfl h148 ?_
  refine sRow [3] rfl (by decide) (by kernel_rfl) fun q149 m149 o149 x149 => ?_
  obtain ⟨v150, m150, h150, rfl, x150⟩ := spec_lgate (m := m149) (k := 1) (q := q149) (n := [3].length) (c := [3].length)
  refine sCall2 rfl call69 rfl rfl h150 ?_
  refine sRow [0, 3] rfl (by decide) (by kernel_rfl) fun q151 m151 o151 x151 => ?_
  obtain ⟨v152, m152, h152, rfl, x152⟩ := spec_lgate (m := m151) (k := 9) (q := q151) (n := [0, 3].length) (c := [0, 3].length)
  refine sCall2 rfl call69 rfl rfl h152 ?_
  refine sRow [2] rfl (by decide) (by kernel_rfl) fun q153 m153 o153 x153 => ?_
  obtain ⟨v154, m154, h154, rfl, x154⟩ := spec_lgate (m := m153) (k := 1) (q := q153) (n := [2].length) (c := [2].length)
  refine sCall2 rfl call69 rfl rfl h154 ?_
  refine sGates [(9, .slice q135 [0, 3].length [0, 3].length, [0, 3]), (1, .slice q137 [3].length [3].length, [3]), (9, .slice q139 [1, 4].length [1, 4].length, [1, 4]), (1, .slice q141 [4].length [4].length, [4]), (12, .slice q143 [3, 4, 2].length [3, 4, 2].length, [3, 4, 2]), (1, .slice q145 [4].length [4].length, [4]), (9, .slice q147 [1, 4].length [1, 4].length, [1, 4]), (1, .slice q149 [3].length [3].length, [3]), (9, .slice q151 [0, 3].length [0, 3].length, [0, 3]), (1, .slice q153 [2].length [2].length, [2])] (mem_cons (o135.ext ((((((((((((((((((x136.trans x137).trans x138).trans x139).trans x140).trans x141).trans x142).trans x143).trans x144).trans x145).trans x146).trans x147).trans x148).trans x149).trans x150).trans x151).trans x152).trans x153).trans x154)) (mem_cons (o137.ext ((((((((((((((((x138.trans x139).trans x140).trans x141).trans x142).trans x143).trans x144).trans x145).trans x146).trans x147).trans x148).trans x149).trans x150).trans x151).trans x152).trans x153).trans x154)) (mem_cons (o139.ext ((((((((((((((x140.trans x141).trans x142).trans x143).trans x144).trans x145).trans x146).trans x147).trans x148).trans x149).trans x150).trans x151).trans x152).trans x153).trans x154)) (mem_cons (o141.ext ((((((((((((x142.trans x143).trans x144).trans x145).trans x146).trans x147).trans x148).trans x149).trans x150).trans x151).trans x152).trans x153).trans x154)) (mem_cons (o143.ext ((((((((((x144.trans x145).trans x146).trans x147).trans x148).trans x149).trans x150).trans x151).trans x152).trans x153).trans x154)) (mem_cons (o145.ext ((((((((x146.trans x147).trans x148).trans x149).trans x150).trans x151).trans x152).trans x153).trans x154)) (mem_cons (o147.ext ((((((x148.trans x149).trans x150).trans x151).trans x152).trans x153).trans x154)) (mem_cons (o149.ext ((((x150.trans x151).trans x152).trans x153).trans x154)) (mem_cons (o151.ext ((x152.trans x153).trans x154)) (mem_cons (o153.ext x154) (mem_nil))))))))))) rfl (by decide) (by kernel_rfl) fun q155 m155 cs155 o155 x155 => ?_
  replace o155 : OwnG 0 m155 (.slice q155 10 10) cs155 [(9, [0, 3]), (1, [3]), (9, [1, 4]), (1, [4]), (12, [3, 4, 2]), (1, [4]), (9, [1, 4]), (1, [3]), (9, [0, 3]), (1, [2])] := o155
  obtain ⟨v156, m156, h156, rfl, x156⟩ := spec_lof (m := m155) (k := 5) (q := q155) (n := 10) (c := 10)
  refine sCall2 rfl call68 rfl rfl h156 ?_
  refine sAllocB (bl := m156.size) rfl Z30 (by kernel_rfl) ?_
  refine sStNAB rfl S30 rfl rfl rfl rfl (by kernel_rfl) ?_
  have xs16 : Ext m156 (m156.push (.cells true #[nv 5, nv 0, .slice q155 10 10])) := .push _ _
  have gs16 : Mem.get (m156.push (.cells true #[nv 5, nv 0, .slice q155 10 10])) m156.size = .cells true #[nv 5, nv 0, .slice q155 10 10] := gP rfl
  generalize m156.push (.cells true #[nv 5, nv 0, .slice q155 10 10]) = ms16 at *
  refine sNil (kSeqN ?_)
  refine cSeq ?_
  refine cRegion ?_
  refine sLdAll A30 S30 rfl (((((((((((((((((((((((((((((((((((((((((((((((((((((((((((x25.trans x29).trans x30).trans x31).trans x32).trans x33).trans x37).trans x38).trans xs6).trans x42).trans x43).trans x47).trans x48).trans x52).trans x59).trans x74).trans x75).trans x76).trans x77).trans x78).trans x79).trans x80).trans x81).trans x82).trans x98).trans x118).trans x119).trans x123).trans x124).trans xs14).trans x128).trans x129).trans x130).trans x131).trans x132).trans xs15).trans x135).trans x136).trans x137).trans x138).trans x139).trans x140).trans x141).trans x142).trans x143).trans x144).trans x145).trans x146).trans x147).trans x148).trans x149).trans x150).trans x151).trans x152).trans x153).trans x154).trans x155).trans x156).trans xs16).cells gs1) rfl ?_
  refine sRow [1] rfl (by decide) (by kernel_rfl) fun q159 m159 o159 x159 => ?_
  obtain ⟨v160, m160, h160, rfl, x160⟩ := spec_CleanX (hC.ext ((((((((((((((((((((((((((((((((((((((((((((((((((((((((((((((((x19.trans x20).trans x21).trans x22).trans xs1).trans x25).trans x29).trans x30).trans x31).trans x32).trans x33).trans x37).trans x38).trans xs6).trans x42).trans x43).trans x47).trans x48).trans x52).trans x59).trans x74).trans x75).trans x76).trans x77).trans x78).trans x79).trans x80).trans x81).trans x82).trans x98).trans x118).trans x119).trans x123).trans x124).trans xs14).trans x128).trans x129).trans x130).trans x131).trans x132).trans xs15).trans x135).trans x136).trans x137).trans x138).trans x139).trans x140).trans x141).trans x142).trans x143).trans x144).trans x145).trans x146).trans x147).trans x148).trans x149).trans x150).trans x151).trans x152).trans x153).trans x154).trans x155).trans x156).trans xs16).trans x159)) (o21.ext (((((((((((((((((((((((((((((((((((((((((((((((((((((((((((((x22.trans xs1).trans x25).trans x29).trans x30).trans x31).trans x32).trans x33).trans x37).trans x38).trans xs6).trans x42).trans x43).trans x47).trans x48).trans x52).trans x59).trans x74).trans x75).trans x76).trans x77).trans x78).trans x79).trans x80).trans x81).trans x82).trans x98).trans x118).trans x119).trans x123).trans x124).trans xs14).trans x128).trans x129).trans x130).trans x131).trans x132).trans xs15).trans x135).trans x136).trans x137).trans x138).trans x139).trans x140).trans x141).trans x142).trans x143).trans x144).trans x145).trans x146).trans x147).trans x148).trans x149).trans x150).trans x151).trans x152).trans x153).trans x154).trans x155).trans x156).trans xs16).trans x159)) c21 o159.ints (by decide) (by decide)
  rw [awF1n, awF1e] at h160
  refine sCall2 rfl call46 rfl rfl h160 ?_
  refine sMv (v := .tuple _) rfl ?_
  refine sP (v := nv _) rfl ?_   -- extract ['t157', '0']
  refine sP (v := nv _) rfl ?_   -- extract ['t157', '1']
  refine sAs (v := nv _) rfl ?_
  refine sAs (v := nv _) rfl ?_
  refine sNil (kSeqN ?_)
  refine cSeq ?_
  refine cRegion ?_
  refine sLdAll A30 S30 rfl (((((((((((((((((((((((((((((((((((((((((((((((((((((((((((((x25.trans x29).trans x30).trans x31).trans x32).trans x33).trans x37).trans x38).trans xs6).trans x42).trans x43).trans x47).trans x48).trans x52).trans x59).trans x74).trans x75).trans x76).trans x77).trans x78).trans x79).trans x80).trans x81).trans x82).trans x98).trans x118).trans x119).trans x123).trans x124).trans xs14).trans x128).trans x129).trans x130).trans x131).trans x132).trans xs15).trans x135).trans x136).trans x137).trans x138).trans x139).trans x140).trans x141).trans x142).trans x143).trans x144).trans x145).trans x146).trans x147).trans x148).trans x149).trans x150).trans x151).trans x152).trans x153).trans x154).trans x155).trans x156).trans xs16).trans x159).trans x160).cells gs1) rfl ?_
  refine sRow [0] rfl (by decide) (by kernel_rfl) fun q165 m165 o165 x165 => ?_
  obtain ⟨v166, m166, h166, rfl, x166⟩ := spec_BorrX (hC.ext ((((((((((((((((((((((((((((((((((((((((((((((((((((((((((((((((((x19.trans x20).trans x21).trans x22).trans xs1).trans x25).trans x29).trans x30).trans x31).trans x32).trans x33).trans x37).trans x38).trans xs6).trans x42).trans x43).trans x47).trans x48).trans x52).trans x59).trans x74).trans x75).trans x76).trans x77).trans x78).trans x79).trans x80).trans x81).trans x82).trans x98).trans x118).trans x119).trans x123).trans x124).trans xs14).trans x128).trans x129).trans x130).trans x131).trans x132).trans xs15).trans x135).trans x136).trans x137).trans x138).trans x139).trans x140).trans x141).trans x142).trans x143).trans x144).trans x145).trans x146).trans x147).trans x148).trans x149).trans x150).trans x151).trans x152).trans x153).trans x154).trans x155).trans x156).trans xs16).trans x159).trans x160).trans x165)) (o21.ext (((((((((((((((((((((((((((((((((((((((((((((((((((((((((((((((x22.trans xs1).trans x25).trans x29).trans x30).trans x31).trans x32).trans x33).trans x37).trans x38).trans xs6).trans x42).trans x43).trans x47).trans x48).trans x52).trans x59).trans x74).trans x75).trans x76).trans x77).trans x78).trans x79).trans x80).trans x81).trans x82).trans x98).trans x118).trans x119).trans x123).trans x124).trans xs14).trans x128).trans x129).trans x130).trans x131).trans x132).trans xs15).trans x135).trans x136).trans x137).trans x138).trans x139).trans x140).trans x141).trans x142).trans x143).trans x144).trans x145).trans x146).trans x147).trans x148).trans x149).trans x150).trans x151).trans x152).trans x153).trans x154).trans x155).trans x156).trans xs16).trans x159).trans x160).trans x165)) c21 o165.ints (by decide) (by decide)
  rw [awF2n, awF2e] at h166
  refine sCall2 rfl call48 rfl rfl h166 ?_
  refine sMv (v := .tuple _) rfl ?_
  refine sP (v := nv _) rfl ?_   -- extract ['t163', '0']
  refine sP (v := nv _) rfl ?_   -- extract ['t163', '1']
  refine sAs (v := nv _) rfl ?_
  refine sAs (v := nv _) rfl ?_
  refine sNil (kSeqN ?_)
  refine cSeq ?_
  refine cRegion ?_
  refine sRow [0, 1] rfl (by decide) (by kernel_rfl) fun q170 m170 o170 x170 => ?_
  obtain ⟨v171, m171, h171, rfl, x171⟩ := spec_lgate (m := m170) (k := 9) (q := q170) (n := [0, 1].length) (c := [0, 1].length)
  refine sCall2 rfl call69 rfl rfl h171 ?_
  refine sRow [0, 1] rfl (by decide) (by kernel_rfl) fun q172 m172 o172 x172 => ?_
  obtain ⟨v173, m173, h173, rfl, x173⟩ := spec_lgate (m := m172) (k := 9) (q := q172) (n := [0, 1].length) (c := [0, 1].length)
  refine sCall2 rfl call69 rfl rfl h173 ?_
  refine sGates [(9, .slice q170 [0, 1].length [0, 1].length, [0, 1]), (9, .slice q172 [0, 1].length [0, 1].length, [0, 1])] (mem_cons (o170.ext ((x171.trans x172).trans x173)) (mem_cons (o172.ext x173) (mem_nil))) rfl (by decide) (by kernel_rfl) fun q174 m174 cs174 o174 x174 => ?_
  replace o174 : OwnG 0 m174 (.slice q174 2 2) cs174 [(9, [0, 1]), (9, [0, 1])] := o174
  obtain ⟨v175, m175, h175, rfl, x175⟩ := spec_lof (m := m174) (k := 2) (q := q174) (n := 2) (c := 2)
  refine sCall2 rfl call68 rfl rfl h175 ?_
  refine sRow [0] rfl (by decide) (by kernel_rfl) fun q176 m176 o176 x176 => ?_
  obtain ⟨v177, m177, h177, rfl, x177⟩ := spec_BorrX (hC.ext ((((((((((((((((((((((((((((((((((((((((((((((((((((((((((((((((((((((((((x19.trans x20).trans x21).trans x22).trans xs1).trans x25).trans x29).trans x30).trans x31).trans x32).trans x33).trans x37).trans x38).trans xs6).trans x42).trans x43).trans x47).trans x48).trans x52).trans x59).trans x74).trans x75).trans x76).trans x77).trans x78).trans x79).trans x80).trans x81).trans x82).trans x98).trans x118).trans x119).trans x123).trans x124).trans xs14).trans x128).trans x129).trans x130).trans x131).trans x132).trans xs15).trans x135).trans x136).trans x137).trans x138).trans x139).trans x140).trans x141).trans x142).trans x143).trans x144).trans x145).trans x146).trans x147).trans x148).trans x149).trans x150).trans x151).trans x152).trans x153).trans x154).trans x155).trans x156).trans xs16).trans x159).trans x160).trans x165).trans x166).trans x170).trans x171).trans x172).trans x173).trans x174).trans x175).trans x176)) (o174.ext (x175.trans x176)) c174 o176.ints (by decide) (by decide)
  rw [awF3n, awF3e] at h177
  refine sCall2 rfl call48 rfl rfl h177 ?_
  refine sMv (v := .tuple _) rfl ?_
  refine sP (v := nv _) rfl ?_   -- extract ['t169', '0']
  refine sP (v := nv _) rfl ?_   -- extract ['t169', '1']
  refine sAs (v := nv _) rfl ?_
  refine sNil (kSeqN ?_)
  refine cSeq ?_
  refine cRegion ?_
  refine sMv (v := nv _) rfl ?_
  refine sBin (v := .bool true) (a := 6) (b := 6) rfl rfl (eqlT rfl) ?_
  refine sMv (v := .bool true) rfl ?_
  refine sG rfl rfl ?_
  refine sMv (v := nv _) rfl ?_
  refine sG rfl rfl ?_
  refine sBin (v := .bool true) (a := 0) (b := 0) rfl rfl (eqlT rfl) ?_
  refine sP (v := .bool true) rfl ?_
  refine sMv (v := .bool true) rfl ?_
  refine sG rfl rfl ?_
  refine sFA F30_2 rfl ?_
  refine sG rfl rfl ?_
  refine sLd (v := .slice q124 3 c124) A28 rfl (((((((((((((((((((((((((((((((((((((((((x128.trans x129).trans x130).trans x131).trans x132).trans xs15).trans x135).trans x136).trans x137).trans x138).trans x139).trans x140).trans x141).trans x142).trans x143).trans x144).trans x145).trans x146).trans x147).trans x148).trans x149).trans x150).trans x151).trans x152).trans x153).trans x154).trans x155).trans x156).trans xs16).trans x159).trans x160).trans x165).trans x166).trans x170).trans x171).trans x172).trans x173).trans x174).trans x175).trans x176).trans x177).cells gs14) rfl ?_
  refine sG rfl rfl ?_
  refine sLen T28 rfl ?_
  refine sG rfl rfl ?_
  refine sBin (v := .bool true) (a := 3) (b := 3) rfl rfl (eqlT rfl) ?_
  refine sP (v := .bool true) rfl ?_
  refine sMv (v := .bool true) rfl ?_
  refine sG rfl rfl ?_
  refine sLdAll A30 S30 rfl (((((((((((((((((((((((((((((((((((x135.trans x136).trans x137).trans x138).trans x139).trans x140).trans x141).trans x142).trans x143).trans x144).trans x145).trans x146).trans x147).trans x148).trans x149).trans x150).trans x151).trans x152).trans x153).trans x154).trans x155).trans x156).trans xs16).trans x159).trans x160).trans x165).trans x166).trans x170).trans x171).trans x172).trans x173).trans x174).trans x175).trans x176).trans x177).cells gs15) rfl ?_
  refine sG rfl rfl ?_
  refine sMv (v := nv _) rfl ?_
  refine sG rfl rfl ?_
  refine sLdAll A30 S30 rfl ((((((((((((x159.trans x160).trans x165).trans x166).trans x170).trans x171).trans x172).trans x173).trans x174).trans x175).trans x176).trans x177).cells gs16) rfl ?_
  refine sG rfl rfl ?_
  obtain ⟨v196, m196, h196, rfl, x196⟩ := spec_known (W := 5) (B := 0) (W' := 5) (B' := 0) (er := 0) (o132.gates.ext (((((((((((((((((((((((((((((((((((xs15.trans x135).trans x136).trans x137).trans x138).trans x139).trans x140).trans x141).trans x142).trans x143).trans x144).trans x145).trans x146).trans x147).trans x148).trans x149).trans x150).trans x151).trans x152).trans x153).trans x154).trans x155).trans x156).trans xs16).trans x159).trans x160).trans x165).trans x166).trans x170).trans x171).trans x172).trans x173).trans x174).trans x175).trans x176).trans x177)) (o155.gates.ext (((((((((((((x156.trans xs16).trans x159).trans x160).trans x165).trans x166).trans x170).trans x171).trans x172).trans x173).trans x174).trans x175).trans x176).trans x177)) (by decide) (by decide)
  rw [show (decide ((0 : Nat) = 0) && decide (5 = 5 ∧ 0 = 0 ∧ [(9, [0, 3]), (1, [3]), (9, [1, 4]), (1, [4]), (12, [3, 4, 2]), (1, [4]), (9, [1, 4]), (1, [3]), (9, [0, 3]), (1, [2])].map gvM = [(9, [0, 3]), (1, [3]), (9, [1, 4]), (1, [4]), (12, [3, 4, 2]), (1, [4]), (9, [1, 4]), (1, [3]), (9, [0, 3]), (1, [2])].map gvM)) = true by simp] at h196
  refine sCall3 rfl call70 rfl rfl rfl h196 ?_
  refine sP (v := .bool true) rfl ?_
  refine sMv (v := .bool true) rfl ?_
  refine sG rfl rfl ?_
  refine sMv (v := nv _) rfl ?_
  refine sG rfl rfl ?_
  refine sBin (v := .bool true) (a := 0) (b := 0) rfl rfl (eqlT rfl) ?_
  refine sP (v := .bool true) rfl ?_
  refine sMv (v := .bool true) rfl ?_
  refine sG rfl rfl ?_
  refine sMv (v := nv _) rfl ?_
  refine sG rfl rfl ?_
  refine sBin (v := .bool true) (a := 1) (b := 1) rfl rfl (eqlT rfl) ?_
  refine sP (v := .bool true) rfl ?_
  refine sMv (v := .bool true) rfl ?_
  refine sG rfl rfl ?_
  refine sMv (v := nv _) rfl ?_
  refine sG rfl rfl ?_
  refine sBin (v := .bool true) (a := 0) (b := 0) rfl rfl (eqlT rfl) ?_
  refine sP (v := .bool true) rfl ?_
  refine sMv (v := .bool true) rfl ?_
  refine sG rfl rfl ?_
  refine sMv (v := nv _) rfl ?_
  refine sG rfl rfl ?_
  refine sBin (v := .bool true) (a := 1) (b := 1) rfl rfl (eqlT rfl) ?_
  refine sP (v := .bool true) rfl ?_
  refine sMv (v := .bool true) rfl ?_
  refine sG rfl rfl ?_
  refine sMv (v := nv _) rfl ?_
  refine sG rfl rfl ?_
  refine sBin (v := .bool true) (a := 6) (b := 6) rfl rfl (eqlT rfl) ?_
  refine sP (v := .bool true) rfl ?_
  refine sAs (v := .bool _) rfl ?_
  refine sNil (kSeqN ?_)
  refine cRet ?_
  exact ⟨.inr rfl, _, rfl, rfl, ((((((((((((((((((((((((((((((((((((((((((((((((((((((((((((((((((((((((((((x19.trans x20).trans x21).trans x22).trans xs1).trans x25).trans x29).trans x30).trans x31).trans x32).trans x33).trans x37).trans x38).trans xs6).trans x42).trans x43).trans x47).trans x48).trans x52).trans x59).trans x74).trans x75).trans x76).trans x77).trans x78).trans x79).trans x80).trans x81).trans x82).trans x98).trans x118).trans x119).trans x123).trans x124).trans xs14).trans x128).trans x129).trans x130).trans x131).trans x132).trans xs15).trans x135).trans x136).trans x137).trans x138).trans x139).trans x140).trans x141).trans x142).trans x143).trans x144).trans x145).trans x146).trans x147).trans x148).trans x149).trans x150).trans x151).trans x152).trans x153).trans x154).trans x155).trans x156).trans xs16).trans x159).trans x160).trans x165).trans x166).trans x170).trans x171).trans x172).trans x173).trans x174).trans x175).trans x176).trans x177).trans x196)⟩
end Go.AM

/-! N11 -/
namespace Go.AM
open Go.Proofs
end Go.AM

/-! N12 -/
namespace Go.AM
open Go.Proofs
/-! ### What the gates do -/
def Sem (T : BX → Nat → Nat → List Gt) (V : Nat) (val : Nat → BX → Bool) (a : BX) : Prop := ∀ t X, V ≤ t → (∀ j, t + 1 ≤ j → X.testBit j = false) → runM (T a t (t + 1)) X = if val X a then X ^^^ 2 ^ t else X
end Go.AM

/-! R32 -/
namespace Go.AM
open Go.Proofs
/-- A slice is no longer than its capacity. -/
def CapOk (a : Value) : Prop := ∀ q n c, a = .slice q n c → n ≤ c
theorem okf80 : okF Tryd.prog H0 80 9 = true := by kernel_rfl
theorem spec_bit {m : Mem} {x k : Nat} (hx : x < 9223372036854775808) : ∃ v m', ACalls Tryd.prog 80 #[nv x, nv k] m v m' ∧ (v = nv (x >>> k &&& 1) ∧ m = m') := by
 refine wpF (args := [_, _]) mixed okf80 (fn := Tryd.f80) rfl rfl rfl (by simp) ?_
 refine cSR ?_
 refine sAs (v := nv 0) rfl ?_
 refine sN ?_
 refine cSR ?_
 refine sMv (v := nv _) rfl ?_
 refine sMv (v := nv _) rfl ?_
 refine sBin (a := x) (b := k) rfl rfl (aInt_shr (by omega)) ?_
 have hsh := Nat.shiftRight_le x k
 refine sBin (b := 1) rfl rfl (aInt_and (by omega)) ?_
 refine sAs (v := nv _) rfl ?_
 refine sN ?_
 refine cRet ?_
 exact ⟨.inr rfl, _, rfl, rfl, rfl⟩
end Go.AM

/-! R33 -/
namespace Go.AM
open Go.Proofs
end Go.AM

/-! N7 -/
namespace Go.AM
open Go.Proofs
section
variable {n i : Nat}
end
end Go.AM

/-! R34 -/
namespace Go.AM
open Go.Proofs
/-- A gate ahead of others. -/
theorem OwnG.cons {N : Nat} {m : Mem} {bl kd : Nat} {ws : Value} {w : List Nat} (hg : Mem.get m bl = .cells true #[nv kd, ws, nv 0, nv 0]) (hN : N ≤ bl) (hw : OwnF N m ws (ofs w)) (hb : ∀ b, blkOf ws = some b → b ≠ bl) :
  OwnG N m (.slice (some ⟨bl, 0, some 4⟩) 1 1) #[nv kd, ws, nv 0, nv 0] [(kd, w)] := by
 refine ⟨.inr ⟨bl, 1, _, rfl, hN, hg, Nat.le_refl _, rfl, rfl, fun i _ => rfl⟩, fun i g hi => ?_⟩
 have h1 := (List.getElem?_eq_some_iff.1 hi).1
 obtain rfl : i = 0 := by simp at h1; exact h1
 obtain rfl : (kd, w) = g := by simpa using hi
 exact ⟨ws, rfl, rfl, rfl, rfl, hw, fun b h e => by injection e with e; exact hb b h e.symm⟩
end Go.AM

/-! R35 -/
namespace Go.AM
open Go.Proofs
/-- What was met, in a row of truths. -/
def MetB (m : Mem) (b n : Nat) (met : List Nat) : Prop := ∃ B, Mem.get m b = .cells true B ∧ B.size = n ∧ ∀ y, y < n → B[y]? = some (.bool (decide (y ∈ met)))
theorem MetB.keep {m m' : Mem} {b n : Nat} {met : List Nat} (h : MetB m b n met) (he : Mem.get m' b = Mem.get m b) : MetB m' b n met := by
 obtain ⟨B, h1, h2⟩ := h; exact ⟨B, he.trans h1, h2⟩
end Go.AM

/-! R36 -/
namespace Go.AM
open Go.Proofs
end Go.AM

/-! R38 -/
namespace Go.AM
open Go.Proofs
end Go.AM

/-! N8 -/
namespace Go.AM
open Go.Proofs
/-- A table of n wires. -/
def PermT (n : Nat) (p : List Nat) : Prop := p.length = 2 ^ n ∧ ∀ x ∈ p, x < 2 ^ n
theorem PermT.range (n : Nat) : PermT n (List.range (2 ^ n)) := ⟨by simp, fun x hx => by simpa using hx⟩
/-- The list of what was met, and the levels. -/
structure Cor (n d a b : Nat) (L : List Met) (K : List (List Nat)) : Prop where
  tab : L.map (·.tab) = K.map tab8
  per : ∀ p ∈ K, PermT n p
  lo : ∀ (j : Nat) e, L[j]? = some e → j < a → e.many < d
  mid : ∀ (j : Nat) e, L[j]? = some e → a ≤ j → j < b → e.many = d
  hi : ∀ (j : Nat) e, L[j]? = some e → b ≤ j → e.many = d + 1
  le : a ≤ b ∧ b ≤ L.length
theorem Cor.len {n d a b : Nat} {L : List Met} {K : List (List Nat)} (h : Cor n d a b L K) : L.length = K.length := by
 have := congrArg List.length h.tab
 simpa using this
theorem Cor.at {n d a b : Nat} {L : List Met} {K : List (List Nat)} (h : Cor n d a b L K) {i : Nat} (hi : i < L.length) : ∃ e, L[i]? = some e ∧ e.tab = tab8 (K.getD i []) ∧ PermT n (K.getD i []) := by
 have hk : i < K.length := by rw [← h.len]; exact hi
 refine ⟨L[i], List.getElem?_eq_getElem hi, ?_, ?_⟩
 ·have := congrArg (·[i]?) h.tab
  simp only [List.getElem?_map, List.getElem?_eq_getElem hi, List.getElem?_eq_getElem hk, Option.map_some, Option.some.injEq] at this
  rw [this, List.getD_eq_getElem?_getD, List.getElem?_eq_getElem hk]; rfl
 ·rw [List.getD_eq_getElem?_getD, List.getElem?_eq_getElem hk]; exact h.per _ (List.getElem_mem _)
end Go.AM

/-! R39 -/
namespace Go.AM
open Go.Proofs
/-- Rows that may be read, and stay so while a map's place and a list's place are written. -/
def SupR (mb : Nat) (v : Value) (m : Mem) (s : Value) (G : List (List Int)) : Prop := ∃ S : Nat → Prop, (∀ b, S b → b < m.size ∧ b ≠ mb ∧ blkOf v ≠ some b) ∧ (∀ m', (∀ b, S b → Mem.get m' b = Mem.get m b) → RowsAt m' s G) ∧
  ∀ (i : Nat) g, G[i]? = some g → ∃ b cap r c t, s = .slice (some ⟨b, 0, some 1⟩) G.length cap ∧ S b ∧ Mem.get m b = .cells r c ∧ c[i]? = some t ∧ ∀ m', (∀ b, S b → Mem.get m' b = Mem.get m b) → IntsAt m' t g
theorem SupR.keep {mb : Nat} {v s : Value} {m m' : Mem} {G : List (List Int)} (h : SupR mb v m s G) (hz : m.size ≤ m'.size) (hk : ∀ b, b < m.size → b ≠ mb → Mem.get m' b = Mem.get m b) : SupR mb v m' s G := by
 obtain ⟨S, h1, h2, h3⟩ := h
 have hS : ∀ b, S b → Mem.get m' b = Mem.get m b := fun b hb => hk b (h1 b hb).1 (h1 b hb).2.1
 exact ⟨S, fun b hb => ⟨by have := (h1 b hb).1; omega, (h1 b hb).2⟩, fun m2 hm => h2 m2 fun b hb => (hm b hb).trans (hS b hb), fun i g hi => by
  obtain ⟨b, cap, r, c, t, e, hb, hg, ht, hI⟩ := h3 i g hi
  exact ⟨b, cap, r, c, t, e, hb, (hS b hb).trans hg, ht, fun m2 hm => hI m2 fun b hb => (hm b hb).trans (hS b hb)⟩⟩
/-- Lists of rows. -/
def Lv3 (N mb : Nat) (m : Mem) (v : Value) (cs : Array Value) (D : List (List (List Nat))) : Prop := OwnC N m v 1 D.length cs ∧ ∀ (d : Nat) l, D[d]? = some l → ∃ s, cs[d]? = some s ∧ SupR mb v m s (ofs2 l)
theorem Lv3.keep {N mb : Nat} {m m' : Mem} {v : Value} {cs : Array Value} {D : List (List (List Nat))} (h : Lv3 N mb m v cs D) (hN : mb < N) (hz : m.size ≤ m'.size) (hk : ∀ b, b < m.size → b ≠ mb → Mem.get m' b = Mem.get m b) : Lv3 N mb m' v cs D :=
 ⟨h.1.up fun b h1 h2 => hk b h2 (by omega), fun d l hd => by obtain ⟨s, a1, a2⟩ := h.2 d l hd; exact ⟨s, a1, a2.keep hz hk⟩⟩
end Go.AM

/-! R41 -/
namespace Go.AM
open Go.Proofs
theorem nodup_take_not {w : List Nat} {i : Nat} (h : w.Nodup) (hi : i < w.length) : ¬ w[i] ∈ w.take i := fun hm => by
 obtain ⟨j, hj, e⟩ := List.getElem_of_mem hm
 rw [List.length_take] at hj
 rw [List.getElem_take] at e
 have e2 : w[j]? = w[i]? := by
  rw [List.getElem?_eq_getElem (show j < w.length by omega), List.getElem?_eq_getElem hi]; exact congrArg some e
 have := (List.getElem?_inj (show j < w.length by omega) h).1 e2
 omega
theorem okf151 : okF Tryd.prog H0 151 18 = true := by kernel_rfl
theorem spec_rHas {m : Mem} {a : Value} {L : List Nat} {x : Nat} (ha : IntsAt m a (ofs L)) (hl : L.length < 1000000) : ∃ v m', ACalls Tryd.prog 151 #[a, nv x] m v m' ∧ (v = .bool (decide (x ∈ L)) ∧ m = m') := by
 obtain ⟨q, cap, rfl⟩ := ha.lenN
 refine wpF (args := [_, _]) mixed okf151 (fn := Tryd.f151) rfl rfl rfl (by simp) ?_
 refine cSR ?_
 refine sAs (v := .bool _) rfl ?_
 refine sN ?_
 refine cSeq (cSR ?_)
 refine sAs (v := nv 0) rfl ?_
 refine sN ?_
 refine cBlock ?_
 refine wpC_loop (fun k ρ m' => ∃ i, k = L.length - i ∧ i ≤ L.length ∧ (∀ j, j < i → L[j]? ≠ some x) ∧ m = m' ∧ Has ρ [(0, .slice q L.length cap), (1, nv x), (5, nv i)]) ⟨0, rfl, by omega, by omega, rfl, rfl, rfl, rfl, trivial⟩ ?_
 rintro k ρ _ ⟨i, rfl, hi, hr, rfl, hh⟩
 rw [hh.env]; clear hh
 refine cSeq (cSR ?_)
 refine sMv (v := nv _) rfl ?_
 refine sMv (v := .slice _ _ _) rfl ?_
 refine sLen T22 rfl ?_
 refine sBin rfl rfl (aInt_lss) ?_
 refine sN ?_
 refine cCond rfl (fun c0 => ?_) (fun c0 => ?_)
 ·
  obtain ⟨b1, o1, p1, r1, cc, e1, g1, x1⟩ := ha.atN (by omega)
  cases e1
  refine cSkip (kSeqN ?_)
  refine cSeq (cBlock (cSR ?_))
  refine sMv (v := .slice _ _ _) rfl ?_
  refine sMv (v := nv _) rfl ?_
  refine sIx T22 S3 rfl rfl (by omega) ?_
  refine sLd (v := nv L[i]) A3 rfl g1 (x1 i L[i] (by simp)) ?_
  refine sMv (v := nv _) rfl ?_
  refine sBin (a := L[i]) (b := x) rfl rfl aInt_eql ?_
  refine sN ?_
  refine cCond rfl (fun c1 => ?_) (fun c1 => ?_)
  ·
   refine cSR ?_
   refine sAs (v := .bool _) rfl ?_
   refine sN ?_
   refine cRet (kBlkR (kSeqR (kSeqR (kBlkR (kSeqR ?_)))))
   have hm : x ∈ L := by rw [← c1]; exact List.getElem_mem _
   exact ⟨.inr rfl, _, rfl, by rw [decide_eq_true hm]; rfl, rfl⟩
  ·
   refine cSkip (kBlkN (kSeqN ?_))
   refine cRegion ?_
   refine sMv (v := nv _) rfl ?_
   refine sBin rfl rfl (aInt_add (b := 1) (by omega)) ?_
   refine sAs (v := nv _) rfl ?_
   refine sN ?_
   refine ⟨_, ?_, i + 1, rfl, by omega, fun j hj e => ?_, rfl, rfl, rfl, rfl, trivial⟩
   ·omega
   ·by_cases h : j = i
    ·subst h
     rw [List.getElem?_eq_getElem c0] at e
     exact c1 (Option.some.inj e)
    ·exact hr j (by omega) e
 ·
  refine cExit (kSeqE (kSeqE (kBlkS (kSeqN ?_))))
  refine cSR ?_
  refine sAs (v := .bool _) rfl ?_
  refine sN ?_
  refine cRet ?_
  have hm : ¬ x ∈ L := fun h => by
   obtain ⟨j, hj, e⟩ := List.getElem_of_mem h
   exact hr j (by omega) (by rw [List.getElem?_eq_getElem hj, e])
  exact ⟨.inr rfl, _, rfl, by rw [decide_eq_false hm]; rfl, rfl⟩
end Go.AM

/-! R42 -/
namespace Go.AM
open Go.Proofs
theorem okf99 : okF Tryd.prog H0 99 26 = true := by kernel_rfl
theorem spec_rEqual {m : Mem} {a b : Value} {l r : List Int} (ha : IntsAt m a l) (hb : IntsAt m b r) (hl : l.length < 1000000) : ∃ v m', ACalls Tryd.prog 99 #[a, b] m v m' ∧ (v = .bool (decide (l = r)) ∧ m = m') := by
 obtain ⟨q, cap, rfl⟩ := ha.len
 obtain ⟨q2, cap2, rfl⟩ := hb.len
 refine wpF (args := [_, _]) mixed okf99 (fn := Tryd.f99) rfl rfl rfl (by simp) ?_
 refine cSR ?_
 refine sAs (v := .bool _) rfl ?_
 refine sN ?_
 refine cSeq (cSR ?_)
 refine sMv (v := .slice _ _ _) rfl ?_
 refine sLen T22 rfl ?_
 refine sMv (v := .slice _ _ _) rfl ?_
 refine sLen T22 rfl ?_
 refine sBin (a := l.length) (b := r.length) rfl rfl aInt_neq ?_
 refine sN ?_
 refine cCond rfl (fun c0 => ?_) (fun c0 => ?_)
 ·
  refine cSR ?_
  refine sAs (v := .bool _) rfl ?_
  refine sN ?_
  refine cRet (kSeqR ?_)
  exact ⟨.inr rfl, _, rfl, by rw [decide_eq_false (show ¬ l = r from fun e => c0 (by rw [e]))]; rfl, rfl⟩
 ·
  have hlr := Decidable.not_not.1 c0
  refine cSkip (kSeqN ?_)
  refine cSeq (cSR ?_)
  refine sMv (v := .slice _ _ _) rfl ?_
  refine sLen T22 rfl ?_
  refine sMv (v := nv 0) rfl ?_
  refine sN ?_
  refine cBlock ?_
  refine wpC_loop (fun k ρ m' => ∃ i, k = l.length - i ∧ i ≤ l.length ∧ (∀ j, j < i → l[j]? = r[j]?) ∧ m = m' ∧ Has ρ [(0, .slice q l.length cap), (1, .slice q2 r.length cap2), (11, .slice q l.length cap), (12, nv l.length), (13, nv i)]) ⟨0, rfl, Nat.zero_le _, by omega, rfl, rfl, rfl, rfl, rfl, rfl, trivial⟩ ?_
  rintro k ρ _ ⟨i, rfl, hi, hr, rfl, hh⟩
  rw [hh.env]; clear hh
  refine cSR ?_
  refine sBin rfl rfl (aInt_lss) ?_
  refine sN ?_
  refine cSeq ?_
  refine cCond rfl (fun c1 => ?_) (fun c1 => ?_)
  ·
   obtain ⟨b1, o1, p1, r1, cc, e1, g1, x1⟩ := ha.at (by omega)
   cases e1
   obtain ⟨b2, o2, p2, r2, cd, e2, g2, x2⟩ := hb.at (by omega)
   cases e2
   obtain ⟨x, hx⟩ : ∃ x, l[i]? = some x := ⟨_, List.getElem?_eq_getElem c1⟩
   obtain ⟨y, hy⟩ : ∃ y, r[i]? = some y := ⟨_, List.getElem?_eq_getElem (by omega)⟩
   refine cSkip (kSeqN ?_)
   refine cSeq (cBlock (cSR ?_))
   refine sMv (v := nv _) rfl ?_
   refine sAs (v := nv _) rfl ?_
   refine sN ?_
   refine cSeq ?_
   refine cDraw rfl ?_
   refine sMv (v := .slice _ _ _) rfl ?_
   refine sMv (v := nv _) rfl ?_
   refine sIx T22 S3 rfl rfl (by omega) ?_
   refine sLd (v := .int .i64 x) A3 rfl g1 (x1 i x hx) ?_
   refine sMv (v := .slice _ _ _) rfl ?_
   refine sMv (v := nv _) rfl ?_
   refine sIx T22 S3 rfl rfl (by omega) ?_
   refine sLd (v := .int .i64 y) A3 rfl g2 (x2 i y hy) ?_
   refine sBinI (v := .bool (decide (x ≠ y))) rfl rfl aInt_neqI ?_
   refine sN ?_
   refine cCond (p := x ≠ y) rfl (fun c2 => ?_) (fun c2 => ?_)
   ·
    refine cSR ?_
    refine sAs (v := .bool _) rfl ?_
    refine sN ?_
    refine cRet (kBlkR (kSeqR (kSeqR (kBlkR (kSeqR ?_)))))
    exact ⟨.inr rfl, _, rfl, by rw [decide_eq_false (show ¬ l = r from fun e => by subst e; exact c2 (Option.some.inj (hx.symm.trans hy)))]; rfl, rfl⟩
   ·
    refine cSkip (kBlkN (kSeqN ?_))
    refine cRegion ?_
    refine sBin rfl rfl (aInt_add (b := 1) (by omega)) ?_
    refine sMv (v := nv _) rfl ?_
    refine sN ?_
    refine ⟨_, ?_, i + 1, rfl, by omega, fun j hj => ?_, rfl, rfl, rfl, rfl, rfl, rfl, trivial⟩
    ·omega
    ·by_cases h : j = i
     ·subst h; rw [hx, hy, Decidable.not_not.1 c2]
     ·exact hr j (by omega)
  ·
   have hall : l = r := List.ext_getElem? fun j => by
    by_cases h : j < l.length
    ·exact hr j (by omega)
    ·rw [List.getElem?_eq_none (by omega), List.getElem?_eq_none (by omega)]
   refine cExit (kSeqE (kSeqE (kBlkS (kSeqN ?_))))
   refine cSR ?_
   refine sAs (v := .bool _) rfl ?_
   refine sN ?_
   refine cRet ?_
   exact ⟨.inr rfl, _, rfl, by rw [decide_eq_true hall]; rfl, rfl⟩
end Go.AM

/-! N9 -/
namespace Go.AM
open Go.Proofs
end Go.AM

/-! R37 -/
namespace Go.AM
open Go.Proofs
theorem eqlBool (q : Bool) : aBin Tryd.prog .eql 4 (.bool q) (.bool q) = some (.bool true) := by cases q <;> kernel_rfl
end Go.AM

/-! N10 -/
namespace Go.AM
open Go.Proofs
/-! ### The cycles of a permutation -/
/-- A list goes along a permutation, and on to x. -/
def Chain (p : List Nat) (l : List Nat) (x : Nat) : Prop := (∀ (k a b : Nat), l[k]? = some a → l[k + 1]? = some b → p.getD a 0 = b) ∧ ∀ a, l[l.length - 1]? = some a → 0 < l.length → p.getD a 0 = x
/-- What was met is closed. -/
structure ClosedM (p met : List Nat) : Prop where
  nd : met.Nodup
  lt : ∀ y ∈ met, y < p.length
  pre : ∀ y, y < p.length → p.getD y 0 ∈ met → y ∈ met
/-- What a list of cycles is like. -/
structure CycOk (p : List Nat) (i : Nat) (met : List Nat) (out : List (List Nat)) : Prop where
  cl : ClosedM p met
  all : ∀ j, j < i → j ∈ met
  sub : ∀ c ∈ out, ∀ y ∈ c, y ∈ met
  fix : ∀ y ∈ met, y ∉ out.flatten → p.getD y 0 = y
  nd : out.flatten.Nodup
  ch : ∀ c ∈ out, ∃ a, c[0]? = some a ∧ Chain p c a ∧ ∀ y ∈ c, a ≤ y
  inc : ∀ (k a b : Nat), (out[k]?.bind (·[0]?)) = some a → (out[k + 1]?.bind (·[0]?)) = some b → a < b
  hd : ∀ (k a : Nat), (out[k]?.bind (·[0]?)) = some a → a < i
end Go.AM

/-! N13 -/
namespace Go.AM
open Go.Proofs
end Go.AM

/-! R49 -/
namespace Go.AM
open Go.Proofs
end Go.AM

/-! R46 -/
namespace Go.AM
open Go.Proofs
end Go.AM

/-! R47 -/
namespace Go.AM
open Go.Proofs
end Go.AM

/-! R48 -/
namespace Go.AM
open Go.Proofs
end Go.AM

/-! R50 -/
namespace Go.AM
open Go.Proofs
end Go.AM

/-! R51 -/
namespace Go.AM
open Go.Proofs
end Go.AM

/-! R52 -/
namespace Go.AM
open Go.Proofs
end Go.AM

/-! R53 -/
namespace Go.AM
open Go.Proofs
end Go.AM

/-! R54 -/
namespace Go.AM
open Go.Proofs
end Go.AM

/-! R55 -/
namespace Go.AM
open Go.Proofs
end Go.AM

/-! R56 -/
namespace Go.AM
open Go.Proofs
end Go.AM

/-! R57 -/
namespace Go.AM
open Go.Proofs
end Go.AM

/-! R58 -/
namespace Go.AM
open Go.Proofs
end Go.AM

/-! N14 -/
namespace Go.AM
open Go.Proofs
/-- How many wires a kind has. -/
def arI (k : Int) : Nat := if k = 12 then 3 else if 9 ≤ k ∧ k ≤ 11 then 2 else if 1 ≤ k ∧ k ≤ 14 then 1 else 0
/-- The error of a gate on n wires and b bits. -/
def gateE (n b : Int) (g : GateV) : Nat :=
  if arI g.1 = 0 then 3 else if g.2.1.length ≠ arI g.1 then 2 else if ¬ (∀ w ∈ g.2.1, 0 ≤ w ∧ w < n) then 1 else if ¬ g.2.1.Nodup then 5 else
  if g.2.2.2 < 0 ∨ b < g.2.2.2 ∨ (g.1 = 13 ∧ (g.2.2.1 < 0 ∨ b ≤ g.2.2.1)) then 1 else
  if ((g.1 = 13 ∨ g.1 = 14) ∧ g.2.2.2 ≠ 0) ∨ (g.1 ≠ 13 ∧ g.2.2.1 ≠ 0) then 7 else 0
def gatesE (n b : Int) : List GateV → Nat
  | [] => 0
  | g :: l => if gateE n b g ≠ 0 then gateE n b g else gatesE n b l
def circE (n b : Int) (Gs : List GateV) : Nat := if n < 1 ∨ 12 < n ∨ b < 0 ∨ 8 < b then 3 else if 120 < Gs.length then 2 else gatesE n b Gs
/-- A gate of a classical circuit. -/
def clI (g : GateV) : Bool := (decide (g.1 = 1) || decide (g.1 = 9) || decide (g.1 = 11) || decide (g.1 = 12)) && decide (g.2.2.2 = 0)
def circ8E (n b : Int) (Gs : List GateV) : Nat := if circE n b Gs ≠ 0 then circE n b Gs else if Gs.all clI then 0 else 7
theorem gatesE_all {n b : Int} : ∀ {Gs : List GateV}, gatesE n b Gs = 0 ↔ ∀ g ∈ Gs, gateE n b g = 0
 | [] => by simp [gatesE]
 | g :: l => by
  rw [gatesE]
  by_cases h : gateE n b g = 0
  ·rw [if_neg (by simpa using h), gatesE_all]; simp [h]
  ·rw [if_pos h]; simp [h]
theorem gatesE_up {n b : Int} : ∀ {Gs : List GateV} {i : Nat} {g : GateV}, (∀ (j : Nat) g', j < i → Gs[j]? = some g' → gateE n b g' = 0) → Gs[i]? = some g → gateE n b g ≠ 0 → gatesE n b Gs = gateE n b g
 | [], i, g, _, h, _ => by cases h
 | x :: l, 0, g, _, h, h2 => by simp at h; subst h; rw [gatesE, if_pos h2]
 | x :: l, i + 1, g, hn, h, h2 => by
  have h0 := hn 0 x (by omega) rfl
  rw [gatesE, if_neg (by simpa using h0)]
  exact gatesE_up (i := i) (fun j g' hj hg => hn (j + 1) g' (by omega) (by simpa using hg)) (by simpa using h) h2
structure GateS (n : Nat) (g : Nat × List Nat) : Prop where
  kind : (g.1 = 1 ∧ g.2.length = 1) ∨ (g.1 = 9 ∧ g.2.length = 2) ∨ (g.1 = 11 ∧ g.2.length = 2) ∨ (g.1 = 12 ∧ g.2.length = 3)
  lt : ∀ w ∈ g.2, w < n
  once : g.2.Nodup
structure CircS (n : Nat) (Gs : List (Nat × List Nat)) : Prop where
  one : 1 ≤ n
  ten : n ≤ 12
  few : Gs.length ≤ 120
  all : ∀ g ∈ Gs, GateS n g
def gnM (g : GateV) : Nat × List Nat := (g.1.toNat, g.2.1.map Int.toNat)
theorem ofs_toNat : ∀ {l : List Int}, (∀ w ∈ l, 0 ≤ w) → ofs (l.map Int.toNat) = l
 | [], _ => rfl
 | x :: l, h => by
  have h0 := h x (by simp)
  have := ofs_toNat (l := l) fun w hw => h w (by simp [hw])
  simp only [ofs, List.map_cons, List.map_map] at this ⊢
  rw [this]
  congr 1
  simp only [Int.ofNat_eq_natCast]; omega
theorem ofs_nodup {l : List Nat} : (ofs l).Nodup ↔ l.Nodup := by
 constructor
 ·intro h
  exact List.Pairwise.of_map _ (fun a b hab e => hab (by rw [e])) h
 ·intro h
  refine List.Pairwise.map _ (fun a b hab e => hab ?_) h
  exact Int.ofNat.inj e
theorem gate_nat {n : Nat} {b : Int} {g : GateV} (h : gateE (Int.ofNat n) b g = 0) (hc : clI g = true) : g = gvM (gnM g) ∧ GateS n (gnM g) := by
 obtain ⟨k, l, bt, cf⟩ := g
 simp only [clI, Bool.and_eq_true, Bool.or_eq_true, decide_eq_true_eq] at hc
 obtain ⟨hk, hcf⟩ := hc
 simp only [gateE] at h
 split at h
 ·cases h
 split at h
 ·cases h
 split at h
 ·cases h
 split at h
 ·cases h
 split at h
 ·cases h
 split at h
 ·cases h
 rename_i h1 h2 h3 h4 h5 h6
 have h2' : l.length = arI k := by omega
 have h3' : ∀ w ∈ l, 0 ≤ w ∧ w < Int.ofNat n := Classical.byContradiction h3
 have h4' : l.Nodup := Classical.byContradiction h4
 have hbt : bt = 0 := by
  refine Classical.byContradiction fun hb => h6 (.inr ⟨by omega, hb⟩)
 have hl := ofs_toNat (l := l) fun w hw => (h3' w hw).1
 have e1 : (k, l, bt, cf) = gvM (gnM (k, l, bt, cf)) := by
  simp only [gvM, gnM, hl, Int.ofNat_eq_natCast, hbt, hcf]
  congr 1
  omega
 refine ⟨e1, ⟨?_, fun w hw => ?_, ?_⟩⟩
 ·simp only [gnM, List.length_map, h2']
  rcases hk with ((rfl | rfl) | rfl) | rfl
  ·exact .inl ⟨rfl, rfl⟩
  ·exact .inr (.inl ⟨rfl, rfl⟩)
  ·exact .inr (.inr (.inl ⟨rfl, rfl⟩))
  ·exact .inr (.inr (.inr ⟨rfl, rfl⟩))
 ·simp only [gnM] at hw
  obtain ⟨y, hy, rfl⟩ := List.mem_map.1 hw
  have := h3' y hy
  simp only [Int.ofNat_eq_natCast] at this; omega
 ·show (l.map Int.toNat).Nodup
  rw [← ofs_nodup, hl]; exact h4'
theorem circ8_nat {n b : Int} {Gs : List GateV} (h : circ8E n b Gs = 0) : ∃ (n' b' : Nat) (Gs' : List (Nat × List Nat)), n = Int.ofNat n' ∧ b = Int.ofNat b' ∧ Gs = Gs'.map gvM ∧ CircS n' Gs' := by
 unfold circ8E at h
 split at h
 ·rename_i h1; exact absurd h h1
 rename_i h1
 have h1 : circE n b Gs = 0 := Classical.byContradiction h1
 split at h
 ·rename_i h2
  rw [List.all_eq_true] at h2
  unfold circE at h1
  split at h1
  ·cases h1
  rename_i h3
  split at h1
  ·cases h1
  rename_i h4
  rw [gatesE_all] at h1
  obtain ⟨n', rfl⟩ : ∃ n' : Nat, n = Int.ofNat n' := ⟨n.toNat, by simp only [Int.ofNat_eq_natCast]; omega⟩
  obtain ⟨b', rfl⟩ : ∃ b' : Nat, b = Int.ofNat b' := ⟨b.toNat, by simp only [Int.ofNat_eq_natCast]; omega⟩
  refine ⟨n', b', Gs.map gnM, rfl, rfl, ?_, ⟨?_, ?_, ?_, ?_⟩⟩
  ·rw [List.map_map]
   refine (List.map_id Gs).symm.trans (List.map_congr_left fun g hg => ?_)
   exact (gate_nat (h1 g hg) (h2 g hg)).1
  ·simp only [Int.ofNat_eq_natCast] at h3; omega
  ·simp only [Int.ofNat_eq_natCast] at h3; omega
  ·rw [List.length_map]; omega
  ·intro g hg
   obtain ⟨g', hg', rfl⟩ := List.mem_map.1 hg
   exact (gate_nat (h1 g' hg') (h2 g' hg')).2
 ·cases h
/-- Two wires change places. -/
def swapM (x : Nat) (w : List Nat) : Nat := if x.testBit (w.getD 0 0) = x.testBit (w.getD 1 0) then x else x ^^^ (2 ^ w.getD 0 0 ||| 2 ^ w.getD 1 0)
def doneS (g : Nat × List Nat) (x : Nat) : Nat := if g.1 = 11 then swapM x g.2 else turnM x g.2
def runS (Gs : List (Nat × List Nat)) (x : Nat) : Nat := Gs.foldl (fun x g => doneS g x) x
theorem runS_take {Gs : List (Nat × List Nat)} {i : Nat} {g : Nat × List Nat} (h : Gs[i]? = some g) (x : Nat) : runS (Gs.take (i + 1)) x = doneS g (runS (Gs.take i) x) := by
 rw [List.take_add_one, h, runS, List.foldl_append]; rfl
theorem doneS_lt {n x : Nat} {g : Nat × List Nat} (hx : x < 2 ^ n) (hg : GateS n g) : doneS g x < 2 ^ n := by
 unfold doneS
 have hk := hg.kind
 split
 ·unfold swapM
  split
  ·exact hx
  ·have h2 : g.2.length = 2 := by omega
   have a0 := hg.lt (g.2.getD 0 0) (by rw [List.getD_eq_getElem?_getD, List.getElem?_eq_getElem (by omega)]; exact List.getElem_mem _)
   have a1 := hg.lt (g.2.getD 1 0) (by rw [List.getD_eq_getElem?_getD, List.getElem?_eq_getElem (by omega)]; exact List.getElem_mem _)
   exact Nat.xor_lt_two_pow hx (Nat.or_lt_two_pow (Nat.pow_lt_pow_right (by omega) a0) (Nat.pow_lt_pow_right (by omega) a1))
 ·exact turnM_lt hx hg.lt (by omega)
theorem runS_lt {n x : Nat} {Gs : List (Nat × List Nat)} (hx : x < 2 ^ n) (hg : ∀ g ∈ Gs, GateS n g) : runS Gs x < 2 ^ n := by
 induction Gs generalizing x with
 | nil => exact hx
 | cons g Gs ih => exact ih (doneS_lt hx (hg g (by simp))) fun g' hg' => hg g' (by simp [hg'])
def rtabS (n : Nat) (Gs : List (Nat × List Nat)) : List Nat := (List.range (2 ^ n)).map (runS Gs)
end Go.AM
