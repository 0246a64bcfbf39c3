/- Part 7 of the proof: Plain laws, and contracts of the program's functions. -/
import Derived.Test.YtdokoekgdeebpaaDoorPartF
import Derived.WideKeyElems2
import Derived.ChangeMaps
import Derived.Test.YtdokoekgdeebpaaDoorRows
import Derived.ProofKit
import Derived.LaidMore
import Derived.LaidHandle
import Derived.OpenShut
import Derived.Stop.Joined
import Derived.Below
import Derived.Carry
set_option linter.unusedVariables false
set_option linter.unusedSimpArgs false
set_option maxRecDepth 100000
/-! R60 -/
namespace Go.AM
open Go.Proofs
section
variable {n b k : Int} {l : List Int} {bt cf : Int}
theorem gE1 (h1 : arI k = 0) : gateE n b (k, l, bt, cf) = 3 := by simp only [gateE]; rw [if_pos h1]
theorem gE2 (h1 : ¬ arI k = 0) (h2 : l.length ≠ arI k) : gateE n b (k, l, bt, cf) = 2 := by simp only [gateE]; rw [if_neg h1, if_pos h2]
theorem gE3 (h1 : ¬ arI k = 0) (h2 : ¬ l.length ≠ arI k) (h3 : ¬ ∀ w ∈ l, 0 ≤ w ∧ w < n) : gateE n b (k, l, bt, cf) = 1 := by simp only [gateE]; rw [if_neg h1, if_neg h2, if_pos h3]
theorem gE4 (h1 : ¬ arI k = 0) (h2 : ¬ l.length ≠ arI k) (h3 : ∀ w ∈ l, 0 ≤ w ∧ w < n) (h4 : ¬ l.Nodup) : gateE n b (k, l, bt, cf) = 5 := by simp only [gateE]; rw [if_neg h1, if_neg h2, if_neg (fun h => h h3), if_pos h4]
theorem gE5 (h1 : ¬ arI k = 0) (h2 : ¬ l.length ≠ arI k) (h3 : ∀ w ∈ l, 0 ≤ w ∧ w < n) (h4 : l.Nodup) (h5 : cf < 0 ∨ b < cf ∨ (k = 13 ∧ (bt < 0 ∨ b ≤ bt))) : gateE n b (k, l, bt, cf) = 1 := by
 simp only [gateE]; rw [if_neg h1, if_neg h2, if_neg (fun h => h h3), if_neg (fun h => h h4), if_pos h5]
theorem gE6 (h1 : ¬ arI k = 0) (h2 : ¬ l.length ≠ arI k) (h3 : ∀ w ∈ l, 0 ≤ w ∧ w < n) (h4 : l.Nodup) (h5 : ¬ (cf < 0 ∨ b < cf ∨ (k = 13 ∧ (bt < 0 ∨ b ≤ bt)))) (h6 : ((k = 13 ∨ k = 14) ∧ cf ≠ 0) ∨ (k ≠ 13 ∧ bt ≠ 0)) : gateE n b (k, l, bt, cf) = 7 := by
 simp only [gateE]; rw [if_neg h1, if_neg h2, if_neg (fun h => h h3), if_neg (fun h => h h4), if_neg h5, if_pos h6]
theorem gE7 (h1 : ¬ arI k = 0) (h2 : ¬ l.length ≠ arI k) (h3 : ∀ w ∈ l, 0 ≤ w ∧ w < n) (h4 : l.Nodup) (h5 : ¬ (cf < 0 ∨ b < cf ∨ (k = 13 ∧ (bt < 0 ∨ b ≤ bt)))) (h6 : ¬ (((k = 13 ∨ k = 14) ∧ cf ≠ 0) ∨ (k ≠ 13 ∧ bt ≠ 0))) : gateE n b (k, l, bt, cf) = 0 := by
 simp only [gateE]; rw [if_neg h1, if_neg h2, if_neg (fun h => h h3), if_neg (fun h => h h4), if_neg h5, if_neg h6]
end
theorem arI_le (k : Int) : arI k ≤ 3 := by
 unfold arI
 split
 ·omega
 split
 ·omega
 split <;> omega
theorem nodup_of_take : ∀ {w : List Nat}, (∀ (j : Nat) x, w[j]? = some x → x ∉ w.take j) → w.Nodup := by
 intro w
 induction w with
 | nil => intro _; exact List.nodup_nil
 | cons a w ih =>
  intro h
  refine List.nodup_cons.2 ⟨fun ha => ?_, ih fun j x hx hm => h (j + 1) x (by simpa using hx) (by simp [hm])⟩
  obtain ⟨j, hj⟩ := List.mem_iff_getElem?.1 ha
  exact h (j + 1) a (by simpa using hj) (by simp)
/-- Gates as they come, readable. -/
def GsAt (m : Mem) (v : Value) (Gs : List GateV) : Prop :=
  (Gs = [] ∧ (v = .slice none 0 0 ∨ ∃ b o, v = .slice (some ⟨b, o, none⟩) 0 0)) ∨ ∃ b cap r c, v = .slice (some ⟨b, 0, some 4⟩) Gs.length cap ∧ Mem.get m b = .cells r c ∧
    ∀ (i : Nat) (g : GateV), Gs[i]? = some g → ∃ s, i * 4 + 4 ≤ c.size ∧ c.extract (0 + i * 4) (0 + i * 4 + 4) = #[.int .i64 g.1, s, .int .i64 g.2.2.1, .int .i64 g.2.2.2] ∧ IntsAt m s g.2.1 ∧ CapOk s
theorem GsAt.ext {m m' : Mem} {v : Value} {Gs : List GateV} (h : GsAt m v Gs) (he : Ext m m') : GsAt m' v Gs := by
 rcases h with h | ⟨b, cap, rw_, c, h1, h2, h3⟩
 ·exact .inl h
 ·refine .inr ⟨b, cap, rw_, c, h1, he.cells h2, fun i g hi => ?_⟩
  obtain ⟨s, e1, e2, e3, e4⟩ := h3 i g hi
  exact ⟨s, e1, e2, e3.ext he, e4⟩
theorem GsAt.len {m : Mem} {v : Value} {Gs : List GateV} (h : GsAt m v Gs) : ∃ q cap, v = .slice q Gs.length cap := by
 rcases h with ⟨rfl, rfl | ⟨_, _, rfl⟩⟩ | ⟨b, cap, rw_, c, rfl, _⟩ <;> exact ⟨_, _, rfl⟩
theorem GsAt.gate {m : Mem} {v : Value} {Gs : List GateV} (h : GsAt m v Gs) {i : Nat} {g : GateV} (hi : Gs[i]? = some g) :
  ∃ b cap r c q cw, v = .slice (some ⟨b, 0, some 4⟩) Gs.length cap ∧ Mem.get m b = .cells r c ∧ i * 4 + 4 ≤ c.size ∧ c.extract (0 + i * 4) (0 + i * 4 + 4) = #[.int .i64 g.1, .slice q g.2.1.length cw, .int .i64 g.2.2.1, .int .i64 g.2.2.2] ∧ IntsAt m (.slice q g.2.1.length cw) g.2.1 ∧ CapOk (.slice q g.2.1.length cw) := by
 rcases h with ⟨rfl, _⟩ | ⟨b, cap, rw_, c, rfl, h2, h3⟩
 ·cases hi
 ·obtain ⟨s, e1, e2, e3, e4⟩ := h3 i g hi
  obtain ⟨q, cw, rfl⟩ := e3.len
  exact ⟨b, cap, rw_, c, q, cw, rfl, h2, e1, e2, e3, e4⟩
theorem OwnF.capOk {N : Nat} {m : Mem} {v : Value} {l : List Int} (h : OwnF N m v l) : CapOk v := by
 intro q k c e
 rcases h with ⟨rfl, rfl⟩ | ⟨b, cap, c', r, h1, h2, h3, h4, h5⟩
 ·cases e; exact Nat.le_refl _
 ·rw [r] at e; cases e; exact h3
/-- Part of readable numbers. -/
theorem cut_ints {m : Mem} {v : Value} {L : List Nat} {k : Nat} (h : IntsAt m v (ofs L)) (hc : CapOk v) (hk : k ≤ L.length) : ∃ v2, aSlice Tryd.prog m 22 v none (some (nv k)) none = some v2 ∧ IntsAt m v2 (ofs (L.take k)) ∧ (∃ q c, v2 = .slice q (L.take k).length c) := by
 rcases h with ⟨h1, rfl | ⟨b, o, rfl⟩⟩ | ⟨b, o, cap, r, c, rfl, h2, h3⟩
 ·obtain rfl : L = [] := by cases L with
   | nil => rfl
   | cons a r => simp [ofs] at h1
  obtain rfl : k = 0 := by simpa using hk
  exact ⟨.slice none 0 0, by simp only [aSlice, T22, S3, aBounds]; rfl, .inl ⟨rfl, .inl rfl⟩, _, _, rfl⟩
 ·obtain rfl : L = [] := by cases L with
   | nil => rfl
   | cons a r => simp [ofs] at h1
  obtain rfl : k = 0 := by simpa using hk
  exact ⟨_, by simp only [aSlice, T22, S3, aBounds]; rfl, .inl ⟨rfl, .inr ⟨_, _, rfl⟩⟩, _, _, rfl⟩
 ·have h4 := hc _ _ _ rfl
  rw [ofs_length] at h4
  have hkc : k ≤ cap := by omega
  refine ⟨_, aSlice_hi T22 S3 hkc, .inr ⟨b, o, cap, r, c, by rw [ofs_length, List.length_take, Nat.min_eq_left hk], h2, fun i x hx => h3 i x ?_⟩, _, _, by rw [List.length_take, Nat.min_eq_left hk]⟩
  simp only [ofs, List.map_take, List.getElem?_take] at hx
  split at hx
  ·exact hx
  ·cases hx
theorem spec_wireI {m : Mem} {p : Nat} {n x : Int} {r : Bool} {a b d : Value} (h : Mem.get m p = .cells r #[.int .i64 n, a, b, d]) : ACalls Tryd.prog 152 #[.int .i64 x, .pointer (some ⟨p, 0, none⟩)] m (.bool (decide (0 ≤ x) && decide (x < n))) m := by
 refine ACalls.callee ?_
 refine wpF (args := [_, _]) mixed okf152 (fn := Tryd.f152) rfl rfl rfl (by simp) ?_
 refine cSR ?_
 refine sAs (v := .bool _) rfl ?_
 refine sN ?_
 refine cSR ?_
 refine sMv (v := .int _ _) rfl ?_
 refine sBinI (v := .bool (decide (0 ≤ x))) (b := 0) rfl rfl aInt_geqI ?_
 refine sMv (v := .bool _) rfl ?_
 by_cases h1 : 0 ≤ x
 ·
  rw [decide_eq_true h1]
  refine sG rfl rfl ?_
  refine sMv (v := .int _ _) rfl ?_
  refine sG rfl rfl ?_
  refine sFA F157_0 rfl ?_
  refine sG rfl rfl ?_
  refine sFA F30_0 rfl ?_
  refine sG rfl rfl ?_
  refine sLd (v := .int .i64 n) A3 rfl h rfl ?_
  refine sG rfl rfl ?_
  refine sBinI (v := .bool (decide (x < n))) rfl rfl aInt_lssI ?_
  refine sP (v := .bool _) rfl ?_
  refine sAs (v := .bool _) rfl ?_
  refine sN ?_
  refine cRet ?_
  exact ⟨.inr rfl, _, rfl, rfl, rfl⟩
 ·
  rw [decide_eq_false h1]
  refine sGF rfl rfl ?_
  refine sGF rfl rfl ?_
  refine sGF rfl rfl ?_
  refine sGF rfl rfl ?_
  refine sGF rfl rfl ?_
  refine sP (v := .bool _) rfl ?_
  refine sAs (v := .bool _) rfl ?_
  refine sN ?_
  refine cRet ?_
  exact ⟨.inr rfl, _, rfl, rfl, rfl⟩
theorem spec_ArityI {m : Mem} {k : Int} : ACalls Tryd.prog 153 #[.int .i64 k] m (nv (arI k)) m := by
 refine ACalls.callee ?_
 refine wpF (args := [_]) mixed okf153 (fn := Tryd.f153) rfl rfl rfl (by simp) ?_
 refine cSR ?_
 refine sAs (v := nv 0) rfl ?_
 refine sN ?_
 refine cSeq (cBlock (cSR ?_))
 refine sMv (v := .int _ _) rfl ?_
 refine sBinI (v := .bool (decide (k = 12))) (b := 12) rfl rfl aInt_eqlI ?_
 refine sAs (v := .bool _) rfl ?_
 refine sN ?_
 refine cCond (p := k = 12) rfl (fun c0 => ?_) (fun c0 => ?_)
 ·
  refine cSR ?_
  refine sAs (v := nv 3) rfl ?_
  refine sN ?_
  refine cRet (kBlkR (kSeqR ?_))
  exact ⟨.inr rfl, _, rfl, by rw [arI, if_pos c0]; rfl, rfl⟩
 ·
  refine cSR ?_
  refine sMv (v := .int _ _) rfl ?_
  refine sBinI (v := .bool (decide (9 ≤ k))) (b := 9) rfl rfl aInt_geqI ?_
  refine sMv (v := .bool _) rfl ?_
  by_cases h9 : 9 ≤ k
  ·
   rw [decide_eq_true h9]
   refine sG rfl rfl ?_
   refine sMv (v := .int _ _) rfl ?_
   refine sG rfl rfl ?_
   refine sBinI (v := .bool (decide (k ≤ 11))) (b := 11) rfl rfl aInt_leqI ?_
   refine sP (v := .bool _) rfl ?_
   refine sAs (v := .bool _) rfl ?_
   refine sN ?_
   refine cCond (p := k ≤ 11) rfl (fun c1 => ?_) (fun c1 => ?_)
   ·
    refine cSR ?_
    refine sAs (v := nv 2) rfl ?_
    refine sN ?_
    refine cRet (kBlkR (kSeqR ?_))
    exact ⟨.inr rfl, _, rfl, by rw [arI, if_neg c0, if_pos ⟨h9, c1⟩]; rfl, rfl⟩
   ·
    refine cSR ?_
    refine sMv (v := .int _ _) rfl ?_
    refine sBinI (v := .bool (decide (1 ≤ k))) (b := 1) rfl rfl aInt_geqI ?_
    refine sMv (v := .bool _) rfl ?_
    by_cases h1 : 1 ≤ k
    ·
     rw [decide_eq_true h1]
     refine sG rfl rfl ?_
     refine sMv (v := .int _ _) rfl ?_
     refine sG rfl rfl ?_
     refine sBinI (v := .bool (decide (k ≤ 14))) (b := 14) rfl rfl aInt_leqI ?_
     refine sP (v := .bool _) rfl ?_
     refine sAs (v := .bool _) rfl ?_
     refine sN ?_
     refine cCond (p := k ≤ 14) rfl (fun c2 => ?_) (fun c2 => ?_)
     ·
      refine cSR ?_
      refine sAs (v := nv 1) rfl ?_
      refine sN ?_
      refine cRet (kBlkR (kSeqR ?_))
      exact ⟨.inr rfl, _, rfl, by rw [arI, if_neg c0, if_neg (fun h => c1 h.2), if_pos ⟨h1, c2⟩]; rfl, rfl⟩
     ·
      refine cSkip (kBlkN (kSeqN ?_))
      refine cSR ?_
      refine sAs (v := nv 0) rfl ?_
      refine sN ?_
      refine cRet ?_
      exact ⟨.inr rfl, _, rfl, by rw [arI, if_neg c0, if_neg (fun h => c1 h.2), if_neg (fun h => c2 h.2)]; rfl, rfl⟩
    ·
     rw [decide_eq_false h1]
     refine sGF rfl rfl ?_
     refine sGF rfl rfl ?_
     refine sP (v := .bool _) rfl ?_
     refine sAs (v := .bool _) rfl ?_
     refine sN ?_
     refine cCondF rfl ?_
     refine cSkip (kBlkN (kSeqN ?_))
     refine cSR ?_
     refine sAs (v := nv 0) rfl ?_
     refine sN ?_
     refine cRet ?_
     exact ⟨.inr rfl, _, rfl, by rw [arI, if_neg c0, if_neg (fun h => c1 h.2), if_neg (fun h => h1 h.1)]; rfl, rfl⟩
  ·
   rw [decide_eq_false h9]
   refine sGF rfl rfl ?_
   refine sGF rfl rfl ?_
   refine sP (v := .bool _) rfl ?_
   refine sAs (v := .bool _) rfl ?_
   refine sN ?_
   refine cCondF rfl ?_
   refine cSR ?_
   refine sMv (v := .int _ _) rfl ?_
   refine sBinI (v := .bool (decide (1 ≤ k))) (b := 1) rfl rfl aInt_geqI ?_
   refine sMv (v := .bool _) rfl ?_
   by_cases h1 : 1 ≤ k
   ·
    rw [decide_eq_true h1]
    refine sG rfl rfl ?_
    refine sMv (v := .int _ _) rfl ?_
    refine sG rfl rfl ?_
    refine sBinI (v := .bool (decide (k ≤ 14))) (b := 14) rfl rfl aInt_leqI ?_
    refine sP (v := .bool _) rfl ?_
    refine sAs (v := .bool _) rfl ?_
    refine sN ?_
    refine cCond (p := k ≤ 14) rfl (fun c2 => ?_) (fun c2 => ?_)
    ·
     refine cSR ?_
     refine sAs (v := nv 1) rfl ?_
     refine sN ?_
     refine cRet (kBlkR (kSeqR ?_))
     exact ⟨.inr rfl, _, rfl, by rw [arI, if_neg c0, if_neg (fun h => h9 h.1), if_pos ⟨h1, c2⟩]; rfl, rfl⟩
    ·
     refine cSkip (kBlkN (kSeqN ?_))
     refine cSR ?_
     refine sAs (v := nv 0) rfl ?_
     refine sN ?_
     refine cRet ?_
     exact ⟨.inr rfl, _, rfl, by rw [arI, if_neg c0, if_neg (fun h => h9 h.1), if_neg (fun h => c2 h.2)]; rfl, rfl⟩
   ·
    rw [decide_eq_false h1]
    refine sGF rfl rfl ?_
    refine sGF rfl rfl ?_
    refine sP (v := .bool _) rfl ?_
    refine sAs (v := .bool _) rfl ?_
    refine sN ?_
    refine cCondF rfl ?_
    refine cSkip (kBlkN (kSeqN ?_))
    refine cSR ?_
    refine sAs (v := nv 0) rfl ?_
    refine sN ?_
    refine cRet ?_
    exact ⟨.inr rfl, _, rfl, by rw [arI, if_neg c0, if_neg (fun h => h9 h.1), if_neg (fun h => h1 h.1)]; rfl, rfl⟩
def H136g : Nat → List (Nat × Nat) := fun id => if id = 4 then [(1, 6), (2, 6)] else []
theorem okf136g : okF Tryd.prog H136g 136 96 = true := by kernel_rfl
theorem spec_gateI {m : Mem} {n b : Int} {sl ws d : Value} {g : GateV} (hw : IntsAt m ws g.2.1) (hk : CapOk ws) : ∃ v m', ACalls Tryd.prog 136 #[.agg #[.int .i64 n, .int .i64 b, sl, d], .agg #[.int .i64 g.1, ws, .int .i64 g.2.2.1, .int .i64 g.2.2.2]] m v m' ∧ (v = nv (gateE n b g) ∧ Ext m m') := by
 obtain ⟨k, l, bt, cf⟩ := g
 simp only at hw ⊢
 obtain ⟨qw, cw, rfl⟩ := hw.len
 have ex : Ext m ((m.push (.cells true #[.int .i64 n, .int .i64 b, sl, d])).push (.cells true #[.int .i64 k, .slice qw l.length cw, .int .i64 bt, .int .i64 cf])) := (Ext.push _ _).trans (.push _ _)
 have g1 : Mem.get ((m.push (.cells true #[.int .i64 n, .int .i64 b, sl, d])).push (.cells true #[.int .i64 k, .slice qw l.length cw, .int .i64 bt, .int .i64 cf])) m.size = .cells true #[.int .i64 n, .int .i64 b, sl, d] := by rw [gPn (by simp), gP rfl]
 have g2 : Mem.get ((m.push (.cells true #[.int .i64 n, .int .i64 b, sl, d])).push (.cells true #[.int .i64 k, .slice qw l.length cw, .int .i64 bt, .int .i64 cf])) (m.size + 1) = .cells true #[.int .i64 k, .slice qw l.length cw, .int .i64 bt, .int .i64 cf] := gP (by simp)
 refine wpF (args := [_, _]) mixed okf136g (fn := Tryd.f136) rfl rfl rfl (by simp) ?_
 refine cSR ?_
 refine sBox (v := .agg _) rfl ?_
 refine sBoxB (bl := m.size + 1) (v := .agg _) (by simp) rfl ?_
 change wpOps _ _ _ _ _ ((m.push (.cells true #[.int .i64 n, .int .i64 b, sl, d])).push (.cells true #[.int .i64 k, .slice qw l.length cw, .int .i64 bt, .int .i64 cf]))
 generalize ((m.push (.cells true #[.int .i64 n, .int .i64 b, sl, d])).push (.cells true #[.int .i64 k, .slice qw l.length cw, .int .i64 bt, .int .i64 cf])) = M at *
 have hwM := hw.ext ex
 refine sAs (v := nv 0) rfl ?_
 refine sN ?_
 refine cSR ?_
 refine sMFc1 rfl ?_
 refine sAs (v := .func _ _ _) rfl ?_
 refine sN ?_
 refine cSeq (cBlock (cSR ?_))
 refine sFA F49_0 rfl ?_
 refine sLd (v := .int .i64 k) A3 rfl g2 rfl ?_
 refine sCall1 rfl call153 rfl spec_ArityI ?_
 refine sBin (a := arI k) (b := 0) rfl rfl aInt_eql ?_
 refine sAs (v := .bool _) rfl ?_
 refine sN ?_
 refine cCond (p := arI k = 0) rfl (fun c0 => ?_) (fun c0 => ?_)
 ·
  refine cSR ?_
  refine sAs (v := nv 3) rfl ?_
  refine sN ?_
  refine cRet (kBlkR (kSeqR ?_))
  exact ⟨.inr rfl, _, rfl, by rw [gE1 c0]; rfl, ex⟩
 ·
  refine cSeq ?_
  refine cDrawH (hs := [(1, 6), (2, 6)]) rfl (by decide) ?_
  refine lStepO (sFA F49_1 rfl (sNil fun e0 hm0 => ?_))
  refine lStepLd (v := .slice qw l.length cw) A22 rfl g2 rfl fun e1 hm1 hv1 hr1 => ?_
  refine lStepLen T22 rfl fun e2 hm2 hv2 hr2 => ?_
  refine lStepO (sFA F49_0 rfl (sNil fun e3 hm3 => ?_))
  refine lStepLd (v := .int .i64 k) A3 rfl g2 rfl fun e4 hm4 hv4 hr4 => ?_
  refine lStepO (sCall1 rfl call153 rfl spec_ArityI (sNil fun e5 hm5 => ?_))
  refine lStepO (sBin (a := l.length) (b := arI k) rfl rfl aInt_neq (sNil fun e6 hm6 => ?_))
  refine lStepO (sAs (v := .bool _) rfl (sNil fun e7 hm7 => ?_))
  refine ⟨?_, (kSeqN ?_)⟩
  ·
   refine obl_atE (e := e1) (e' := e6) (by simp) (by rfl) (by simp) ((hr1 e6.m _ _ (by rw [hm6]; exact g2) (by rfl)).trans (congrArg some hv1.symm)) ?_
   refine obl_pure (e := e2) (by simp) (by rfl) (hr2.trans (congrArg some hv2.symm)) ?_
   trivial
  refine cCond (p := l.length ≠ arI k) rfl (fun c1 => ?_) (fun c1 => ?_)
  ·
   refine cSR ?_
   refine sAs (v := nv 2) rfl ?_
   refine sN ?_
   refine cRet (kBlkR (kSeqR ?_))
   exact ⟨.inr rfl, _, rfl, by rw [gE2 c0 c1]; rfl, ex⟩
  ·
   have hl14 : l.length ≤ 3 := by
    have h1 : l.length = arI k := Classical.byContradiction c1
    have := arI_le k
    omega
   refine cSR ?_
   refine sFA F49_1 rfl ?_
   refine sLd (v := .slice qw l.length cw) A22 rfl g2 rfl ?_
   refine sMv (v := .func _ _ _) rfl ?_
   obtain ⟨v27, m27, h27, rfl, e27⟩ := spec_every (m := M) (p := fun x => decide (0 ≤ x) && decide (x < n)) (g := 152) (cp := #[.pointer (some ⟨m.size, 0, none⟩)]) hwM (by omega) call152 fun x _ m' he => spec_wireI (he.cells g1)
   refine sCall2 rfl call154 rfl rfl h27 ?_
   replace g1 := e27.cells g1
   replace g2 := e27.cells g2
   replace ex := ex.trans e27
   replace hwM := hwM.ext e27
   have hall : (l.all fun x => decide (0 ≤ x) && decide (x < n)) = true ↔ ∀ w ∈ l, 0 ≤ w ∧ w < n := by simp [List.all_eq_true]
   have hb3 : decide (¬ ∀ w ∈ l, 0 ≤ w ∧ w < n) = !(l.all fun x => decide (0 ≤ x) && decide (x < n)) := by
    by_cases h3 : ∀ w ∈ l, 0 ≤ w ∧ w < n
    ·rw [hall.2 h3, decide_eq_false (fun h => h h3)]; rfl
    ·rw [Bool.eq_false_iff.2 (fun h => h3 (hall.1 h)), decide_eq_true h3]; rfl
   refine sP (v := .bool (decide (¬ ∀ w ∈ l, 0 ≤ w ∧ w < n))) (by rw [hb3]; rfl) ?_
   refine sAs (v := .bool _) rfl ?_
   refine sN ?_
   refine cCond (p := ¬ ∀ w ∈ l, 0 ≤ w ∧ w < n) rfl (fun c2 => ?_) (fun c2 => ?_)
   ·
    refine cSR ?_
    refine sAs (v := nv 1) rfl ?_
    refine sN ?_
    refine cRet (kBlkR (kSeqR ?_))
    exact ⟨.inr rfl, _, rfl, by rw [gE3 c0 c1 c2]; rfl, ex⟩
   ·
    have h3 : ∀ w ∈ l, 0 ≤ w ∧ w < n := Classical.byContradiction c2
    obtain ⟨w, rfl⟩ : ∃ w : List Nat, l = ofs w := ⟨l.map Int.toNat, (ofs_toNat fun y hy => (h3 y hy).1).symm⟩
    have c1' : ¬ w.length ≠ arI k := by rw [ofs_length] at c1; exact c1
    have hl14' : w.length ≤ 3 := by rw [ofs_length] at hl14; exact hl14
    rw [ofs_length] at hwM hk g2
    refine cSkip (kBlkN (kSeqN ?_))
    refine cSeq (cSR ?_)
    refine sFA F49_1 rfl ?_
    refine sLd (v := .slice qw w.length cw) A22 rfl g2 rfl ?_
    refine sLen T22 rfl ?_
    refine sMv (v := nv 0) rfl ?_
    refine sN ?_
    refine cBlock ?_
    refine wpC_loop (fun k' ρ m' => ∃ i, k' = w.length - i ∧ i ≤ w.length ∧ (∀ (j : Nat) x, j < i → w[j]? = some x → x ∉ w.take j) ∧ m27 = m' ∧ Has ρ [(2, .pointer (some ⟨m.size, 0, none⟩)), (3, .pointer (some ⟨m.size + 1, 0, none⟩)), (30, .slice qw w.length cw), (31, nv w.length), (32, nv i)]) ⟨0, rfl, by omega, fun j x h => absurd h (by omega), rfl, rfl, rfl, rfl, rfl, rfl, trivial⟩ ?_
    rintro k' ρ _ ⟨i, rfl, hi, hr, rfl, hh⟩
    rw [hh.env]; clear hh
    refine cSR ?_
    refine sBin rfl rfl (aInt_lss) ?_
    refine sN ?_
    refine cSeq ?_
    refine cCond rfl (fun c3 => ?_) (fun c3 => ?_)
    ·
     obtain ⟨b1, o1, p1, r1, cc, ee1, gg, x1⟩ := hwM.atN (by omega)
     cases ee1
     refine cSkip (kSeqN ?_)
     refine cSeq (cBlock (cSR ?_))
     refine sMv (v := nv _) rfl ?_
     refine sIx T22 S3 rfl rfl (by omega) ?_
     refine sLd (v := nv w[i]) A3 rfl gg (x1 i w[i] (by simp)) ?_
     refine sAs (v := nv _) rfl ?_
     refine sAs (v := nv _) rfl ?_
     refine sN ?_
     refine cSR ?_
     refine sFA F49_1 rfl ?_
     refine sLd (v := .slice _ _ _) A22 rfl g2 rfl ?_
     refine sMv (v := nv _) rfl ?_
     obtain ⟨v40, h40, o40, q40, c40, rfl⟩ := cut_ints hwM hk (Nat.le_of_lt c3)
     refine sO (v := .slice q40 (w.take i).length c40) (m' := m27) (opF_read rfl h40) ?_
     refine sMv (v := nv _) rfl ?_
     refine sCall2 rfl call155 rfl rfl (spec_Contains o40 (by simp; omega) (x := w[i])) ?_
     refine sN ?_
     refine cCond (p := w[i] ∈ w.take i) rfl (fun c4 => ?_) (fun c4 => ?_)
     ·
      refine cSR ?_
      refine sAs (v := nv 5) rfl ?_
      refine sN ?_
      refine cRet (kBlkR (kSeqR (kSeqR (kBlkR (kSeqR ?_)))))
      refine ⟨.inr rfl, _, rfl, ?_, ex⟩
      rw [gE4 c0 c1 h3 (fun hn => nodup_take_not (ofs_nodup.1 hn) c3 c4)]; rfl
     ·
      refine cSkip (kBlkN (kSeqN ?_))
      refine cRegion ?_
      refine sBin rfl rfl (aInt_add (b := 1) (by omega)) ?_
      refine sMv (v := nv _) rfl ?_
      refine sN ?_
      refine ⟨_, ?_, i + 1, rfl, by omega, fun j x hj hx => ?_, rfl, rfl, rfl, rfl, rfl, rfl, trivial⟩
      ·omega
      ·by_cases e : j = i
       ·subst e
        rw [List.getElem?_eq_getElem c3] at hx
        cases hx; exact c4
       ·exact hr j x (by omega) hx
    ·
     have h4 : (ofs w).Nodup := ofs_nodup.2 (nodup_of_take fun j x hx => hr j x (by have := (List.getElem?_eq_some_iff.1 hx).1; omega) hx)
     refine cExit (kSeqE (kSeqE (kBlkS (kSeqN ?_))))
     refine cSR ?_
     refine sFA F49_0 rfl ?_
     refine sLd (v := .int .i64 k) A3 rfl g2 rfl ?_
     refine sBinI (v := .bool (decide (k = 13))) (b := 13) rfl rfl aInt_eqlI ?_
     refine sAs (v := .bool _) rfl ?_
     refine sN ?_
     refine cSeq (cBlock ?_)
     refine cCut (fun ρ M => m27 = M ∧ Has ρ [(2, .pointer (some ⟨m.size, 0, none⟩)), (3, .pointer (some ⟨m.size + 1, 0, none⟩)), (8, .bool (decide (k = 13))), (47, .bool (decide (cf < 0 ∨ b < cf ∨ (k = 13 ∧ (bt < 0 ∨ b ≤ bt)))))]) ?_ ?_
     ·
      refine cRegion ?_
      refine sFA F49_3 rfl ?_
      refine sLd (v := .int .i64 cf) A3 rfl g2 rfl ?_
      refine sBinI (v := .bool (decide (cf < 0))) (b := 0) rfl rfl aInt_lssI ?_
      refine sMv (v := .bool _) rfl ?_
      by_cases q1 : cf < 0
      ·
       rw [decide_eq_true q1]
       refine sGT rfl rfl ?_
       refine sGT rfl rfl ?_
       refine sGT rfl rfl ?_
       refine sGT rfl rfl ?_
       refine sGT rfl rfl ?_
       refine sGT rfl rfl ?_
       refine sP (v := .bool _) rfl ?_
       refine sMv (v := .bool _) rfl ?_
       refine sGT rfl rfl ?_
       refine sGT rfl rfl ?_
       refine sGnoU rfl rfl ?_
       refine sGnoU rfl rfl ?_
       refine sGnoU rfl rfl ?_
       refine sGnoU rfl rfl ?_
       refine sGnoU rfl rfl ?_
       refine sGnoU rfl rfl ?_
       refine sGnoU rfl rfl ?_
       refine sGnoU rfl rfl ?_
       refine sGnoU rfl rfl ?_
       refine sGnoU rfl rfl ?_
       refine sGnoU rfl rfl ?_
       refine sGT rfl rfl ?_
       refine sP (v := .bool _) rfl ?_
       refine sAs (v := .bool _) rfl ?_
       refine sN ?_
       exact ⟨rfl, rfl, rfl, rfl, by rw [decide_eq_true (p := cf < 0 ∨ b < cf ∨ (k = 13 ∧ (bt < 0 ∨ b ≤ bt))) (.inl q1)]; rfl, trivial⟩
      ·
       rw [decide_eq_false q1]
       refine sG rfl rfl ?_
       refine sFA F49_3 rfl ?_
       refine sG rfl rfl ?_
       refine sLd (v := .int .i64 cf) A3 rfl g2 rfl ?_
       refine sG rfl rfl ?_
       refine sFA F157_0 rfl ?_
       refine sG rfl rfl ?_
       refine sFA F30_1 rfl ?_
       refine sG rfl rfl ?_
       refine sLd (v := .int .i64 b) A3 rfl g1 rfl ?_
       refine sG rfl rfl ?_
       refine sBinI (v := .bool (decide (b < cf))) rfl rfl aInt_gtrI ?_
       refine sP (v := .bool _) rfl ?_
       refine sMv (v := .bool _) rfl ?_
       by_cases q2 : b < cf
       ·
        rw [decide_eq_true q2]
        refine sGT rfl rfl ?_
        refine sGT rfl rfl ?_
        refine sGnoU rfl rfl ?_
        refine sGnoU rfl rfl ?_
        refine sGnoU rfl rfl ?_
        refine sGnoU rfl rfl ?_
        refine sGnoU rfl rfl ?_
        refine sGnoU rfl rfl ?_
        refine sGnoU rfl rfl ?_
        refine sGnoU rfl rfl ?_
        refine sGnoU rfl rfl ?_
        refine sGnoU rfl rfl ?_
        refine sGnoU rfl rfl ?_
        refine sGT rfl rfl ?_
        refine sP (v := .bool _) rfl ?_
        refine sAs (v := .bool _) rfl ?_
        refine sN ?_
        exact ⟨rfl, rfl, rfl, rfl, by rw [decide_eq_true (p := cf < 0 ∨ b < cf ∨ (k = 13 ∧ (bt < 0 ∨ b ≤ bt))) (.inr (.inl q2))]; rfl, trivial⟩
       ·
        rw [decide_eq_false q2]
        refine sG rfl rfl ?_
        refine sMv (v := .bool (decide (k = 13))) rfl ?_
        refine sG rfl rfl ?_
        refine sMv (v := .bool _) rfl ?_
        by_cases q3 : k = 13
        ·
         rw [decide_eq_true q3]
         refine sG rfl rfl ?_
         refine sFA F49_2 rfl ?_
         refine sG rfl rfl ?_
         refine sLd (v := .int .i64 bt) A3 rfl g2 rfl ?_
         refine sG rfl rfl ?_
         refine sBinI (v := .bool (decide (bt < 0))) (b := 0) rfl rfl aInt_lssI ?_
         refine sG rfl rfl ?_
         refine sMv (v := .bool _) rfl ?_
         by_cases q4 : bt < 0
         ·
          rw [decide_eq_true q4]
          refine sGT rfl rfl ?_
          refine sGT rfl rfl ?_
          refine sGT rfl rfl ?_
          refine sGT rfl rfl ?_
          refine sGT rfl rfl ?_
          refine sGT rfl rfl ?_
          refine sG rfl rfl ?_
          refine sP (v := .bool _) rfl ?_
          refine sG rfl rfl ?_
          refine sP (v := .bool _) rfl ?_
          refine sP (v := .bool _) rfl ?_
          refine sAs (v := .bool _) rfl ?_
          refine sN ?_
          exact ⟨rfl, rfl, rfl, (by first | rfl | (rw [decide_eq_true q3]; rfl)), by rw [decide_eq_true (p := cf < 0 ∨ b < cf ∨ (k = 13 ∧ (bt < 0 ∨ b ≤ bt))) (.inr (.inr ⟨q3, .inl q4⟩))]; rfl, trivial⟩
         ·
          rw [decide_eq_false q4]
          refine sG rfl rfl ?_
          refine sFA F49_2 rfl ?_
          refine sG rfl rfl ?_
          refine sLd (v := .int .i64 bt) A3 rfl g2 rfl ?_
          refine sG rfl rfl ?_
          refine sFA F157_0 rfl ?_
          refine sG rfl rfl ?_
          refine sFA F30_1 rfl ?_
          refine sG rfl rfl ?_
          refine sLd (v := .int .i64 b) A3 rfl g1 rfl ?_
          refine sG rfl rfl ?_
          refine sBinI (v := .bool (decide (b ≤ bt))) rfl rfl aInt_geqI ?_
          refine sG rfl rfl ?_
          refine sP (v := .bool _) rfl ?_
          refine sG rfl rfl ?_
          refine sP (v := .bool _) rfl ?_
          refine sP (v := .bool _) rfl ?_
          refine sAs (v := .bool _) rfl ?_
          refine sN ?_
          exact ⟨rfl, rfl, rfl, (by first | rfl | (rw [decide_eq_true q3]; rfl)), by rw [show decide (cf < 0 ∨ b < cf ∨ (k = 13 ∧ (bt < 0 ∨ b ≤ bt))) = decide (b ≤ bt) from decide_eq_decide.2 ⟨fun h => by omega, fun h => by omega⟩]; rfl, trivial⟩
        ·
         rw [decide_eq_false q3]
         refine sGF rfl rfl ?_
         refine sGF rfl rfl ?_
         refine sGF rfl rfl ?_
         refine sGF rfl rfl ?_
         refine sGnoU rfl rfl ?_
         refine sGnoU rfl rfl ?_
         refine sGnoU rfl rfl ?_
         refine sGnoU rfl rfl ?_
         refine sGnoU rfl rfl ?_
         refine sGnoU rfl rfl ?_
         refine sGF rfl rfl ?_
         refine sG rfl rfl ?_
         refine sP (v := .bool _) rfl ?_
         refine sP (v := .bool _) rfl ?_
         refine sAs (v := .bool _) rfl ?_
         refine sN ?_
         exact ⟨rfl, rfl, rfl, (by first | rfl | (rw [decide_eq_false q3]; rfl)), by rw [decide_eq_false (p := cf < 0 ∨ b < cf ∨ (k = 13 ∧ (bt < 0 ∨ b ≤ bt))) (by omega)]; rfl, trivial⟩
     rintro ρ _ ⟨rfl, hh⟩
     rw [hh.env]; clear hh
     refine cCond (p := cf < 0 ∨ b < cf ∨ (k = 13 ∧ (bt < 0 ∨ b ≤ bt))) rfl (fun h5 => ?_) (fun h5 => ?_)
     ·
      refine cSR ?_
      refine sAs (v := nv 1) rfl ?_
      refine sN ?_
      refine cRet (kBlkR (kSeqR ?_))
      exact ⟨.inr rfl, _, rfl, by rw [gE5 c0 c1 h3 h4 h5]; rfl, ex⟩
     ·
      refine cSR ?_
      refine sMv (v := .bool _) rfl ?_
      refine sMv (v := .bool _) rfl ?_
      by_cases q3 : k = 13
      ·
       rw [decide_eq_true q3]
       refine sGT rfl rfl ?_
       refine sGT rfl rfl ?_
       refine sGT rfl rfl ?_
       refine sP (v := .bool _) rfl ?_
       refine sMv (v := .bool _) rfl ?_
       refine sG rfl rfl ?_
       refine sFA F49_3 rfl ?_
       refine sG rfl rfl ?_
       refine sLd (v := .int .i64 cf) A3 rfl g2 rfl ?_
       refine sG rfl rfl ?_
       refine sBinI (v := .bool (decide (cf ≠ 0))) (b := 0) rfl rfl aInt_neqI ?_
       refine sP (v := .bool _) rfl ?_
       refine sMv (v := .bool _) rfl ?_
       by_cases q6 : cf ≠ 0
       ·
        rw [decide_eq_true q6]
        refine sGT rfl rfl ?_
        refine sGT rfl rfl ?_
        refine sGT rfl rfl ?_
        refine sGnoU rfl rfl ?_
        refine sGnoU rfl rfl ?_
        refine sGnoU rfl rfl ?_
        refine sGT rfl rfl ?_
        refine sP (v := .bool _) rfl ?_
        refine sAs (v := .bool _) rfl ?_
        refine sN ?_
        refine cCondT rfl ?_
        refine cSR ?_
        refine sAs (v := nv 7) rfl ?_
        refine sN ?_
        refine cRet (kBlkR (kSeqR ?_))
        exact ⟨.inr rfl, _, rfl, by rw [gE6 c0 c1 h3 h4 h5 (.inl ⟨.inl q3, q6⟩)]; rfl, ex⟩
       ·
        rw [decide_eq_false q6]
        refine sG rfl rfl ?_
        refine sMv (v := .bool _) rfl ?_
        refine sG rfl rfl ?_
        refine sP (v := .bool _) rfl ?_
        refine sG rfl rfl ?_
        refine sMv (v := .bool _) rfl ?_
        refine sGF rfl rfl ?_
        refine sGF rfl rfl ?_
        refine sGF rfl rfl ?_
        refine sG rfl rfl ?_
        refine sP (v := .bool _) rfl ?_
        refine sP (v := .bool _) rfl ?_
        refine sAs (v := .bool _) rfl ?_
        refine sN ?_
        refine cCondF rfl ?_
        refine cSkip (kBlkN (kSeqN ?_))
        refine cSR ?_
        refine sAs (v := nv 0) rfl ?_
        refine sN ?_
        refine cRet ?_
        exact ⟨.inr rfl, _, rfl, by rw [gE7 c0 c1 h3 h4 h5 (by omega)]; rfl, ex⟩
      ·
       rw [decide_eq_false q3]
       refine sG rfl rfl ?_
       refine sFA F49_0 rfl ?_
       refine sG rfl rfl ?_
       refine sLd (v := .int .i64 k) A3 rfl g2 rfl ?_
       refine sG rfl rfl ?_
       refine sBinI (v := .bool (decide (k = 14))) (b := 14) rfl rfl aInt_eqlI ?_
       refine sP (v := .bool _) rfl ?_
       refine sMv (v := .bool _) rfl ?_
       by_cases q5 : k = 14
       ·
        rw [decide_eq_true q5]
        refine sG rfl rfl ?_
        refine sFA F49_3 rfl ?_
        refine sG rfl rfl ?_
        refine sLd (v := .int .i64 cf) A3 rfl g2 rfl ?_
        refine sG rfl rfl ?_
        refine sBinI (v := .bool (decide (cf ≠ 0))) (b := 0) rfl rfl aInt_neqI ?_
        refine sP (v := .bool _) rfl ?_
        refine sMv (v := .bool _) rfl ?_
        by_cases q6 : cf ≠ 0
        ·
         rw [decide_eq_true q6]
         refine sGT rfl rfl ?_
         refine sGT rfl rfl ?_
         refine sGT rfl rfl ?_
         refine sGnoU rfl rfl ?_
         refine sGnoU rfl rfl ?_
         refine sGnoU rfl rfl ?_
         refine sGT rfl rfl ?_
         refine sP (v := .bool _) rfl ?_
         refine sAs (v := .bool _) rfl ?_
         refine sN ?_
         refine cCondT rfl ?_
         refine cSR ?_
         refine sAs (v := nv 7) rfl ?_
         refine sN ?_
         refine cRet (kBlkR (kSeqR ?_))
         exact ⟨.inr rfl, _, rfl, by rw [gE6 c0 c1 h3 h4 h5 (.inl ⟨.inr q5, q6⟩)]; rfl, ex⟩
        ·
         rw [decide_eq_false q6]
         refine sG rfl rfl ?_
         refine sMv (v := .bool _) rfl ?_
         refine sG rfl rfl ?_
         refine sP (v := .bool _) rfl ?_
         refine sG rfl rfl ?_
         refine sMv (v := .bool _) rfl ?_
         refine sG rfl rfl ?_
         refine sFA F49_2 rfl ?_
         refine sG rfl rfl ?_
         refine sLd (v := .int .i64 bt) A3 rfl g2 rfl ?_
         refine sG rfl rfl ?_
         refine sBinI (v := .bool (decide (bt ≠ 0))) (b := 0) rfl rfl aInt_neqI ?_
         refine sG rfl rfl ?_
         refine sP (v := .bool _) rfl ?_
         refine sP (v := .bool _) rfl ?_
         refine sAs (v := .bool _) rfl ?_
         refine sN ?_
         refine cCond (p := bt ≠ 0) rfl (fun q7 => ?_) (fun q7 => ?_)
         ·
          refine cSR ?_
          refine sAs (v := nv 7) rfl ?_
          refine sN ?_
          refine cRet (kBlkR (kSeqR ?_))
          exact ⟨.inr rfl, _, rfl, by rw [gE6 c0 c1 h3 h4 h5 (.inr ⟨q3, q7⟩)]; rfl, ex⟩
         ·
          refine cSkip (kBlkN (kSeqN ?_))
          refine cSR ?_
          refine sAs (v := nv 0) rfl ?_
          refine sN ?_
          refine cRet ?_
          exact ⟨.inr rfl, _, rfl, by rw [gE7 c0 c1 h3 h4 h5 (by omega)]; rfl, ex⟩
       ·
        rw [decide_eq_false q5]
        refine sGF rfl rfl ?_
        refine sGF rfl rfl ?_
        refine sGF rfl rfl ?_
        refine sP (v := .bool _) rfl ?_
        refine sMv (v := .bool _) rfl ?_
        refine sG rfl rfl ?_
        refine sMv (v := .bool _) rfl ?_
        refine sG rfl rfl ?_
        refine sP (v := .bool _) rfl ?_
        refine sG rfl rfl ?_
        refine sMv (v := .bool _) rfl ?_
        refine sG rfl rfl ?_
        refine sFA F49_2 rfl ?_
        refine sG rfl rfl ?_
        refine sLd (v := .int .i64 bt) A3 rfl g2 rfl ?_
        refine sG rfl rfl ?_
        refine sBinI (v := .bool (decide (bt ≠ 0))) (b := 0) rfl rfl aInt_neqI ?_
        refine sG rfl rfl ?_
        refine sP (v := .bool _) rfl ?_
        refine sP (v := .bool _) rfl ?_
        refine sAs (v := .bool _) rfl ?_
        refine sN ?_
        refine cCond (p := bt ≠ 0) rfl (fun q7 => ?_) (fun q7 => ?_)
        ·
         refine cSR ?_
         refine sAs (v := nv 7) rfl ?_
         refine sN ?_
         refine cRet (kBlkR (kSeqR ?_))
         exact ⟨.inr rfl, _, rfl, by rw [gE6 c0 c1 h3 h4 h5 (.inr ⟨q3, q7⟩)]; rfl, ex⟩
        ·
         refine cSkip (kBlkN (kSeqN ?_))
         refine cSR ?_
         refine sAs (v := nv 0) rfl ?_
         refine sN ?_
         refine cRet ?_
         exact ⟨.inr rfl, _, rfl, by rw [gE7 c0 c1 h3 h4 h5 (by omega)]; rfl, ex⟩
end Go.AM

/-! R61 -/
namespace Go.AM
open Go.Proofs
theorem B157I {a b : Int} {c d : Nat} {q : Option Addr} : aBuild Tryd.prog 157 [(0, .agg #[.int .i64 a, .int .i64 b, .slice q c d])] = some (.agg #[.int .i64 a, .int .i64 b, .slice q c d, .nilFunc]) := by kernel_rfl
theorem okf100g : okF Tryd.prog H0 100 48 = true := by kernel_rfl
theorem spec_Check4I {m : Mem} {n b : Int} {s : Value} {Gs : List GateV} (hG : GsAt m s Gs) : ∃ v m', ACalls Tryd.prog 100 #[.agg #[.int .i64 n, .int .i64 b, s]] m v m' ∧ (v = nv (circE n b Gs) ∧ Ext m m') := by
 obtain ⟨q, cap, rfl⟩ := hG.len
 refine wpF (args := [_]) mixed okf100g (fn := Tryd.f100) rfl rfl rfl (by simp) ?_
 refine cSR ?_
 refine sBox (v := .agg _) rfl ?_
 change wpOps _ _ _ _ _ (m.push (.cells true #[.int .i64 n, .int .i64 b, .slice q Gs.length cap]))
 have e1 : Ext m (m.push (.cells true #[.int .i64 n, .int .i64 b, .slice q Gs.length cap])) := .push _ _
 have g1 : Mem.get (m.push (.cells true #[.int .i64 n, .int .i64 b, .slice q Gs.length cap])) m.size = .cells true #[.int .i64 n, .int .i64 b, .slice q Gs.length cap] := gP rfl
 generalize m.push (.cells true #[.int .i64 n, .int .i64 b, .slice q Gs.length cap]) = M at *
 refine sAs (v := nv 0) rfl ?_
 refine sN ?_
 refine cSeq (cBlock ?_)
 refine cCut (fun ρ m' => M = m' ∧ Has ρ [(1, .pointer (some ⟨m.size, 0, none⟩)), (7, .bool (decide (n < 1 ∨ 12 < n ∨ b < 0 ∨ 8 < b)))]) ?_ ?_
 ·
  refine cRegion ?_
  refine sFA F30_0 rfl ?_
  refine sLd (v := .int .i64 n) A3 rfl g1 rfl ?_
  refine sBinI (v := .bool (decide (n < 1))) (b := 1) rfl rfl aInt_lssI ?_
  refine sMv (v := .bool _) rfl ?_
  by_cases q1 : n < 1
  ·
   rw [decide_eq_true q1]
   refine sGT rfl rfl ?_
   refine sGT rfl rfl ?_
   refine sGT rfl rfl ?_
   refine sP (v := .bool _) rfl ?_
   refine sMv (v := .bool _) rfl ?_
   refine sGT rfl rfl ?_
   refine sGT rfl rfl ?_
   refine sGT rfl rfl ?_
   refine sP (v := .bool _) rfl ?_
   refine sMv (v := .bool _) rfl ?_
   refine sGT rfl rfl ?_
   refine sGT rfl rfl ?_
   refine sGT rfl rfl ?_
   refine sP (v := .bool _) rfl ?_
   refine sAs (v := .bool _) rfl ?_
   refine sN ?_
   exact ⟨rfl, rfl, by rw [decide_eq_true (p := n < 1 ∨ 12 < n ∨ b < 0 ∨ 8 < b) (by omega)]; rfl, trivial⟩
  ·
   rw [decide_eq_false q1]
   refine sG rfl rfl ?_
   refine sFA F30_0 rfl ?_
   refine sG rfl rfl ?_
   refine sLd (v := .int .i64 n) A3 rfl g1 rfl ?_
   refine sG rfl rfl ?_
   refine sBinI (v := .bool (decide (12 < n))) (b := 12) rfl rfl aInt_gtrI ?_
   refine sP (v := .bool _) rfl ?_
   refine sMv (v := .bool _) rfl ?_
   by_cases q2 : 12 < n
   ·
    rw [decide_eq_true q2]
    refine sGT rfl rfl ?_
    refine sGT rfl rfl ?_
    refine sGT rfl rfl ?_
    refine sP (v := .bool _) rfl ?_
    refine sMv (v := .bool _) rfl ?_
    refine sGT rfl rfl ?_
    refine sGT rfl rfl ?_
    refine sGT rfl rfl ?_
    refine sP (v := .bool _) rfl ?_
    refine sAs (v := .bool _) rfl ?_
    refine sN ?_
    exact ⟨rfl, rfl, by rw [decide_eq_true (p := n < 1 ∨ 12 < n ∨ b < 0 ∨ 8 < b) (by omega)]; rfl, trivial⟩
   ·
    rw [decide_eq_false q2]
    refine sG rfl rfl ?_
    refine sFA F30_1 rfl ?_
    refine sG rfl rfl ?_
    refine sLd (v := .int .i64 b) A3 rfl g1 rfl ?_
    refine sG rfl rfl ?_
    refine sBinI (v := .bool (decide (b < 0))) (b := 0) rfl rfl aInt_lssI ?_
    refine sP (v := .bool _) rfl ?_
    refine sMv (v := .bool _) rfl ?_
    by_cases q3 : b < 0
    ·
     rw [decide_eq_true q3]
     refine sGT rfl rfl ?_
     refine sGT rfl rfl ?_
     refine sGT rfl rfl ?_
     refine sP (v := .bool _) rfl ?_
     refine sAs (v := .bool _) rfl ?_
     refine sN ?_
     exact ⟨rfl, rfl, by rw [decide_eq_true (p := n < 1 ∨ 12 < n ∨ b < 0 ∨ 8 < b) (by omega)]; rfl, trivial⟩
    ·
     rw [decide_eq_false q3]
     refine sG rfl rfl ?_
     refine sFA F30_1 rfl ?_
     refine sG rfl rfl ?_
     refine sLd (v := .int .i64 b) A3 rfl g1 rfl ?_
     refine sG rfl rfl ?_
     refine sBinI (v := .bool (decide (8 < b))) (b := 8) rfl rfl aInt_gtrI ?_
     refine sP (v := .bool _) rfl ?_
     refine sAs (v := .bool _) rfl ?_
     refine sN ?_
     exact ⟨rfl, rfl, by rw [show decide (n < 1 ∨ 12 < n ∨ b < 0 ∨ 8 < b) = decide (8 < b) from decide_eq_decide.2 ⟨fun h => by omega, fun h => by omega⟩]; rfl, trivial⟩
 rintro ρ _ ⟨rfl, hh⟩
 rw [hh.env]; clear hh
 refine cCond (p := n < 1 ∨ 12 < n ∨ b < 0 ∨ 8 < b) rfl (fun c0 => ?_) (fun c0 => ?_)
 ·
  refine cSR ?_
  refine sAs (v := nv 3) rfl ?_
  refine sN ?_
  refine cRet (kBlkR (kSeqR ?_))
  exact ⟨.inr rfl, _, rfl, by rw [circE, if_pos c0]; rfl, e1⟩
 ·
  refine cSR ?_
  refine sFA F30_2 rfl ?_
  refine sLd (v := .slice q Gs.length cap) A28 rfl g1 rfl ?_
  refine sLen T28 rfl ?_
  refine sBin (a := Gs.length) (b := 120) rfl rfl aInt_gtr ?_
  refine sAs (v := .bool _) rfl ?_
  refine sN ?_
  refine cCond (p := 120 < Gs.length) rfl (fun c1 => ?_) (fun c1 => ?_)
  ·
   refine cSR ?_
   refine sAs (v := nv 2) rfl ?_
   refine sN ?_
   refine cRet (kBlkR (kSeqR ?_))
   exact ⟨.inr rfl, _, rfl, by rw [circE, if_neg c0, if_pos c1]; rfl, e1⟩
  ·
   refine cSkip (kBlkN (kSeqN ?_))
   refine cSR ?_
   refine sLdAll A30 S30 rfl g1 rfl ?_
   refine sBuild B157I ?_
   refine sMFf rfl ?_
   refine sAs rfl ?_
   refine sN ?_
   refine cSeq (cSR ?_)
   refine sFA F30_2 rfl ?_
   refine sLd (v := .slice q Gs.length cap) A28 rfl g1 rfl ?_
   refine sLen T28 rfl ?_
   refine sMv (v := nv 0) rfl ?_
   refine sN ?_
   refine cBlock ?_
   refine wpC_loop (fun k' ρ m' => ∃ i, k' = Gs.length - i ∧ i ≤ Gs.length ∧ (∀ (j : Nat) g', j < i → Gs[j]? = some g' → gateE n b g' = 0) ∧ Ext M m' ∧ Has ρ [(1, .pointer (some ⟨m.size, 0, none⟩)), (3, .func (.func 136) #[.agg #[.int .i64 n, .int .i64 b, .slice q Gs.length cap, .nilFunc]] #[]), (35, .slice q Gs.length cap), (36, nv Gs.length), (37, nv i)]) ⟨0, rfl, by omega, fun j g h => absurd h (by omega), .refl _, rfl, rfl, rfl, rfl, rfl, trivial⟩ ?_
   rintro k' ρ m' ⟨i, rfl, hi, hr, X, hh⟩
   rw [hh.env]; clear hh
   refine cSR ?_
   refine sBin rfl rfl (aInt_lss) ?_
   refine sN ?_
   refine cSeq ?_
   refine cCond rfl (fun c2 => ?_) (fun c2 => ?_)
   ·
    obtain ⟨g, hgi⟩ : ∃ g, Gs[i]? = some g := ⟨_, List.getElem?_eq_getElem c2⟩
    obtain ⟨b2, cp2, r2, cc, qw, cw, ee, gb, hcs, hex, hws, hk⟩ := (hG.ext (e1.trans X)).gate hgi
    cases ee
    refine cSkip (kSeqN ?_)
    refine cSeq (cBlock (cSR ?_))
    refine sIx T28 S49 rfl rfl c2 ?_
    refine sLdA A49 S49 rfl gb (by omega) ?_
    rw [hex]
    refine sAllocB (bl := m'.size) rfl Z49 (by kernel_rfl) ?_
    refine sStNAB rfl S49 rfl rfl rfl rfl (by kernel_rfl) ?_
    refine sN ?_
    refine cSR ?_
    refine sMv rfl ?_
    refine sLdAll A49 S49 rfl (gP rfl) rfl ?_
    obtain ⟨v43, m43, h43, rfl, e43⟩ := spec_gateI (m := m'.push (.cells true #[.int .i64 g.1, .slice qw g.2.1.length cw, .int .i64 g.2.2.1, .int .i64 g.2.2.2])) (n := n) (b := b) (sl := .slice (some ⟨b2, 0, some 4⟩) Gs.length cap) (d := .nilFunc) (hws.ext (.push _ _)) hk
    refine sCallF1 rfl call136 rfl h43 ?_
    refine sAs (v := nv _) rfl ?_
    refine sN ?_
    refine cSR ?_
    refine sMv (v := nv _) rfl ?_
    refine sBin (a := gateE n b g) (b := 0) rfl rfl aInt_neq ?_
    refine sN ?_
    refine cCond (p := gateE n b g ≠ 0) rfl (fun c3 => ?_) (fun c3 => ?_)
    ·
     refine cSR ?_
     refine sMv (v := nv _) rfl ?_
     refine sAs (v := nv _) rfl ?_
     refine sN ?_
     refine cRet (kBlkR (kSeqR (kSeqR (kBlkR (kSeqR ?_)))))
     refine ⟨.inr rfl, _, rfl, ?_, (e1.trans X).trans ((Ext.push _ _).trans e43)⟩
     rw [circE, if_neg c0, if_neg c1, gatesE_up hr hgi c3]; rfl
    ·
     refine cSkip (kBlkN (kSeqN ?_))
     refine cRegion ?_
     refine sBin rfl rfl (aInt_add (b := 1) (by omega)) ?_
     refine sMv (v := nv _) rfl ?_
     refine sN ?_
     refine ⟨_, ?_, i + 1, rfl, by omega, fun j g' hj hg => ?_, X.trans ((Ext.push _ _).trans e43), rfl, rfl, rfl, rfl, rfl, trivial⟩
     ·omega
     ·by_cases e : j = i
      ·subst e
       rw [hgi] at hg; cases hg
       exact Classical.byContradiction c3
      ·exact hr j g' (by omega) hg
   ·
    refine cExit (kSeqE (kSeqE (kBlkS (kSeqN ?_))))
    refine cSR ?_
    refine sAs (v := nv 0) rfl ?_
    refine sN ?_
    refine cRet ?_
    refine ⟨.inr rfl, _, rfl, ?_, e1.trans X⟩
    rw [circE, if_neg c0, if_neg c1, gatesE_all.2 fun g hg => ?_]; rfl
    obtain ⟨j, hj⟩ := List.mem_iff_getElem?.1 hg
    exact hr j g (by have := (List.getElem?_eq_some_iff.1 hj).1; omega) hj
/-- The table of kinds: X, CX, CCX turn, Swap swaps; no other kinds are there. -/
def GlobK (m : Mem) : Prop := ∃ r b r2 es, Mem.get m 1 = .cells r #[.map (some b)] ∧ Mem.get m b = .map r2 es ∧
  (∀ k : Int, (k = 1 ∨ k = 9 ∨ k = 12) → ∃ i c, aFindNow (.int .i64) (.int .i64 k) es 0 = some (some (i, .agg #[nv c, .func (.func 76) #[] #[]]))) ∧
  (∃ i c, aFindNow (.int .i64) (.int .i64 11) es 0 = some (some (i, .agg #[nv c, .func (.func 181) #[] #[]]))) ∧
  ∀ k : Int, ¬ (k = 1 ∨ k = 9 ∨ k = 11 ∨ k = 12) → aFindNow (.int .i64) (.int .i64 k) es 0 = some none
theorem GlobK.ext {m m' : Mem} (h : GlobK m) (he : Ext m m') : GlobK m' := by
 obtain ⟨r, b, r2, es, h1, h2, h3⟩ := h
 exact ⟨r, b, r2, es, he.cells h1, by rw [he.2 b (Mem.lt_of_live (by rw [h2]; rfl)), h2], h3⟩
theorem GlobK.toC {m : Mem} (h : GlobK m) : GlobC m := by
 obtain ⟨r, b, r2, es, h1, h2, h3, _⟩ := h
 refine ⟨r, b, r2, es, h1, h2, fun k hk => h3 (Int.ofNat k) ?_⟩
 rcases hk with rfl | rfl | rfl <;> simp
def opK (k : Int) : Nat := if k = 11 then 181 else 76
def inK (k : Int) : Bool := decide (k = 1) || decide (k = 9) || decide (k = 11) || decide (k = 12)
theorem lookK {m : Mem} {b : Nat} {k : Int} {r2 : Bool} {es : List (Value × Value)} {ok : Bool} (h2 : Mem.get m b = .map r2 es)
  (h3 : (∀ k : Int, (k = 1 ∨ k = 9 ∨ k = 12) → ∃ i c, aFindNow (.int .i64) (.int .i64 k) es 0 = some (some (i, .agg #[nv c, .func (.func 76) #[] #[]]))) ∧
   (∃ i c, aFindNow (.int .i64) (.int .i64 11) es 0 = some (some (i, .agg #[nv c, .func (.func 181) #[] #[]]))) ∧
   ∀ k : Int, ¬ (k = 1 ∨ k = 9 ∨ k = 11 ∨ k = 12) → aFindNow (.int .i64) (.int .i64 k) es 0 = some none) :
  ∃ c f, aLookup Tryd.prog m 129 (.map (some b)) (.int .i64 k) ok = some (if ok then .tuple #[.agg #[nv c, f], .bool (inK k)] else .agg #[nv c, f]) ∧ (inK k = true → f = .func (.func (opK k)) #[] #[]) ∧ (f = .nilFunc ∨ ∃ g, f = .func (.func g) #[] #[]) := by
 have hf : (plainKey (.int .i64) && flat (.agg #[nv 0, .nilFunc])) = true := by kernel_rfl
 by_cases hk : k = 1 ∨ k = 9 ∨ k = 12
 ·obtain ⟨i, c, h⟩ := h3.1 k hk
  refine ⟨c, .func (.func 76) #[] #[], ?_, fun _ => ?_, .inr ⟨_, rfl⟩⟩
  ·have : inK k = true := by unfold inK; simp; omega
   simp only [aLookup, T129, U3, Z127, hf, if_true, h2, h, this]
  ·rw [opK, if_neg (by omega)]
 ·by_cases hk2 : k = 11
  ·subst hk2
   obtain ⟨i, c, h⟩ := h3.2.1
   refine ⟨c, .func (.func 181) #[] #[], ?_, fun _ => rfl, .inr ⟨_, rfl⟩⟩
   simp only [aLookup, T129, U3, Z127, hf, if_true, h2, h, show inK 11 = true from rfl]
  ·have h := h3.2.2 k (by omega)
   have hin : inK k = false := by unfold inK; simp; omega
   refine ⟨0, .nilFunc, ?_, (fun h => by rw [hin] at h; cases h), .inl rfl⟩
   simp only [aLookup, T129, U3, Z127, hf, if_true, h2, h, hin]
theorem clI_in (g : GateV) : clI g = (inK g.1 && decide (g.2.2.2 = 0)) := rfl
theorem okf101g : okF Tryd.prog H0 101 19 = true := by kernel_rfl
theorem spec_Check1I {m : Mem} {g : GateV} {q : Option Addr} {l c : Nat} (hC : GlobK m) : ∃ v m', ACalls Tryd.prog 101 #[.agg #[.int .i64 g.1, .slice q l c, .int .i64 g.2.2.1, .int .i64 g.2.2.2]] m v m' ∧ (v = .bool (!clI g) ∧ Ext m m') := by
 obtain ⟨k, ws, bt, cf⟩ := g
 simp only at *
 obtain ⟨r, bb, r2, es, h1, h2, h3⟩ := hC
 refine wpF (args := [_]) mixed okf101g (fn := Tryd.f101) rfl rfl rfl (by simp) ?_
 refine cSR ?_
 refine sBox (v := .agg _) rfl ?_
 change wpOps _ _ _ _ _ (m.push (.cells true #[.int .i64 k, .slice q l c, .int .i64 bt, .int .i64 cf]))
 have e1 : Ext m (m.push (.cells true #[.int .i64 k, .slice q l c, .int .i64 bt, .int .i64 cf])) := .push _ _
 have g1 : Mem.get (m.push (.cells true #[.int .i64 k, .slice q l c, .int .i64 bt, .int .i64 cf])) m.size = .cells true #[.int .i64 k, .slice q l c, .int .i64 bt, .int .i64 cf] := gP rfl
 have k1 := e1.cells h1
 have k2 : Mem.get (m.push (.cells true #[.int .i64 k, .slice q l c, .int .i64 bt, .int .i64 cf])) bb = .map r2 es := by rw [e1.2 bb (Mem.lt_of_live (by rw [h2]; rfl)), h2]
 generalize m.push (.cells true #[.int .i64 k, .slice q l c, .int .i64 bt, .int .i64 cf]) = M at *
 refine sAs (v := .bool _) rfl ?_
 refine sN ?_
 refine cSR ?_
 refine sLd (v := .map (some bb)) A129 rfl k1 rfl ?_
 refine sFA F49_0 rfl ?_
 refine sLd (v := .int .i64 k) A3 rfl g1 rfl ?_
 obtain ⟨c9, f9, h9, hf9, hg9⟩ := lookK (k := k) (ok := true) k2 h3
 refine sO (v := .tuple #[.agg #[nv c9, f9], .bool (inK k)]) (m' := M) (opF_read rfl (by exact h9)) ?_
 refine sMv (v := .tuple _) rfl ?_
 refine sP (v := .agg #[nv c9, f9]) rfl ?_
 refine sP (v := .bool (inK k)) rfl ?_
 refine sAllocB (bl := M.size) rfl Z127 (by kernel_rfl) ?_
 refine sStNAB rfl S127 rfl rfl rfl rfl (by rcases hg9 with rfl | ⟨g, rfl⟩ <;> kernel_rfl) ?_
 have eM : Ext M (M.push (.cells true #[nv c9, f9])) := .push _ _
 have gM := eM.cells g1
 change wpOps _ _ _ _ _ (M.push (.cells true #[nv c9, f9]))
 generalize M.push (.cells true #[nv c9, f9]) = M2 at *
 refine sAs (v := .bool (inK k)) rfl ?_
 refine sN ?_
 refine cSR ?_
 refine sMv (v := .bool _) rfl ?_
 refine sP (v := .bool (!inK k)) rfl ?_
 refine sMv (v := .bool _) rfl ?_
 by_cases q1 : inK k = false
 ·
  rw [q1]
  refine sGT rfl rfl ?_
  refine sGT rfl rfl ?_
  refine sGT rfl rfl ?_
  refine sP (v := .bool _) rfl ?_
  refine sAs (v := .bool _) rfl ?_
  refine sN ?_
  refine cRet ?_
  exact ⟨.inr rfl, _, rfl, by rw [clI_in, q1]; rfl, e1.trans eM⟩
 ·
  rw [show inK k = true by cases h : inK k <;> simp_all]
  refine sG rfl rfl ?_
  refine sFA F49_3 rfl ?_
  refine sG rfl rfl ?_
  refine sLd (v := .int .i64 cf) A3 rfl gM rfl ?_
  refine sG rfl rfl ?_
  refine sBinI (v := .bool (decide (cf ≠ 0))) (b := 0) rfl rfl aInt_neqI ?_
  refine sP (v := .bool _) rfl ?_
  refine sAs (v := .bool _) rfl ?_
  refine sN ?_
  refine cRet ?_
  refine ⟨.inr rfl, _, rfl, ?_, e1.trans eM⟩
  rw [clI_in, show inK k = true by cases h : inK k <;> simp_all, Bool.true_and]
  by_cases h0 : cf = 0
  ·rw [decide_eq_true h0]; subst h0; rfl
  ·rw [decide_eq_false h0, Bool.not_false, ← decide_eq_true (p := cf ≠ 0) h0]; rfl
theorem okf93g : okF Tryd.prog H0 93 19 = true := by kernel_rfl
theorem spec_IndexGI {m : Mem} {s : Value} {Gs : List GateV} {p : GateV → Bool} {fid : FuncId} (hG : GsAt m s Gs) (hl : Gs.length < 1000000) (hk : callable Tryd.prog fid = true)
  (hp : ∀ g ∈ Gs, ∀ m', Ext m m' → ∀ q cw, ∃ v m'', ACalls Tryd.prog fid #[.agg #[.int .i64 g.1, .slice q g.2.1.length cw, .int .i64 g.2.2.1, .int .i64 g.2.2.2]] m' v m'' ∧ (v = .bool (p g) ∧ Ext m' m'')) :
  ∃ v m', ACalls Tryd.prog 93 #[s, .func (.func fid) #[] #[]] m v m' ∧ ((∃ i : Int, v = .int .i64 i ∧ (0 ≤ i ↔ Gs.any p = true)) ∧ Ext m m') := by
 obtain ⟨q, cap, rfl⟩ := hG.len
 refine wpF (args := [_, _]) mixed okf93g (fn := Tryd.f93) rfl rfl rfl (by simp) ?_
 refine cSR ?_
 refine sAs (v := nv 0) rfl ?_
 refine sN ?_
 refine cSeq (cSR ?_)
 refine sMv (v := .slice _ _ _) rfl ?_
 refine sLen T28 rfl ?_
 refine sMv (v := nv 0) rfl ?_
 refine sN ?_
 refine cBlock ?_
 refine wpC_loop (fun k' ρ m' => ∃ i, k' = Gs.length - i ∧ i ≤ Gs.length ∧ (∀ (j : Nat) g', j < i → Gs[j]? = some g' → p g' = false) ∧ Ext m m' ∧ Has ρ [(0, .slice q Gs.length cap), (1, .func (.func fid) #[] #[]), (7, nv Gs.length), (8, nv i)]) ⟨0, rfl, by omega, fun j g h => absurd h (by omega), .refl _, rfl, rfl, rfl, rfl, trivial⟩ ?_
 rintro k' ρ m' ⟨i, rfl, hi, hr, X, hh⟩
 rw [hh.env]; clear hh
 refine cSR ?_
 refine sBin rfl rfl (aInt_lss) ?_
 refine sN ?_
 refine cSeq ?_
 refine cCond rfl (fun c0 => ?_) (fun c0 => ?_)
 ·
  obtain ⟨g, hgi⟩ : ∃ g, Gs[i]? = some g := ⟨_, List.getElem?_eq_getElem c0⟩
  obtain ⟨b2, cp2, r2, cc, qw, cw, ee, gb, hcs, hex, hws, hkk⟩ := (hG.ext X).gate hgi
  cases ee
  refine cSkip (kSeqN ?_)
  refine cSeq (cBlock (cSR ?_))
  refine sMv (v := nv _) rfl ?_
  refine sAs (v := nv _) rfl ?_
  refine sN ?_
  refine cSR ?_
  refine sMv (v := .func _ _ _) rfl ?_
  refine sMv (v := .slice _ _ _) rfl ?_
  refine sMv (v := nv _) rfl ?_
  refine sIx T28 S49 rfl rfl c0 ?_
  refine sLdA A49 S49 rfl gb (by omega) ?_
  rw [hex]
  obtain ⟨v16, m16, h16, rfl, e16⟩ := hp g (List.mem_of_getElem? hgi) m' X qw cw
  refine sCall1 rfl hk rfl h16 ?_
  refine sN ?_
  refine cCond (p := p g = true) (by simp [evR, updO]) (fun c1 => ?_) (fun c1 => ?_)
  ·
   refine cSR ?_
   refine sMv (v := nv _) rfl ?_
   refine sAs (v := nv _) rfl ?_
   refine sN ?_
   refine cRet (kBlkR (kSeqR (kSeqR (kBlkR (kSeqR ?_)))))
   exact ⟨.inr rfl, _, rfl, ⟨_, rfl, ⟨fun _ => List.any_eq_true.2 ⟨g, List.mem_of_getElem? hgi, c1⟩, fun _ => Int.natCast_nonneg _⟩⟩, X.trans e16⟩
  ·
   refine cSkip (kBlkN (kSeqN ?_))
   refine cRegion ?_
   refine sBin rfl rfl (aInt_add (b := 1) (by omega)) ?_
   refine sMv (v := nv _) rfl ?_
   refine sN ?_
   refine ⟨_, ?_, i + 1, rfl, by omega, fun j g' hj hg => ?_, X.trans e16, rfl, rfl, rfl, rfl, trivial⟩
   ·omega
   ·by_cases e : j = i
    ·subst e
     rw [hgi] at hg; cases hg
     exact Bool.eq_false_iff.2 c1
    ·exact hr j g' (by omega) hg
 ·
  refine cExit (kSeqE (kSeqE (kBlkS (kSeqN ?_))))
  refine cSR ?_
  refine sAs (v := .int .i64 (-1)) rfl ?_
  refine sN ?_
  refine cRet ?_
  refine ⟨.inr rfl, _, rfl, ⟨-1, rfl, ⟨fun h => by omega, fun h => ?_⟩⟩, X⟩
  obtain ⟨g, hg, h2⟩ := List.any_eq_true.1 h
  obtain ⟨j, hj⟩ := List.mem_iff_getElem?.1 hg
  rw [hr j g (by have := (List.getElem?_eq_some_iff.1 hj).1; omega) hj] at h2
  cases h2
theorem okf32g : okF Tryd.prog H0 32 9 = true := by kernel_rfl
theorem spec_ContainsGI {m : Mem} {s : Value} {Gs : List GateV} {p : GateV → Bool} {fid : FuncId} (hG : GsAt m s Gs) (hl : Gs.length < 1000000) (hk : callable Tryd.prog fid = true)
  (hp : ∀ g ∈ Gs, ∀ m', Ext m m' → ∀ q cw, ∃ v m'', ACalls Tryd.prog fid #[.agg #[.int .i64 g.1, .slice q g.2.1.length cw, .int .i64 g.2.2.1, .int .i64 g.2.2.2]] m' v m'' ∧ (v = .bool (p g) ∧ Ext m' m'')) :
  ∃ v m', ACalls Tryd.prog 32 #[s, .func (.func fid) #[] #[]] m v m' ∧ (v = .bool (Gs.any p) ∧ Ext m m') := by
 obtain ⟨q, cap, rfl⟩ := hG.len
 refine wpF (args := [_, _]) mixed okf32g (fn := Tryd.f32) rfl rfl rfl (by simp) ?_
 refine cSR ?_
 refine sAs (v := .bool _) rfl ?_
 refine sN ?_
 refine cSR ?_
 refine sMv (v := .slice _ _ _) rfl ?_
 refine sMv (v := .func _ _ _) rfl ?_
 obtain ⟨v7, m7, h7, ⟨i, rfl, hi⟩, e7⟩ := spec_IndexGI hG hl hk hp
 refine sCall2 rfl call93 rfl rfl h7 ?_
 refine sBinI (v := .bool (Gs.any p)) (b := 0) rfl rfl (by rw [aInt_geqI, show Gs.any p = decide (0 ≤ i) by rw [Bool.eq_iff_iff, decide_eq_true_eq, hi]]) ?_
 refine sAs (v := .bool _) rfl ?_
 refine sN ?_
 refine cRet ?_
 exact ⟨.inr rfl, _, rfl, rfl, e7⟩
theorem okf45g : okF Tryd.prog H0 45 12 = true := by kernel_rfl
theorem spec_Check8I {m : Mem} {n b : Int} {s : Value} {Gs : List GateV} (hC : GlobK m) (hG : GsAt m s Gs) : ∃ v m', ACalls Tryd.prog 45 #[.agg #[.int .i64 n, .int .i64 b, s]] m v m' ∧ (v = nv (circ8E n b Gs) ∧ Ext m m') := by
 obtain ⟨q, cap, rfl⟩ := hG.len
 refine wpF (args := [_]) mixed okf45g (fn := Tryd.f45) rfl rfl rfl (by simp) ?_
 refine cSR ?_
 refine sBox (v := .agg _) rfl ?_
 change wpOps _ _ _ _ _ (m.push (.cells true #[.int .i64 n, .int .i64 b, .slice q Gs.length cap]))
 have e1 : Ext m (m.push (.cells true #[.int .i64 n, .int .i64 b, .slice q Gs.length cap])) := .push _ _
 have g1 : Mem.get (m.push (.cells true #[.int .i64 n, .int .i64 b, .slice q Gs.length cap])) m.size = .cells true #[.int .i64 n, .int .i64 b, .slice q Gs.length cap] := gP rfl
 generalize m.push (.cells true #[.int .i64 n, .int .i64 b, .slice q Gs.length cap]) = M at *
 refine sAs (v := nv 0) rfl ?_
 refine sN ?_
 refine cSeq (cSR ?_)
 refine sLdAll A30 S30 rfl g1 rfl ?_
 obtain ⟨v5, m5, h5, rfl, e5⟩ := spec_Check4I (n := n) (b := b) (hG.ext e1)
 refine sCall1 rfl call100 rfl h5 ?_
 replace g1 := e5.cells g1
 replace e1 := e1.trans e5
 refine sAs (v := nv _) rfl ?_
 refine sN ?_
 refine cSR ?_
 refine sMv (v := nv _) rfl ?_
 refine sBin (a := circE n b Gs) (b := 0) rfl rfl aInt_neq ?_
 refine sN ?_
 refine cCond (p := circE n b Gs ≠ 0) rfl (fun c0 => ?_) (fun c0 => ?_)
 ·
  refine cSR ?_
  refine sMv (v := nv _) rfl ?_
  refine sAs (v := nv _) rfl ?_
  refine sN ?_
  refine cRet (kSeqR ?_)
  exact ⟨.inr rfl, _, rfl, by rw [circ8E, if_pos c0]; rfl, e1⟩
 ·
  have hl : Gs.length < 1000000 := by
   have h0 : circE n b Gs = 0 := Classical.byContradiction c0
   unfold circE at h0
   split at h0
   ·cases h0
   split at h0
   ·cases h0
   omega
  refine cSkip (kSeqN ?_)
  refine cSeq (cSR ?_)
  refine sFA F30_2 rfl ?_
  refine sLd (v := .slice q Gs.length cap) A28 rfl g1 rfl ?_
  obtain ⟨v11, m11, h11, rfl, e11⟩ := spec_ContainsGI (p := fun g => !clI g) (hG.ext e1) hl call101 fun g _ m' he q cw => spec_Check1I ((hC.ext e1).ext he)
  refine sCall2 rfl call32 rfl rfl h11 ?_
  have hall : (Gs.any fun g => !clI g) = !(Gs.all clI) := by rw [List.all_eq_not_any_not, Bool.not_not]
  refine sN ?_
  refine cCond (p := (Gs.any fun g => !clI g) = true) (by simp [evR, updO]) (fun c1 => ?_) (fun c1 => ?_)
  ·
   refine cSR ?_
   refine sAs (v := nv 7) rfl ?_
   refine sN ?_
   refine cRet (kSeqR ?_)
   refine ⟨.inr rfl, _, rfl, ?_, e1.trans e11⟩
   rw [hall] at c1
   rw [circ8E, if_neg c0, if_neg (by intro h; rw [h] at c1; cases c1)]; rfl
  ·
   refine cSkip (kSeqN ?_)
   refine cSR ?_
   refine sAs (v := nv 0) rfl ?_
   refine sN ?_
   refine cRet ?_
   refine ⟨.inr rfl, _, rfl, ?_, e1.trans e11⟩
   rw [hall] at c1
   rw [circ8E, if_neg c0, if_pos (by cases h : Gs.all clI <;> simp_all)]; rfl
end Go.AM

/-! R62 -/
namespace Go.AM
open Go.Proofs
theorem GsAt.lenN {m : Mem} {v : Value} {Gs : List (Nat × List Nat)} (h : GsAt m v (Gs.map gvM)) : ∃ q cap, v = .slice q Gs.length cap := by
 obtain ⟨q, cap, rfl⟩ := h.len
 exact ⟨q, cap, by rw [List.length_map]⟩
theorem GsAt.gateN {m : Mem} {v : Value} {Gs : List (Nat × List Nat)} (h : GsAt m v (Gs.map gvM)) {i : Nat} {g : Nat × List Nat} (hi : Gs[i]? = some g) :
  ∃ b cap r c q cw, v = .slice (some ⟨b, 0, some 4⟩) Gs.length cap ∧ Mem.get m b = .cells r c ∧ i * 4 + 4 ≤ c.size ∧ c.extract (0 + i * 4) (0 + i * 4 + 4) = #[nv g.1, .slice q g.2.length cw, nv 0, nv 0] ∧ IntsAt m (.slice q g.2.length cw) (ofs g.2) ∧ CapOk (.slice q g.2.length cw) := by
 obtain ⟨b, cap, r, c, q, cw, h1, h2, h3, h4, h5, h6⟩ := h.gate (i := i) (g := gvM g) (by rw [List.getElem?_map, hi]; rfl)
 simp only [gvM, ofs_length] at h4 h5 h6
 exact ⟨b, cap, r, c, q, cw, by rw [h1, List.length_map], h2, h3, h4, h5, h6⟩
theorem bit_and (x a : Nat) : x >>> a &&& 1 = (x.testBit a).toNat := by
 rw [Nat.toNat_testBit, Nat.and_one_is_mod, Nat.shiftRight_eq_div_pow]
theorem bit_neq (x a b : Nat) : decide (x >>> a &&& 1 ≠ x >>> b &&& 1) = decide (¬ x.testBit a = x.testBit b) := by
 rw [bit_and, bit_and]
 cases x.testBit a <;> cases x.testBit b <;> rfl
theorem okf76k : okF Tryd.prog H0 76 22 = true := by kernel_rfl
theorem spec_turnedK {m : Mem} {x : Nat} {ws : Value} {w : List Nat} (hw : IntsAt m ws (ofs w)) (hk : CapOk ws) (h0 : 0 < w.length) (h3 : w.length ≤ 3) (hlt : ∀ y ∈ w, y < 12) (hx : x < 2 ^ 12) : ∃ v m', ACalls Tryd.prog 76 #[nv x, ws] m v m' ∧ (v = nv (turnM x w) ∧ Ext m m') := by
 obtain ⟨q, cap, rfl⟩ := hw.lenN
 have e1 : Ext m (m.push (.cells true #[nv x])) := .push _ _
 have g1 : Mem.get (m.push (.cells true #[nv x])) m.size = .cells true #[nv x] := gP rfl
 obtain ⟨y, hy⟩ : ∃ y, w[w.length - 1]? = some y := ⟨_, List.getElem?_eq_getElem (by omega)⟩
 have hyl := hlt y (List.mem_of_getElem? hy)
 have hlast : w.getLastD 0 = y := by rw [List.getLastD_eq_getLast?, List.getLast?_eq_getElem?, hy]; rfl
 have h2y : 2 ^ y < 2 ^ 12 := Nat.pow_lt_pow_right (by omega) hyl
 refine wpF (args := [_, _]) mixed okf76k (fn := Tryd.f76) rfl rfl rfl (by simp) ?_
 refine cSR ?_
 refine sBox (v := nv x) rfl ?_
 change wpOps _ _ _ _ _ (m.push (.cells true #[nv x]))
 refine sAs (v := nv 0) rfl ?_
 refine sN ?_
 refine cSR ?_
 refine sMv (v := .slice _ _ _) rfl ?_
 refine sLen T22 rfl ?_
 refine sBin (v := nv (w.length - 1)) rfl rfl (aInt_sub (b := 1) (by omega)) ?_
 refine sAs (v := nv _) rfl ?_
 refine sN ?_
 refine cSeq (cSR ?_)
 refine sMv (v := .slice _ _ _) rfl ?_
 refine sMv (v := nv _) rfl ?_
 obtain ⟨v11, h11, o11, q11, c11, rfl⟩ := cut_ints (hw.ext e1) hk (show w.length - 1 ≤ w.length by omega)
 refine sO (v := .slice q11 (w.take (w.length - 1)).length c11) (m' := m.push (.cells true #[nv x])) (opF_read rfl h11) ?_
 refine sMFc1 rfl ?_
 have h13 := spec_ContainsFunc (m := m.push (.cells true #[nv x])) (p := fun c => !x.testBit c.toNat) o11 (by rw [ofs_length, List.length_take]; omega) call129 (cp := #[.pointer (some ⟨m.size, 0, none⟩)]) fun z hz => by
  obtain ⟨u, hu, rfl⟩ := List.mem_map.1 hz
  exact spec_turned1 g1 (by omega)
 have hany : ((ofs (w.take (w.length - 1))).any fun c => !x.testBit c.toNat) = !(w.dropLast.all fun c => x.testBit c) := by
  rw [List.dropLast_eq_take, ofs, List.any_map, List.all_eq_not_any_not, Bool.not_not]
  rfl
 rw [hany] at h13
 refine sCall2 rfl call107 rfl rfl h13 ?_
 refine sN ?_
 refine cCond (p := (w.dropLast.all fun c => x.testBit c) = false) (by show Value.bool _ = Value.bool _; cases (w.dropLast.all fun c => x.testBit c) <;> rfl) (fun c0 => ?_) (fun c0 => ?_)
 ·
  refine cSR ?_
  refine sLd (v := nv x) A3 rfl g1 rfl ?_
  refine sAs (v := nv _) rfl ?_
  refine sN ?_
  refine cRet (kSeqR ?_)
  exact ⟨.inr rfl, _, rfl, by rw [turnM, c0]; rfl, e1⟩
 ·
  obtain ⟨b1, o1, p1, r1, cc, ee1, gg, x1⟩ := hw.atN (by omega)
  cases ee1
  refine cSkip (kSeqN ?_)
  refine cSeq ?_
  refine cDraw rfl ?_
  refine sLd (v := nv x) A3 rfl g1 rfl ?_
  refine sMv (v := .slice _ _ _) rfl ?_
  refine sMv (v := nv _) rfl ?_
  refine sIx T22 S3 rfl rfl (by omega) ?_
  refine sLd (v := nv y) A3 rfl (e1.cells gg) (x1 _ y hy) ?_
  refine sBin rfl rfl (aInt_shl (a := 1) (by omega)) ?_
  rw [Nat.shiftLeft_eq, Nat.one_mul]
  refine sBin (a := x) (b := 2 ^ y) rfl rfl (aInt_xor ⟨by omega, by omega⟩) ?_
  refine sAs (v := nv _) rfl ?_
  refine sN ?_
  refine cRet ?_
  have c0' : (w.dropLast.all fun c => x.testBit c) = true := by simpa using c0
  exact ⟨.inr rfl, _, rfl, by rw [turnM, c0', if_pos rfl, hlast]; rfl, e1⟩
theorem okf181 : okF Tryd.prog H0 181 30 = true := by kernel_rfl
theorem spec_swapped {m : Mem} {x : Nat} {ws : Value} {w : List Nat} (hw : IntsAt m ws (ofs w)) (h2 : w.length = 2) (hlt : ∀ y ∈ w, y < 12) (hx : x < 2 ^ 12) : ∃ v m', ACalls Tryd.prog 181 #[nv x, ws] m v m' ∧ (v = nv (swapM x w) ∧ m = m') := by
 obtain ⟨a, b, rfl⟩ : ∃ a b, w = [a, b] := by
  match w, h2 with
  | [a, b], _ => exact ⟨a, b, rfl⟩
 have ha := hlt a (by simp)
 have hb := hlt b (by simp)
 have pa : 2 ^ a < 2 ^ 12 := Nat.pow_lt_pow_right (by omega) ha
 have pb : 2 ^ b < 2 ^ 12 := Nat.pow_lt_pow_right (by omega) hb
 have hsa := Nat.shiftRight_le x a
 have hsb := Nat.shiftRight_le x b
 obtain ⟨b1, o1, p1, r1, cc, rfl, gg, x1⟩ := hw.atN (by simp)
 refine wpF (args := [_, _]) mixed okf181 (fn := Tryd.f181) rfl rfl rfl (by simp) ?_
 refine cSR ?_
 refine sAs (v := nv 0) rfl ?_
 refine sN ?_
 refine cSeq (cSeq ?_)
 refine cDraw rfl ?_
 refine sMv (v := nv _) rfl ?_
 refine sMv (v := .slice _ _ _) rfl ?_
 refine sIx (i := 0) T22 S3 rfl rfl (by simp) ?_
 refine sLd (v := nv a) A3 rfl gg (x1 0 a rfl) ?_
 refine sBin (a := x) (b := a) rfl rfl (aInt_shr (by omega)) ?_
 refine sBin (b := 1) rfl rfl (aInt_and (by omega)) ?_
 refine sMv (v := nv _) rfl ?_
 refine sMv (v := .slice _ _ _) rfl ?_
 refine sIx (i := 1) T22 S3 rfl rfl (by simp) ?_
 refine sLd (v := nv b) A3 rfl gg (x1 1 b rfl) ?_
 refine sBin (a := x) (b := b) rfl rfl (aInt_shr (by omega)) ?_
 refine sBin (b := 1) rfl rfl (aInt_and (by omega)) ?_
 refine sBin (v := .bool (decide (¬ x.testBit a = x.testBit b))) rfl rfl (by rw [aInt_neq, bit_neq]) ?_
 refine sN ?_
 refine cCond (p := ¬ x.testBit a = x.testBit b) rfl (fun c0 => ?_) (fun c0 => ?_)
 ·
  refine cDraw rfl ?_
  refine sMv (v := nv _) rfl ?_
  refine sMv (v := .slice _ _ _) rfl ?_
  refine sIx (i := 0) T22 S3 rfl rfl (by simp) ?_
  refine sLd (v := nv a) A3 rfl gg (x1 0 a rfl) ?_
  refine sBin (v := nv (2 ^ a)) rfl rfl (by rw [aInt_shl (a := 1) (b := a) (by omega), Nat.shiftLeft_eq, Nat.one_mul]) ?_
  refine sMv (v := .slice _ _ _) rfl ?_
  refine sIx (i := 1) T22 S3 rfl rfl (by simp) ?_
  refine sLd (v := nv b) A3 rfl gg (x1 1 b rfl) ?_
  refine sBin (v := nv (2 ^ b)) rfl rfl (by rw [aInt_shl (a := 1) (b := b) (by omega), Nat.shiftLeft_eq, Nat.one_mul]) ?_
  refine sBin (a := 2 ^ a) (b := 2 ^ b) rfl rfl (aInt_or ⟨by omega, by omega⟩) ?_
  have ho : 2 ^ a ||| 2 ^ b < 2 ^ 12 := Nat.or_lt_two_pow pa pb
  refine sBin (a := x) (b := 2 ^ a ||| 2 ^ b) rfl rfl (aInt_xor ⟨by omega, by omega⟩) ?_
  refine sAs (v := nv _) rfl ?_
  refine sN ?_
  refine cSR ?_
  refine sMv (v := nv _) rfl ?_
  refine sAs (v := nv _) rfl ?_
  refine sN ?_
  refine cRet ?_
  exact ⟨.inr rfl, _, rfl, by rw [swapM, if_neg (by exact c0)]; rfl, rfl⟩
 ·
  refine cSkip (kSeqN ?_)
  refine cSR ?_
  refine sMv (v := nv _) rfl ?_
  refine sAs (v := nv _) rfl ?_
  refine sN ?_
  refine cRet ?_
  exact ⟨.inr rfl, _, rfl, by rw [swapM, if_pos (by exact Classical.byContradiction c0)]; rfl, rfl⟩
theorem inK_S {n : Nat} {g : Nat × List Nat} (h : GateS n g) : inK (Int.ofNat g.1) = true := by
 have : g.1 = 1 ∨ g.1 = 9 ∨ g.1 = 11 ∨ g.1 = 12 := by have := h.kind; omega
 rcases this with e | e | e | e <;> rw [e] <;> rfl
/-- One gate is done. -/
theorem spec_does {m : Mem} {n x : Nat} {ws : Value} {g : Nat × List Nat} (hg : GateS n g) (h12 : n ≤ 12) (hw : IntsAt m ws (ofs g.2)) (hk : CapOk ws) (hx : x < 2 ^ 12) :
  callable Tryd.prog (opK (Int.ofNat g.1)) = true ∧ ∃ v m', ACalls Tryd.prog (opK (Int.ofNat g.1)) #[nv x, ws] m v m' ∧ (v = nv (doneS g x) ∧ Ext m m') := by
 have hlt : ∀ y ∈ g.2, y < 12 := fun y hy => by have := hg.lt y hy; omega
 by_cases h : g.1 = 11
 ·have e : opK (Int.ofNat g.1) = 181 := by rw [h]; rfl
  obtain ⟨v, m', h1, rfl, rfl⟩ := spec_swapped hw (by have := hg.kind; omega) hlt hx
  rw [e, doneS, if_pos h]
  exact ⟨call181, _, _, h1, rfl, .refl _⟩
 ·have e : opK (Int.ofNat g.1) = 76 := by rw [opK, if_neg (by simp only [Int.ofNat_eq_natCast]; omega)]
  rw [e, doneS, if_neg h]
  exact ⟨call76, spec_turnedK hw hk (by have := hg.kind; omega) (by have := hg.kind; omega) hlt hx⟩
theorem okf97k : okF Tryd.prog H0 97 25 = true := by kernel_rfl
theorem spec_runK {m : Mem} {n x : Nat} {b : Int} {s : Value} {Gs : List (Nat × List Nat)} (hC : GlobK m) (hG : GsAt m s (Gs.map gvM)) (hc : CircS n Gs) (hx : x < 2 ^ n) : ∃ v m', ACalls Tryd.prog 97 #[.agg #[nv n, .int .i64 b, s], nv x] m v m' ∧ (v = nv (runS Gs x) ∧ Ext m m') := by
 obtain ⟨q, cap, rfl⟩ := (GsAt.lenN hG)
 obtain ⟨h1, h10, hf, hall⟩ := hc
 refine wpF (args := [_, _]) mixed okf97k (fn := Tryd.f97) rfl rfl rfl (by simp) ?_
 refine cSR ?_
 refine sBox (v := .agg _) rfl ?_
 change wpOps _ _ _ _ _ (m.push (.cells true #[nv n, .int .i64 b, .slice q Gs.length cap]))
 have e1 : Ext m (m.push (.cells true #[nv n, .int .i64 b, .slice q Gs.length cap])) := .push _ _
 have g1 : Mem.get (m.push (.cells true #[nv n, .int .i64 b, .slice q Gs.length cap])) m.size = .cells true #[nv n, .int .i64 b, .slice q Gs.length cap] := gP rfl
 generalize m.push (.cells true #[nv n, .int .i64 b, .slice q Gs.length cap]) = M at *
 refine sAs (v := nv 0) rfl ?_
 refine sN ?_
 refine cSeq (cSR ?_)
 refine sFA F30_2 rfl ?_
 refine sLd (v := .slice q Gs.length cap) A28 rfl g1 rfl ?_
 refine sLen T28 rfl ?_
 refine sMv (v := nv 0) rfl ?_
 refine sN ?_
 refine cBlock ?_
 refine wpC_loop (fun k' ρ m' => ∃ i, k' = Gs.length - i ∧ i ≤ Gs.length ∧ Ext M m' ∧ Has ρ [(1, nv (runS (Gs.take i) x)), (8, .slice q Gs.length cap), (9, nv Gs.length), (10, nv i)]) ⟨0, rfl, by omega, .refl _, rfl, rfl, rfl, rfl, trivial⟩ ?_
 rintro k' ρ m' ⟨i, rfl, hi, X, hh⟩
 rw [hh.env]; clear hh
 replace e1 := e1.trans X
 refine cSR ?_
 refine sBin rfl rfl (aInt_lss) ?_
 refine sN ?_
 refine cSeq ?_
 refine cCond rfl (fun c0 => ?_) (fun c0 => ?_)
 ·
  obtain ⟨g, hgi⟩ : ∃ g, Gs[i]? = some g := ⟨_, List.getElem?_eq_getElem c0⟩
  have hgo := hall g (List.mem_of_getElem? hgi)
  obtain ⟨b2, cp2, r2', cc, qw, cw, ee, gb, hcs, hex, hws, hkw⟩ := GsAt.gateN (hG.ext e1) hgi
  cases ee
  obtain ⟨r, bb, r2, es, hh1, hh2, hh3⟩ := hC.ext e1
  have hrl : runS (Gs.take i) x < 2 ^ n := runS_lt hx fun g' hg' => hall g' (List.mem_of_mem_take hg')
  have hp10 : 2 ^ n ≤ 2 ^ 12 := Nat.pow_le_pow_right (by omega) h10
  refine cSkip (kSeqN ?_)
  refine cSeq (cBlock (cSR ?_))
  refine sIx T28 S49 rfl rfl c0 ?_
  refine sLdA A49 S49 rfl gb (by omega) ?_
  rw [hex]
  refine sAllocB (bl := m'.size) rfl Z49 (by kernel_rfl) ?_
  refine sStNAB rfl S49 rfl rfl rfl rfl (by kernel_rfl) ?_
  have e2 : Ext m' (m'.push (.cells true #[nv g.1, .slice qw g.2.length cw, nv 0, nv 0])) := .push _ _
  have hm : Mem.get (m'.push (.cells true #[nv g.1, .slice qw g.2.length cw, nv 0, nv 0])) bb = .map r2 es := by rw [e2.2 bb (Mem.lt_of_live (by rw [hh2]; rfl)), hh2]
  refine sN ?_
  refine cRegion ?_
  refine sLd (v := .map (some bb)) A129 rfl (e2.cells hh1) rfl ?_
  refine sFA F49_0 rfl ?_
  refine sLd (v := nv g.1) A3 rfl (gP rfl) rfl ?_
  obtain ⟨c9, f9, h9, hf9, _⟩ := lookK (k := Int.ofNat g.1) (ok := false) hm hh3
  rw [hf9 (inK_S hgo)] at h9
  refine sO (v := .agg #[nv c9, .func (.func (opK (Int.ofNat g.1))) #[] #[]]) (opF_read rfl (by exact h9)) ?_
  refine sP (v := .func (.func (opK (Int.ofNat g.1))) #[] #[]) rfl ?_
  refine sMv (v := nv _) rfl ?_
  refine sFA F49_1 rfl ?_
  refine sLd (v := .slice qw g.2.length cw) A22 rfl (gP rfl) rfl ?_
  obtain ⟨hcal, v22, m22, h22, rfl, e22⟩ := spec_does (x := runS (Gs.take i) x) hgo h10 (hws.ext e2) hkw (by omega)
  refine sCall2 rfl hcal rfl rfl h22 ?_
  refine sAs (v := nv _) rfl ?_
  refine sNil (kBlkN (kSeqN ?_))
  refine cRegion ?_
  refine sBin rfl rfl (aInt_add (b := 1) (by omega)) ?_
  refine sMv (v := nv _) rfl ?_
  refine sN ?_
  refine ⟨_, ?_, i + 1, rfl, by omega, X.trans (e2.trans e22), by rw [runS_take hgi]; rfl, rfl, rfl, rfl, trivial⟩
  omega
 ·
  refine cExit (kSeqE (kSeqE (kBlkS (kSeqN ?_))))
  refine cSR ?_
  refine sMv (v := nv _) rfl ?_
  refine sAs (v := nv _) rfl ?_
  refine sN ?_
  refine cRet ?_
  obtain rfl : i = Gs.length := by omega
  rw [List.take_length]
  exact ⟨.inr rfl, _, rfl, rfl, e1⟩
end Go.AM

/-! R63 -/
namespace Go.AM
open Go.Proofs
def rtabSU (i : Nat) (Gs : List (Nat × List Nat)) : List Nat := (List.range i).map (runS Gs)
theorem rtabSU_succ (i : Nat) (Gs : List (Nat × List Nat)) : rtabSU (i + 1) Gs = rtabSU i Gs ++ [runS Gs i] := by
 unfold rtabSU; rw [List.range_succ, List.map_append]; rfl
theorem gnM_gvM (g : Nat × List Nat) : gnM (gvM g) = g := by
 obtain ⟨k, w⟩ := g
 simp only [gnM, gvM, ofs, List.map_map, Int.ofNat_eq_natCast, Int.toNat_natCast]
 congr 1
 refine (List.map_congr_left fun x _ => ?_).trans (List.map_id w)
 simp
theorem gnM_all (Gs : List (Nat × List Nat)) : (Gs.map gvM).map gnM = Gs := by
 rw [List.map_map]
 exact (List.map_congr_left fun x _ => gnM_gvM x).trans (List.map_id Gs)
def appE (n b : Int) (Gs : List GateV) (x : Int) : Nat := if circ8E n b Gs ≠ 0 then circ8E n b Gs else if x < 0 ∨ Int.ofNat (2 ^ n.toNat) ≤ x then 3 else 0
def appV (n b : Int) (Gs : List GateV) (x : Int) : Nat := if appE n b Gs x = 0 then runS (Gs.map gnM) x.toNat else 0
def tabL (n b : Int) (Gs : List GateV) : List Nat := if circ8E n b Gs = 0 then rtabS n.toNat (Gs.map gnM) else []
def sameE (n b : Int) (Gs : List GateV) (n2 b2 : Int) (Gs2 : List GateV) : Nat := if circ8E n b Gs ≠ 0 then circ8E n b Gs else if circ8E n2 b2 Gs2 ≠ 0 then circ8E n2 b2 Gs2 else if n ≠ n2 then 7 else 0
def sameB (n b : Int) (Gs : List GateV) (n2 b2 : Int) (Gs2 : List GateV) : Bool := if sameE n b Gs n2 b2 Gs2 = 0 then decide (tabL n b Gs = tabL n2 b2 Gs2) else false
theorem i64_pow {n : Nat} (h : n ≤ 12) : 1 * 2 ^ n < 9223372036854775808 := by have := pow10 h; omega
theorem okf39k : okF Tryd.prog H0 39 24 = true := by kernel_rfl
theorem spec_ApplyK {m : Mem} {n b x : Int} {s : Value} {Gs : List GateV} (hC : GlobK m) (hG : GsAt m s Gs) : ∃ v m', ACalls Tryd.prog 39 #[.agg #[.int .i64 n, .int .i64 b, s], .int .i64 x] m v m' ∧ (v = .tuple #[nv (appV n b Gs x), nv (appE n b Gs x)] ∧ Ext m m') := by
 obtain ⟨q, cap, rfl⟩ := hG.len
 refine wpF (args := [_, _]) mixed okf39k (fn := Tryd.f39) rfl rfl rfl (by simp) ?_
 refine cSR ?_
 refine sBox (v := .agg _) rfl ?_
 change wpOps _ _ _ _ _ (m.push (.cells true #[.int .i64 n, .int .i64 b, .slice q Gs.length cap]))
 have e1 : Ext m (m.push (.cells true #[.int .i64 n, .int .i64 b, .slice q Gs.length cap])) := .push _ _
 have g1 : Mem.get (m.push (.cells true #[.int .i64 n, .int .i64 b, .slice q Gs.length cap])) m.size = .cells true #[.int .i64 n, .int .i64 b, .slice q Gs.length cap] := gP rfl
 generalize m.push (.cells true #[.int .i64 n, .int .i64 b, .slice q Gs.length cap]) = M at *
 refine sAs (v := nv 0) rfl ?_
 refine sAs (v := nv 0) rfl ?_
 refine sN ?_
 refine cSeq (cSR ?_)
 refine sLdAll A30 S30 rfl g1 rfl ?_
 obtain ⟨v8, m8, h8, rfl, e8⟩ := spec_Check8I (n := n) (b := b) (hC.ext e1) (hG.ext e1)
 refine sCall1 rfl call45 rfl h8 ?_
 replace g1 := e8.cells g1
 replace e1 := e1.trans e8
 refine sAs (v := nv _) rfl ?_
 refine sN ?_
 refine cSR ?_
 refine sMv (v := nv _) rfl ?_
 refine sBin (a := circ8E n b Gs) (b := 0) rfl rfl aInt_neq ?_
 refine sN ?_
 refine cCond (p := circ8E n b Gs ≠ 0) rfl (fun c0 => ?_) (fun c0 => ?_)
 ·
  refine cSR ?_
  refine sMv (v := nv _) rfl ?_
  refine sAs (v := nv 0) rfl ?_
  refine sAs (v := nv _) rfl ?_
  refine sN ?_
  refine cRet (kSeqR ?_)
  have ha : appE n b Gs x = circ8E n b Gs := by rw [appE, if_pos c0]
  exact ⟨.inr rfl, _, rfl, by rw [appV, ha, if_neg c0]; rfl, e1⟩
 ·
  have h0 : circ8E n b Gs = 0 := Classical.byContradiction c0
  obtain ⟨n', b', Gs', rfl, rfl, rfl, hc⟩ := circ8_nat h0
  have hp := pow10 hc.ten
  simp only [List.length_map] at g1
  refine cSkip (kSeqN ?_)
  refine cSeq (cSR ?_)
  refine sMv (v := .int .i64 x) rfl ?_
  refine sBinI (v := .bool (decide (x < 0))) (b := 0) rfl rfl aInt_lssI ?_
  refine sMv (v := .bool _) rfl ?_
  by_cases q1 : x < 0
  ·
   rw [decide_eq_true q1]
   refine sGT rfl rfl ?_
   refine sGT rfl rfl ?_
   refine sGT rfl rfl ?_
   refine sGT rfl rfl ?_
   refine sGT rfl rfl ?_
   refine sP (v := .bool _) rfl ?_
   refine sN ?_
   refine cCondT rfl ?_
   refine cSR ?_
   refine sAs (v := nv 0) rfl ?_
   refine sAs (v := nv 3) rfl ?_
   refine sN ?_
   refine cRet (kSeqR ?_)
   have ha : appE (Int.ofNat n') (Int.ofNat b') (Gs'.map gvM) x = 3 := by rw [appE, if_neg c0, if_pos (.inl q1)]
   exact ⟨.inr rfl, _, rfl, by rw [appV, ha, if_neg (by decide)]; rfl, e1⟩
  ·
   rw [decide_eq_false q1]
   refine sG rfl rfl ?_
   refine sMv (v := .int .i64 x) rfl ?_
   refine sG rfl rfl ?_
   refine sFA F30_0 rfl ?_
   refine sG rfl rfl ?_
   refine sLd (v := nv n') A3 rfl g1 rfl ?_
   refine sG rfl rfl ?_
   refine sBin (v := nv (2 ^ n')) rfl rfl (by rw [aInt_shl (a := 1) ⟨by have := hc.ten; omega, i64_pow hc.ten⟩, Nat.shiftLeft_eq, Nat.one_mul]) ?_
   refine sG rfl rfl ?_
   refine sBinI (v := .bool (decide (Int.ofNat (2 ^ n') ≤ x))) rfl rfl aInt_geqI ?_
   refine sP (v := .bool _) rfl ?_
   refine sN ?_
   refine cCond (p := Int.ofNat (2 ^ n') ≤ x) rfl (fun c2 => ?_) (fun c2 => ?_)
   ·
    refine cSR ?_
    refine sAs (v := nv 0) rfl ?_
    refine sAs (v := nv 3) rfl ?_
    refine sN ?_
    refine cRet (kSeqR ?_)
    have ha : appE (Int.ofNat n') (Int.ofNat b') (Gs'.map gvM) x = 3 := by rw [appE, if_neg c0, if_pos (.inr c2)]
    exact ⟨.inr rfl, _, rfl, by rw [appV, ha, if_neg (by decide)]; rfl, e1⟩
   ·
    obtain ⟨y, rfl⟩ : ∃ y : Nat, x = Int.ofNat y := ⟨x.toNat, by simp only [Int.ofNat_eq_natCast]; omega⟩
    have hy : y < 2 ^ n' := by simp only [Int.ofNat_eq_natCast] at c2; omega
    refine cSkip (kSeqN ?_)
    refine cSR ?_
    refine sLdAll A30 S30 rfl g1 rfl ?_
    refine sMv (v := nv _) rfl ?_
    obtain ⟨v23, m23, h23, rfl, e23⟩ := spec_runK (b := Int.ofNat b') (hC.ext e1) (hG.ext e1) hc hy
    simp only [List.length_map] at h23
    refine sCall2 rfl call97 rfl rfl h23 ?_
    refine sAs (v := nv _) rfl ?_
    refine sAs (v := nv 0) rfl ?_
    refine sN ?_
    refine cRet ?_
    have ha : appE (Int.ofNat n') (Int.ofNat b') (Gs'.map gvM) (Int.ofNat y) = 0 := by rw [appE, if_neg c0, if_neg (by rintro (h | h); exact q1 h; exact c2 h)]
    exact ⟨.inr rfl, _, rfl, by rw [appV, ha, if_pos rfl, gnM_all]; rfl, e1.trans e23⟩
def H98k : Nat → List (Nat × Nat) := fun id => if id = 4 then [(0, 4), (0, 5)] else []
theorem okf98k : okF Tryd.prog H98k 98 16 = true := by kernel_rfl
theorem spec_tableK {m : Mem} {n : Nat} {b : Int} {s : Value} {Gs : List (Nat × List Nat)} (hC : GlobK m) (hG : GsAt m s (Gs.map gvM)) (hc : CircS n Gs) : ∃ v m', ACalls Tryd.prog 98 #[.agg #[nv n, .int .i64 b, s]] m v m' ∧ (OwnF m.size m' v (ofs (rtabS n Gs)) ∧ Ext m m') := by
 obtain ⟨q, cap, rfl⟩ := (GsAt.lenN hG)
 have h10 := hc.ten
 have hp := pow10 h10
 refine wpF (args := [_]) mixed okf98k (fn := Tryd.f98) rfl rfl rfl (by simp) ?_
 refine cSR ?_
 refine sBox (v := .agg _) rfl ?_
 change wpOps _ _ _ _ _ (m.push (.cells true #[nv n, .int .i64 b, .slice q Gs.length cap]))
 refine sAs (v := .slice _ _ _) rfl ?_
 refine sN ?_
 refine cSR ?_
 refine sAllocB (bl := m.size + 1) (by simp) Z22 (by kernel_rfl) ?_
 change wpOps _ _ _ _ _ ((m.push (.cells true #[nv n, .int .i64 b, .slice q Gs.length cap])).push (.cells true #[.slice none 0 0]))
 have g0 : Mem.get ((m.push (.cells true #[nv n, .int .i64 b, .slice q Gs.length cap])).push (.cells true #[.slice none 0 0])) m.size = .cells true #[nv n, .int .i64 b, .slice q Gs.length cap] := by rw [gPn (by simp), gP rfl]
 have g1 : Mem.get ((m.push (.cells true #[nv n, .int .i64 b, .slice q Gs.length cap])).push (.cells true #[.slice none 0 0])) (m.size + 1) = .cells true #[.slice none 0 0] := gP (by simp)
 have hz1 : ((m.push (.cells true #[nv n, .int .i64 b, .slice q Gs.length cap])).push (.cells true #[.slice none 0 0])).size = m.size + 2 := by simp
 have e1 : Ext m ((m.push (.cells true #[nv n, .int .i64 b, .slice q Gs.length cap])).push (.cells true #[.slice none 0 0])) := (Ext.push _ _).trans (.push _ _)
 generalize (m.push (.cells true #[nv n, .int .i64 b, .slice q Gs.length cap])).push (.cells true #[.slice none 0 0]) = M1 at *
 refine sN ?_
 refine cSeq (cSR ?_)
 refine sFA F30_0 rfl ?_
 refine sLd (v := nv n) A3 rfl g0 rfl ?_
 obtain ⟨v7, m7, h7, rfl, rfl⟩ := spec_states (m := M1) (n := n)
 refine sCall1 rfl call130 rfl h7 ?_
 have hz : (M1.push (.cells true #[nv n])).size = m.size + 3 := by simp [hz1]
 refine sN ?_
 refine cBlock ?_
 refine cStates (n := n) (pp := M1.size) (by kernel_rfl) (by kernel_rfl) rfl h10 (fun i m1 => m.size + 3 ≤ m1.size ∧ Ext m m1 ∧ Mem.get m1 m.size = .cells true #[nv n, .int .i64 b, .slice q Gs.length cap] ∧ (∃ v, Mem.get m1 (m.size + 1) = .cells true #[v] ∧ OwnF (m.size + 4) m1 v (ofs (rtabSU i Gs))) ∧ Mem.get m1 (m.size + 2) = .cells true #[nv n]) (fun i m1 h => ⟨true, by rw [hz1]; exact h.2.2.2.2⟩) (fun o => ⟨by simp [hz1], e1.trans ((Ext.push _ _).trans (.push _ _)), by rw [gPn (by rw [hz]; omega), gPn (by omega)]; exact g0, ⟨_, by rw [gPn (by rw [hz]; omega), gPn (by omega)]; exact g1, .nil _ _⟩, by rw [gPn (by rw [hz]; omega), gP (by omega)]⟩) ?_ ?_
 ·
  rintro R B i m1 hi hlp hlt ⟨k1, k2, k3, ⟨u, k4, k5⟩, k6⟩
  rw [hz] at hlp hlt ⊢
  obtain ⟨qu, cu, rfl⟩ := k5.ints.lenN
  have k5' : OwnF (m.size + 4) (m1.setIfInBounds (m.size + 3) (.loop B)) (.slice qu (rtabSU i Gs).length cu) (ofs (rtabSU i Gs)) := k5.keepC fun b c _ hb => set_keepC hlp b c hb
  have k2' : Ext m (m1.setIfInBounds (m.size + 3) (.loop B)) := k2.set (by omega) _
  have k3' : Mem.get (m1.setIfInBounds (m.size + 3) (.loop B)) m.size = _ := (gSn (by omega)).trans k3
  have k4' : Mem.get (m1.setIfInBounds (m.size + 3) (.loop B)) (m.size + 1) = .cells true #[.slice qu (rtabSU i Gs).length cu] := (gSn (by omega)).trans k4
  have k6' : Mem.get (m1.setIfInBounds (m.size + 3) (.loop B)) (m.size + 2) = _ := (gSn (by omega)).trans k6
  have kB : Mem.get (m1.setIfInBounds (m.size + 3) (.loop B)) (m.size + 3) = .loop B := gS rfl hlt
  have kz : m.size + 3 < (m1.setIfInBounds (m.size + 3) (.loop B)).size := by simpa using hlt
  have htl : (rtabSU i Gs).length = i := by simp [rtabSU]
  refine cRegion ?_
  refine sAs (v := nv _) rfl ?_
  refine sNil ?_
  refine ⟨rfl, hlp, ?_⟩
  generalize m1.setIfInBounds (m.size + 3) (.loop B) = M at *
  clear hlp hlt k1 k2 k3 k4 k5 k6
  refine cBlock ?_
  refine cDrawH (hs := [(0, 4), (0, 5)]) rfl (by decide) ?_
  refine lStepLd (v := .slice _ _ _) A22 rfl k4' rfl fun e0 hm0 hv0 hr0 => ?_
  refine lStepLdA A30 S30 rfl k3' rfl fun e1 hm1 hv1 hr1 => ?_
  refine lStepO (sMv (v := nv _) rfl (sNil fun e2 hm2 => ?_))
  obtain ⟨v12, m12, h12, rfl, e12⟩ := spec_runK (hC.ext k2') (hG.ext k2') hc (x := i) hi
  refine lStepO (sCall2 rfl call97 rfl rfl h12 (sNil fun e3 hm3 => ?_))
  have z12 := e12.1
  have k412 := e12.cells k4'
  refine lStepO (sBuildS T22 S3 Z3 (by decide) (by decide) (by decide) (by kernel_rfl) fill1 rfl (sNil fun e4 hm4 => ?_))
  refine lStepO (sApp App22 rfl rfl (N := m.size + 4) ((k5'.ext e12).ext (.push _ _)) one_ints (by simp; omega) (by rw [ofs_length]; simp; omega) fun v4 m4 hO4 hL4 => (sNil fun e5 hm5 => ?_))
  rw [show ofs (rtabSU i Gs) ++ [Int.ofNat (runS Gs i)] = ofs (rtabSU (i + 1) Gs) by rw [rtabSU_succ, ofs_append]; rfl] at hO4
  obtain ⟨q4, c4, rfl⟩ := hO4.ints.lenN
  have hlo4 : ∀ b, b < m.size + 4 → Mem.get m4 b = Mem.get M b := fun b hb => by
   rw [hL4.2 b hb, gPn (by omega), e12.2 b (by omega)]
  have k44 : Mem.get m4 (m.size + 1) = .cells true #[.slice qu (rtabSU i Gs).length cu] := (hlo4 _ (by omega)).trans k4'
  refine lStepO (sSt (v := .slice _ _ _) S22 rfl rfl k44 (by simp) rfl rfl (sNil fun e6 hm6 => ?_))
  refine ⟨?_, (kBlkN ?_)⟩
  ·
   refine obl_atE (e := e0) (e' := e4) (by simp) (by rfl) (by simp) ((hr0 e4.m _ _ (by rw [hm4]; exact k412) (by rfl)).trans (congrArg some hv0.symm)) ?_
   refine obl_atE (e := e0) (e' := e5) (by simp) (by rfl) (by simp) ((hr0 e5.m _ _ (by rw [hm5, gPn (live k412)]; exact k412) (by rfl)).trans (congrArg some hv0.symm)) ?_
   trivial
  have z4 : m.size + 3 < m4.size := by have := hL4.1; simp at this; omega
  have kB4 : Mem.get (m4.setIfInBounds (m.size + 1) (.cells true #[.slice q4 (rtabSU (i + 1) Gs).length c4])) (m.size + 3) = .loop B := (gSn (by omega)).trans ((hlo4 _ (by omega)).trans kB)
  refine ⟨rfl, kB4, ⟨by simp; omega, ⟨by simp; omega, fun b hb => ?_⟩, ?_, ⟨_, (gSn (by omega)).trans (gS rfl (by omega)), ?_⟩, ?_⟩, by simpa using z4⟩
  ·rw [gSn (by omega), gSn (by omega), hlo4 _ (by omega)]; exact k2'.2 b hb
  ·rw [gSn (by omega), gSn (by omega), hlo4 _ (by omega)]; exact k3'
  ·exact (hO4.keepC fun b c hb h => (gSn (by omega)).trans h).keepC fun b c _ hb => set_keepC kB4 b c hb
  ·rw [gSn (by omega), gSn (by omega), hlo4 _ (by omega)]; exact k6'
 rintro m2 ⟨k1, k2, k3, ⟨u, k4, k5⟩, k6⟩ hlt ⟨L, hL⟩
 rw [hz] at hlt hL ⊢
 have k4' : Mem.get (m2.setIfInBounds (m.size + 3) .dead) (m.size + 1) = .cells true #[u] := (gSn (by omega)).trans k4
 refine (kBlkN (kSeqN ?_))
 refine cSR ?_
 refine sLd (v := u) A22 rfl k4' rfl ?_
 refine sAs (v := u) rfl ?_
 refine sN ?_
 refine cRet ?_
 exact ⟨.inr rfl, _, rfl, (k5.keepC fun b c _ hb => set_keepC hL b c hb).mono (by omega), k2.set (by omega) _⟩
theorem okf41k : okF Tryd.prog H0 41 12 = true := by kernel_rfl
theorem spec_TableK {m : Mem} {n b : Int} {s : Value} {Gs : List GateV} (hC : GlobK m) (hG : GsAt m s Gs) : ∃ v m', ACalls Tryd.prog 41 #[.agg #[.int .i64 n, .int .i64 b, s]] m v m' ∧ (∃ w, v = .tuple #[w, nv (circ8E n b Gs)] ∧ OwnF m.size m' w (ofs (tabL n b Gs)) ∧ Ext m m') := by
 obtain ⟨q, cap, rfl⟩ := hG.len
 refine wpF (args := [_]) mixed okf41k (fn := Tryd.f41) rfl rfl rfl (by simp) ?_
 refine cSR ?_
 refine sBox (v := .agg _) rfl ?_
 change wpOps _ _ _ _ _ (m.push (.cells true #[.int .i64 n, .int .i64 b, .slice q Gs.length cap]))
 have e1 : Ext m (m.push (.cells true #[.int .i64 n, .int .i64 b, .slice q Gs.length cap])) := .push _ _
 have g1 : Mem.get (m.push (.cells true #[.int .i64 n, .int .i64 b, .slice q Gs.length cap])) m.size = .cells true #[.int .i64 n, .int .i64 b, .slice q Gs.length cap] := gP rfl
 generalize m.push (.cells true #[.int .i64 n, .int .i64 b, .slice q Gs.length cap]) = M at *
 refine sAs (v := .slice _ _ _) rfl ?_
 refine sAs (v := nv 0) rfl ?_
 refine sN ?_
 refine cSeq (cSR ?_)
 refine sLdAll A30 S30 rfl g1 rfl ?_
 obtain ⟨v8, m8, h8, rfl, e8⟩ := spec_Check8I (n := n) (b := b) (hC.ext e1) (hG.ext e1)
 refine sCall1 rfl call45 rfl h8 ?_
 replace g1 := e8.cells g1
 replace e1 := e1.trans e8
 refine sAs (v := nv _) rfl ?_
 refine sN ?_
 refine cSR ?_
 refine sMv (v := nv _) rfl ?_
 refine sBin (a := circ8E n b Gs) (b := 0) rfl rfl aInt_neq ?_
 refine sN ?_
 refine cCond (p := circ8E n b Gs ≠ 0) rfl (fun c0 => ?_) (fun c0 => ?_)
 ·
  refine cSR ?_
  refine sMv (v := nv _) rfl ?_
  refine sAs (v := .slice _ _ _) rfl ?_
  refine sAs (v := nv _) rfl ?_
  refine sN ?_
  refine cRet (kSeqR ?_)
  exact ⟨.inr rfl, _, rfl, _, rfl, by rw [tabL, if_neg c0]; exact .nil _ _, e1⟩
 ·
  have h0 : circ8E n b Gs = 0 := Classical.byContradiction c0
  obtain ⟨n', b', Gs', rfl, rfl, rfl, hc⟩ := circ8_nat h0
  simp only [List.length_map] at g1
  refine cSkip (kSeqN ?_)
  refine cSR ?_
  refine sLdAll A30 S30 rfl g1 rfl ?_
  obtain ⟨v11, m11, h11, o11, e11⟩ := spec_tableK (b := Int.ofNat b') (hC.ext e1) (hG.ext e1) hc
  obtain ⟨q11, c11, rfl⟩ := o11.ints.lenN
  simp only [List.length_map] at h11
  refine sCall1 rfl call98 rfl h11 ?_
  refine sAs (v := .slice _ _ _) rfl ?_
  refine sAs (v := nv 0) rfl ?_
  refine sN ?_
  refine cRet ?_
  exact ⟨.inr rfl, _, rfl, _, by rw [h0]; rfl, by rw [tabL, if_pos h0, gnM_all]; exact o11.mono e1.1, e1.trans e11⟩
def H43 : Nat → List (Nat × Nat) := fun id => if id = 9 then [(2, 0)] else []
theorem okf43 : okF Tryd.prog H43 43 28 = true := by kernel_rfl
theorem spec_SameK {m : Mem} {n b n2 b2 : Int} {s s2 : Value} {Gs Gs2 : List GateV} (hC : GlobK m) (hG : GsAt m s Gs) (hG2 : GsAt m s2 Gs2) : ∃ v m', ACalls Tryd.prog 43 #[.agg #[.int .i64 n, .int .i64 b, s], .agg #[.int .i64 n2, .int .i64 b2, s2]] m v m' ∧ (v = .tuple #[.bool (sameB n b Gs n2 b2 Gs2), nv (sameE n b Gs n2 b2 Gs2)] ∧ Ext m m') := by
 obtain ⟨q, cap, rfl⟩ := hG.len
 obtain ⟨q2, cap2, rfl⟩ := hG2.len
 refine wpF (args := [_, _]) mixed okf43 (fn := Tryd.f43) rfl rfl rfl (by simp) ?_
 refine cSR ?_
 refine sBox (v := .agg _) rfl ?_
 refine sBoxB (bl := m.size + 1) (v := .agg _) (by simp) rfl ?_
 change wpOps _ _ _ _ _ ((m.push (.cells true #[.int .i64 n, .int .i64 b, .slice q Gs.length cap])).push (.cells true #[.int .i64 n2, .int .i64 b2, .slice q2 Gs2.length cap2]))
 have e1 : Ext m ((m.push (.cells true #[.int .i64 n, .int .i64 b, .slice q Gs.length cap])).push (.cells true #[.int .i64 n2, .int .i64 b2, .slice q2 Gs2.length cap2])) := (Ext.push _ _).trans (.push _ _)
 have g1 : Mem.get ((m.push (.cells true #[.int .i64 n, .int .i64 b, .slice q Gs.length cap])).push (.cells true #[.int .i64 n2, .int .i64 b2, .slice q2 Gs2.length cap2])) m.size = .cells true #[.int .i64 n, .int .i64 b, .slice q Gs.length cap] := by rw [gPn (by simp), gP rfl]
 have g2 : Mem.get ((m.push (.cells true #[.int .i64 n, .int .i64 b, .slice q Gs.length cap])).push (.cells true #[.int .i64 n2, .int .i64 b2, .slice q2 Gs2.length cap2])) (m.size + 1) = .cells true #[.int .i64 n2, .int .i64 b2, .slice q2 Gs2.length cap2] := gP (by simp)
 generalize ((m.push (.cells true #[.int .i64 n, .int .i64 b, .slice q Gs.length cap])).push (.cells true #[.int .i64 n2, .int .i64 b2, .slice q2 Gs2.length cap2])) = M at *
 refine sAs (v := .bool _) rfl ?_
 refine sAs (v := nv 0) rfl ?_
 refine sN ?_
 refine cSeq (cSR ?_)
 refine sLdAll A30 S30 rfl g1 rfl ?_
 obtain ⟨v9, m9, h9, rfl, e9⟩ := spec_Check8I (n := n) (b := b) (hC.ext e1) (hG.ext e1)
 refine sCall1 rfl call45 rfl h9 ?_
 replace g1 := e9.cells g1
 replace g2 := e9.cells g2
 replace e1 := e1.trans e9
 refine sAs (v := nv _) rfl ?_
 refine sN ?_
 refine cSR ?_
 refine sMv (v := nv _) rfl ?_
 refine sBin (a := circ8E n b Gs) (b := 0) rfl rfl aInt_neq ?_
 refine sN ?_
 refine cCond (p := circ8E n b Gs ≠ 0) rfl (fun c0 => ?_) (fun c0 => ?_)
 ·
  refine cSR ?_
  refine sMv (v := nv _) rfl ?_
  refine sAs (v := .bool _) rfl ?_
  refine sAs (v := nv _) rfl ?_
  refine sN ?_
  refine cRet (kSeqR ?_)
  have ha : sameE n b Gs n2 b2 Gs2 = circ8E n b Gs := by rw [sameE, if_pos c0]
  exact ⟨.inr rfl, _, rfl, by rw [sameB, ha, if_neg c0]; rfl, e1⟩
 ·
  refine cSkip (kSeqN ?_)
  refine cSeq (cSR ?_)
  refine sLdAll A30 S30 rfl g2 rfl ?_
  obtain ⟨v14, m14, h14, rfl, e14⟩ := spec_Check8I (n := n2) (b := b2) (hC.ext e1) (hG2.ext e1)
  refine sCall1 rfl call45 rfl h14 ?_
  replace g1 := e14.cells g1
  replace g2 := e14.cells g2
  replace e1 := e1.trans e14
  refine sAs (v := nv _) rfl ?_
  refine sN ?_
  refine cSR ?_
  refine sMv (v := nv _) rfl ?_
  refine sBin (a := circ8E n2 b2 Gs2) (b := 0) rfl rfl aInt_neq ?_
  refine sN ?_
  refine cCond (p := circ8E n2 b2 Gs2 ≠ 0) rfl (fun c1 => ?_) (fun c1 => ?_)
  ·
   refine cSR ?_
   refine sMv (v := nv _) rfl ?_
   refine sAs (v := .bool _) rfl ?_
   refine sAs (v := nv _) rfl ?_
   refine sN ?_
   refine cRet (kSeqR ?_)
   have ha : sameE n b Gs n2 b2 Gs2 = circ8E n2 b2 Gs2 := by rw [sameE, if_neg c0, if_pos c1]
   exact ⟨.inr rfl, _, rfl, by rw [sameB, ha, if_neg c1]; rfl, e1⟩
  ·
   refine cSkip (kSeqN ?_)
   refine cSeq (cSR ?_)
   refine sFA F30_0 rfl ?_
   refine sLd (v := .int .i64 n) A3 rfl g1 rfl ?_
   refine sFA F30_0 rfl ?_
   refine sLd (v := .int .i64 n2) A3 rfl g2 rfl ?_
   refine sBinI (v := .bool (decide (n ≠ n2))) rfl rfl aInt_neqI ?_
   refine sN ?_
   refine cCond (p := n ≠ n2) rfl (fun c2 => ?_) (fun c2 => ?_)
   ·
    refine cSR ?_
    refine sAs (v := .bool _) rfl ?_
    refine sAs (v := nv 7) rfl ?_
    refine sN ?_
    refine cRet (kSeqR ?_)
    have ha : sameE n b Gs n2 b2 Gs2 = 7 := by rw [sameE, if_neg c0, if_neg c1, if_pos c2]
    exact ⟨.inr rfl, _, rfl, by rw [sameB, ha, if_neg (by decide)]; rfl, e1⟩
   ·
    have h0 : circ8E n b Gs = 0 := Classical.byContradiction c0
    have h1 : circ8E n2 b2 Gs2 = 0 := Classical.byContradiction c1
    obtain ⟨n', b', Gs', rfl, rfl, rfl, hc⟩ := circ8_nat h0
    obtain ⟨n2', b2', Gs2', rfl, rfl, rfl, hc2⟩ := circ8_nat h1
    simp only [List.length_map] at g1 g2
    have eM := e1
    clear e1
    refine cSkip (kSeqN ?_)
    refine cSeq ?_
    refine cDrawH (hs := [(2, 0)]) rfl (by decide) ?_
    refine lStepLdA A30 S30 rfl g1 rfl fun e0 hm0 hv0 hr0 => ?_
    obtain ⟨v24, m24, h24, o24, e24⟩ := spec_tableK (b := Int.ofNat b') (hC.ext eM) (hG.ext eM) hc
    obtain ⟨q24, c24, rfl⟩ := o24.ints.lenN
    simp only [List.length_map] at h24
    refine lStepO (sCall1 rfl call98 rfl h24 (sNil fun e1 hm1 => ?_))
    have g2' := e24.cells g2
    refine lStepLdA A30 S30 rfl g2' rfl fun e2 hm2 hv2 hr2 => ?_
    obtain ⟨v26, m26, h26, o26, e26⟩ := spec_tableK (b := Int.ofNat b2') ((hC.ext eM).ext e24) ((hG2.ext eM).ext e24) hc2
    obtain ⟨q26, c26, rfl⟩ := o26.ints.lenN
    simp only [List.length_map] at h26
    refine lStepO (sCall1 rfl call98 rfl h26 (sNil fun e3 hm3 => ?_))
    have h27 := spec_Equal (o24.ints.ext e26) o26.ints (by rw [ofs_length]; have := pow10 hc.ten; simp only [rtabS, List.length_map, List.length_range]; omega)
    refine lStepO (sCall2 rfl call28 rfl rfl h27 (sNil fun e4 hm4 => ?_))
    refine lStepO (sAs (v := .bool _) rfl (sNil fun e5 hm5 => ?_))
    refine lStepO (sAs (v := nv 0) rfl (sNil fun e6 hm6 => ?_))
    refine ⟨?_, (kSeqN ?_)⟩
    ·
     refine obl_atE (e := e2) (e' := e0) (by simp) (by rfl) (by simp) ((hr2 e0.m _ (by rw [hm0]; exact g2)).trans (congrArg some hv2.symm)) ?_
     trivial
    refine cRet ?_
    have ha : sameE (Int.ofNat n') (Int.ofNat b') (Gs'.map gvM) (Int.ofNat n2') (Int.ofNat b2') (Gs2'.map gvM) = 0 := by rw [sameE, if_neg c0, if_neg c1, if_neg c2]
    have hd : decide (ofs (rtabS n' Gs') = ofs (rtabS n2' Gs2')) = decide (rtabS n' Gs' = rtabS n2' Gs2') := decide_eq_decide.2 ofs_inj
    have hsb : sameB (Int.ofNat n') (Int.ofNat b') (Gs'.map gvM) (Int.ofNat n2') (Int.ofNat b2') (Gs2'.map gvM) = decide (ofs (rtabS n' Gs') = ofs (rtabS n2' Gs2')) := by
     rw [sameB, ha, if_pos rfl, tabL, if_pos h0, tabL, if_pos h1, gnM_all, gnM_all, hd]; rfl
    exact ⟨.inr rfl, _, rfl, by rw [hsb, ha]; rfl, (eM.trans e24).trans e26⟩
end Go.AM

/-! R64 -/
namespace Go.AM
open Go.Proofs
theorem arI_14 {k : Int} (h : ¬ arI k = 0) : k ≤ 14 := by
 unfold arI at h
 split at h
 ·omega
 split at h
 ·omega
 split at h
 ·omega
 ·exact absurd rfl h
theorem okf133k : okF Tryd.prog H0 133 15 = true := by kernel_rfl
theorem spec_offI {m : Mem} {x lo hi : Int} : ∃ v m', ACalls Tryd.prog 133 #[.int .i64 x, .int .i64 lo, .int .i64 hi] m v m' ∧ (v = .bool (decide (x < lo ∨ hi < x)) ∧ m = m') := by
 refine wpF (args := [_, _, _]) mixed okf133k (fn := Tryd.f133) rfl rfl rfl (by simp) ?_
 refine cSR ?_
 refine sAs (v := .bool _) rfl ?_
 refine sN ?_
 refine cSR ?_
 refine sMv (v := .int _ _) rfl ?_
 refine sMv (v := .int _ _) rfl ?_
 refine sBinI (v := .bool (decide (x < lo))) rfl rfl aInt_lssI ?_
 refine sMv (v := .bool _) rfl ?_
 by_cases q1 : x < lo
 ·
  rw [decide_eq_true q1]
  refine sGT rfl rfl ?_
  refine sGT rfl rfl ?_
  refine sGT rfl rfl ?_
  refine sP (v := .bool _) rfl ?_
  refine sAs (v := .bool _) rfl ?_
  refine sN ?_
  refine cRet ?_
  exact ⟨.inr rfl, _, rfl, by rw [decide_eq_true (p := x < lo ∨ hi < x) (.inl q1)]; rfl, rfl⟩
 ·
  rw [decide_eq_false q1]
  refine sG rfl rfl ?_
  refine sMv (v := .int _ _) rfl ?_
  refine sG rfl rfl ?_
  refine sMv (v := .int _ _) rfl ?_
  refine sG rfl rfl ?_
  refine sBinI (v := .bool (decide (hi < x))) rfl rfl aInt_gtrI ?_
  refine sP (v := .bool _) rfl ?_
  refine sAs (v := .bool _) rfl ?_
  refine sN ?_
  refine cRet ?_
  exact ⟨.inr rfl, _, rfl, by rw [show decide (x < lo ∨ hi < x) = decide (hi < x) from decide_eq_decide.2 ⟨fun h => by omega, fun h => by omega⟩]; rfl, rfl⟩
theorem okf150k : okF Tryd.prog H0 150 25 = true := by kernel_rfl
theorem spec_rArityI {m : Mem} {k : Int} : ∃ v m', ACalls Tryd.prog 150 #[.int .i64 k] m v m' ∧ (v = nv (arI k) ∧ m = m') := by
 refine wpF (args := [_]) mixed okf150k (fn := Tryd.f150) rfl rfl rfl (by simp) ?_
 refine cSR ?_
 refine sAs (v := nv 0) rfl ?_
 refine sN ?_
 refine cSeq ?_
 refine cCut (fun ρ m' => m = m' ∧ Has ρ [(0, .int .i64 k), (16, .bool (decide ((1 ≤ k ∧ k ≤ 8) ∨ k = 13 ∨ k = 14)))]) ?_ ?_
 ·
  refine cRegion ?_
  refine sMv (v := .int _ _) rfl ?_
  refine sBinI (v := .bool (decide (1 ≤ k))) (b := 1) rfl rfl aInt_geqI ?_
  refine sMv (v := .bool _) rfl ?_
  by_cases q1 : 1 ≤ k
  ·
   rw [decide_eq_true q1]
   refine sG rfl rfl ?_
   refine sMv (v := .int _ _) rfl ?_
   refine sG rfl rfl ?_
   refine sBinI (v := .bool (decide (k ≤ 8))) (b := 8) rfl rfl aInt_leqI ?_
   refine sP (v := .bool _) rfl ?_
   refine sMv (v := .bool _) rfl ?_
   by_cases q2 : k ≤ 8
   ·
    rw [decide_eq_true q2]
    refine sGT rfl rfl ?_
    refine sGT rfl rfl ?_
    refine sP (v := .bool _) rfl ?_
    refine sMv (v := .bool _) rfl ?_
    refine sGT rfl rfl ?_
    refine sGT rfl rfl ?_
    refine sP (v := .bool _) rfl ?_
    refine sN ?_
    exact ⟨rfl, rfl, by rw [decide_eq_true (p := (1 ≤ k ∧ k ≤ 8) ∨ k = 13 ∨ k = 14) (by omega)]; rfl, trivial⟩
   ·
    rw [decide_eq_false q2]
    refine sG rfl rfl ?_
    refine sMv (v := .int _ _) rfl ?_
    refine sG rfl rfl ?_
    refine sBinI (v := .bool (decide (k = 13))) (b := 13) rfl rfl aInt_eqlI ?_
    refine sP (v := .bool _) rfl ?_
    refine sMv (v := .bool _) rfl ?_
    by_cases q3 : k = 13
    ·
     rw [decide_eq_true q3]
     refine sGT rfl rfl ?_
     refine sGT rfl rfl ?_
     refine sP (v := .bool _) rfl ?_
     refine sN ?_
     exact ⟨rfl, rfl, by rw [decide_eq_true (p := (1 ≤ k ∧ k ≤ 8) ∨ k = 13 ∨ k = 14) (by omega)]; rfl, trivial⟩
    ·
     rw [decide_eq_false q3]
     refine sG rfl rfl ?_
     refine sMv (v := .int _ _) rfl ?_
     refine sG rfl rfl ?_
     refine sBinI (v := .bool (decide (k = 14))) (b := 14) rfl rfl aInt_eqlI ?_
     refine sP (v := .bool _) rfl ?_
     refine sN ?_
     exact ⟨rfl, rfl, by rw [show decide ((1 ≤ k ∧ k ≤ 8) ∨ k = 13 ∨ k = 14) = decide (k = 14) from decide_eq_decide.2 ⟨fun h => by omega, fun h => by omega⟩]; rfl, trivial⟩
  ·
   rw [decide_eq_false q1]
   refine sGF rfl rfl ?_
   refine sGF rfl rfl ?_
   refine sP (v := .bool _) rfl ?_
   refine sMv (v := .bool _) rfl ?_
   refine sG rfl rfl ?_
   refine sMv (v := .int _ _) rfl ?_
   refine sG rfl rfl ?_
   refine sBinI (v := .bool (decide (k = 13))) (b := 13) rfl rfl aInt_eqlI ?_
   refine sP (v := .bool _) rfl ?_
   refine sMv (v := .bool _) rfl ?_
   by_cases q3 : k = 13
   ·
    rw [decide_eq_true q3]
    refine sGT rfl rfl ?_
    refine sGT rfl rfl ?_
    refine sP (v := .bool _) rfl ?_
    refine sN ?_
    exact ⟨rfl, rfl, by rw [decide_eq_true (p := (1 ≤ k ∧ k ≤ 8) ∨ k = 13 ∨ k = 14) (by omega)]; rfl, trivial⟩
   ·
    rw [decide_eq_false q3]
    refine sG rfl rfl ?_
    refine sMv (v := .int _ _) rfl ?_
    refine sG rfl rfl ?_
    refine sBinI (v := .bool (decide (k = 14))) (b := 14) rfl rfl aInt_eqlI ?_
    refine sP (v := .bool _) rfl ?_
    refine sN ?_
    exact ⟨rfl, rfl, by rw [show decide ((1 ≤ k ∧ k ≤ 8) ∨ k = 13 ∨ k = 14) = decide (k = 14) from decide_eq_decide.2 ⟨fun h => by omega, fun h => by omega⟩]; rfl, trivial⟩
 rintro ρ _ ⟨rfl, hh⟩
 rw [hh.env]; clear hh
 refine cCond (p := (1 ≤ k ∧ k ≤ 8) ∨ k = 13 ∨ k = 14) rfl (fun c0 => ?_) (fun c0 => ?_)
 ·
  refine cSR ?_
  refine sAs (v := nv 1) rfl ?_
  refine sN ?_
  refine cRet (kSeqR ?_)
  exact ⟨.inr rfl, _, rfl, by rw [arI, if_neg (by omega), if_neg (by omega), if_pos (by omega)]; rfl, rfl⟩
 ·
  refine cSkip (kSeqN ?_)
  refine cSeq ?_
  refine cCut (fun ρ m' => m = m' ∧ Has ρ [(0, .int .i64 k), (22, .bool (decide (9 ≤ k ∧ k ≤ 11)))]) ?_ ?_
  ·
   refine cRegion ?_
   refine sMv (v := .int _ _) rfl ?_
   refine sBinI (v := .bool (decide (9 ≤ k))) (b := 9) rfl rfl aInt_geqI ?_
   refine sMv (v := .bool _) rfl ?_
   by_cases q1 : 9 ≤ k
   ·
    rw [decide_eq_true q1]
    refine sG rfl rfl ?_
    refine sMv (v := .int _ _) rfl ?_
    refine sG rfl rfl ?_
    refine sBinI (v := .bool (decide (k ≤ 11))) (b := 11) rfl rfl aInt_leqI ?_
    refine sP (v := .bool _) rfl ?_
    refine sN ?_
    exact ⟨rfl, rfl, by rw [show decide (9 ≤ k ∧ k ≤ 11) = decide (k ≤ 11) from decide_eq_decide.2 ⟨fun h => by omega, fun h => by omega⟩]; rfl, trivial⟩
   ·
    rw [decide_eq_false q1]
    refine sGF rfl rfl ?_
    refine sGF rfl rfl ?_
    refine sP (v := .bool _) rfl ?_
    refine sN ?_
    exact ⟨rfl, rfl, by rw [decide_eq_false (p := 9 ≤ k ∧ k ≤ 11) (by omega)]; rfl, trivial⟩
  rintro ρ _ ⟨rfl, hh⟩
  rw [hh.env]; clear hh
  refine cCond (p := 9 ≤ k ∧ k ≤ 11) rfl (fun c1 => ?_) (fun c1 => ?_)
  ·
   refine cSR ?_
   refine sAs (v := nv 2) rfl ?_
   refine sN ?_
   refine cRet (kSeqR ?_)
   exact ⟨.inr rfl, _, rfl, by rw [arI, if_neg (by omega), if_pos c1]; rfl, rfl⟩
  ·
   refine cSkip (kSeqN ?_)
   refine cSeq (cSR ?_)
   refine sMv (v := .int _ _) rfl ?_
   refine sBinI (v := .bool (decide (k = 12))) (b := 12) rfl rfl aInt_eqlI ?_
   refine sN ?_
   refine cCond (p := k = 12) rfl (fun c2 => ?_) (fun c2 => ?_)
   ·
    refine cSR ?_
    refine sAs (v := nv 3) rfl ?_
    refine sN ?_
    refine cRet (kSeqR ?_)
    exact ⟨.inr rfl, _, rfl, by rw [arI, if_pos c2]; rfl, rfl⟩
   ·
    refine cSkip (kSeqN ?_)
    refine cSR ?_
    refine sAs (v := nv 0) rfl ?_
    refine sN ?_
    refine cRet ?_
    exact ⟨.inr rfl, _, rfl, by rw [arI, if_neg c2, if_neg c1, if_neg (by omega)]; rfl, rfl⟩
def H134k : Nat → List (Nat × Nat) := fun id => if id = 3 then [(1, 6), (2, 6)] else []
theorem okf134k : okF Tryd.prog H134k 134 86 = true := by kernel_rfl
theorem spec_rCheckGateI {m : Mem} {n b : Int} {ws : Value} {g : GateV} (hw : IntsAt m ws g.2.1) (hk : CapOk ws) (hn : n ≤ 100) (hb : b ≤ 100) (hn0 : -100 ≤ n) (hb0 : -100 ≤ b) : ∃ v m', ACalls Tryd.prog 134 #[.agg #[.int .i64 g.1, ws, .int .i64 g.2.2.1, .int .i64 g.2.2.2], .int .i64 n, .int .i64 b] m v m' ∧ (v = nv (gateE n b g) ∧ Ext m m') := by
 obtain ⟨k, l, bt, cf⟩ := g
 simp only at hw ⊢
 obtain ⟨qw, cw, rfl⟩ := hw.len
 have ex : Ext m (m.push (.cells true #[.int .i64 k, .slice qw l.length cw, .int .i64 bt, .int .i64 cf])) := .push _ _
 have g2 : Mem.get (m.push (.cells true #[.int .i64 k, .slice qw l.length cw, .int .i64 bt, .int .i64 cf])) m.size = .cells true #[.int .i64 k, .slice qw l.length cw, .int .i64 bt, .int .i64 cf] := gP rfl
 refine wpF (args := [_, _, _]) mixed okf134k (fn := Tryd.f134) rfl rfl rfl (by simp) ?_
 refine cSR ?_
 refine sBox (v := .agg _) rfl ?_
 change wpOps _ _ _ _ _ (m.push (.cells true #[.int .i64 k, .slice qw l.length cw, .int .i64 bt, .int .i64 cf]))
 generalize m.push (.cells true #[.int .i64 k, .slice qw l.length cw, .int .i64 bt, .int .i64 cf]) = M at *
 have hwM := hw.ext ex
 refine sAs (v := nv 0) rfl ?_
 refine sN ?_
 refine cSeq (cSR ?_)
 refine sFA F49_0 rfl ?_
 refine sLd (v := .int .i64 k) A3 rfl g2 rfl ?_
 obtain ⟨v11, m11, h11, rfl, rfl⟩ := spec_rArityI (m := M) (k := k)
 refine sCall1 rfl call150 rfl h11 ?_
 refine sBin (a := arI k) (b := 0) rfl rfl aInt_eql ?_
 refine sN ?_
 refine cCond (p := arI k = 0) rfl (fun c0 => ?_) (fun c0 => ?_)
 ·
  refine cSR ?_
  refine sAs (v := nv 3) rfl ?_
  refine sN ?_
  refine cRet (kSeqR ?_)
  exact ⟨.inr rfl, _, rfl, by rw [gE1 c0]; rfl, ex⟩
 ·
  refine cSkip (kSeqN ?_)
  refine cSeq (cSeq ?_)
  refine cDrawH (hs := [(1, 6), (2, 6)]) rfl (by decide) ?_
  refine lStepO (sFA F49_1 rfl (sNil fun e0 hm0 => ?_))
  refine lStepLd (v := .slice qw l.length cw) A22 rfl g2 rfl fun e1 hm1 hv1 hr1 => ?_
  refine lStepLen T22 rfl fun e2 hm2 hv2 hr2 => ?_
  refine lStepO (sFA F49_0 rfl (sNil fun e3 hm3 => ?_))
  refine lStepLd (v := .int .i64 k) A3 rfl g2 rfl fun e4 hm4 hv4 hr4 => ?_
  obtain ⟨v18, m18, h18, rfl, rfl⟩ := spec_rArityI (m := M) (k := k)
  refine lStepO (sCall1 rfl call150 rfl h18 (sNil fun e5 hm5 => ?_))
  refine lStepO (sBin (a := l.length) (b := arI k) rfl rfl aInt_neq (sNil fun e6 hm6 => ?_))
  refine ⟨?_, (kSeqN ?_)⟩
  ·
   refine obl_atE (e := e1) (e' := e6) (by simp) (by rfl) (by simp) ((hr1 e6.m _ _ (by rw [hm6]; exact g2) (by rfl)).trans (congrArg some hv1.symm)) ?_
   refine obl_pure (e := e2) (by simp) (by rfl) (hr2.trans (congrArg some hv2.symm)) ?_
   trivial
  refine cCond (p := l.length ≠ arI k) rfl (fun c1 => ?_) (fun c1 => ?_)
  ·
   refine cSR ?_
   refine sAs (v := nv 2) rfl ?_
   refine sN ?_
   refine cRet (kSeqR ?_)
   exact ⟨.inr rfl, _, rfl, by rw [gE2 c0 c1]; rfl, ex⟩
  ·
   have hl14 : l.length ≤ 3 := by
    have h1 : l.length = arI k := Classical.byContradiction c1
    have := arI_le k
    omega
   refine cSkip (kSeqN ?_)
   refine cSeq (cSR ?_)
   refine sAs (v := nv 0) rfl ?_
   refine sN ?_
   refine cBlock ?_
   refine wpC_loop (fun k' ρ m' => ∃ i, k' = l.length - i ∧ i ≤ l.length ∧ (∀ (j : Nat) x, j < i → l[j]? = some x → 0 ≤ x ∧ x < n) ∧ M = m' ∧ Has ρ [(1, .int .i64 n), (2, .int .i64 b), (3, .pointer (some ⟨m.size, 0, none⟩)), (7, nv i)]) ⟨0, rfl, Nat.zero_le _, fun j x h => absurd h (by omega), rfl, rfl, rfl, rfl, rfl, trivial⟩ ?_
   rintro k' ρ _ ⟨i, rfl, hi, hr, rfl, hh⟩
   rw [hh.env]; clear hh
   refine cSeq (cSR ?_)
   refine sMv (v := nv _) rfl ?_
   refine sFA F49_1 rfl ?_
   refine sLd (v := .slice qw l.length cw) A22 rfl g2 rfl ?_
   refine sLen T22 rfl ?_
   refine sBin rfl rfl (aInt_lss) ?_
   refine sN ?_
   refine cCond rfl (fun c2 => ?_) (fun c2 => ?_)
   ·
    obtain ⟨b1, o1, p1, r1, cc, ee, gw, xw⟩ := hwM.at (by omega)
    cases ee
    obtain ⟨y, hy⟩ : ∃ y, l[i]? = some y := ⟨_, List.getElem?_eq_getElem c2⟩
    refine cSkip (kSeqN ?_)
    refine cSeq (cBlock (cSR ?_))
    refine sFA F49_1 rfl ?_
    refine sLd (v := .slice (some ⟨b1, o1, some 1⟩) l.length cw) A22 rfl g2 rfl ?_
    refine sMv (v := nv _) rfl ?_
    refine sIx T22 S3 rfl rfl (by omega) ?_
    refine sLd (v := .int .i64 y) A3 rfl gw (xw i y hy) ?_
    refine sMv (v := .int _ _) rfl ?_
    refine sBinI (v := .int .i64 (n - 1)) (b := 1) rfl rfl (aInt_subI (by omega)) ?_
    obtain ⟨v34, m34, h34, rfl, rfl⟩ := spec_offI (m := M) (x := y) (lo := 0) (hi := n - 1)
    refine sCall3 rfl call133 rfl rfl rfl h34 ?_
    refine sN ?_
    refine cCond (p := y < 0 ∨ n - 1 < y) rfl (fun c3 => ?_) (fun c3 => ?_)
    ·
     refine cSR ?_
     refine sAs (v := nv 1) rfl ?_
     refine sN ?_
     refine cRet (kBlkR (kSeqR (kSeqR (kBlkR (kSeqR ?_)))))
     exact ⟨.inr rfl, _, rfl, by rw [gE3 c0 c1 (fun h => by have := h y (List.mem_of_getElem? hy); omega)]; rfl, ex⟩
    ·
     refine cSkip (kBlkN (kSeqN ?_))
     refine cRegion ?_
     refine sMv (v := nv _) rfl ?_
     refine sBin rfl rfl (aInt_add (b := 1) (by omega)) ?_
     refine sAs (v := nv _) rfl ?_
     refine sN ?_
     refine ⟨_, ?_, i + 1, rfl, by omega, fun j x hj hx => ?_, rfl, rfl, rfl, rfl, rfl, trivial⟩
     ·omega
     ·by_cases e : j = i
      ·subst e
       rw [hy] at hx; cases hx; omega
      ·exact hr j x (by omega) hx
   ·
    have h3 : ∀ w ∈ l, 0 ≤ w ∧ w < n := fun w hw' => by
     obtain ⟨j, hj⟩ := List.mem_iff_getElem?.1 hw'
     exact hr j w (by have := (List.getElem?_eq_some_iff.1 hj).1; omega) hj
    obtain ⟨w, rfl⟩ : ∃ w : List Nat, l = ofs w := ⟨l.map Int.toNat, (ofs_toNat fun y hy => (h3 y hy).1).symm⟩
    have hl14' : w.length ≤ 3 := by rw [ofs_length] at hl14; exact hl14
    rw [ofs_length] at hwM hk g2
    refine cExit (kSeqE (kSeqE (kBlkS (kSeqN ?_))))
    refine cSeq (cSR ?_)
    refine sAs (v := nv 0) rfl ?_
    refine sN ?_
    refine cBlock ?_
    refine wpC_loop (fun k' ρ m' => ∃ i, k' = w.length - i ∧ i ≤ w.length ∧ (∀ (j : Nat) x, j < i → w[j]? = some x → x ∉ w.take j) ∧ M = m' ∧ Has ρ [(1, .int .i64 n), (2, .int .i64 b), (3, .pointer (some ⟨m.size, 0, none⟩)), (8, nv i)]) ⟨0, rfl, Nat.zero_le _, fun j x h => absurd h (by omega), rfl, rfl, rfl, rfl, rfl, trivial⟩ ?_
    rintro k' ρ _ ⟨i, rfl, hi, hr2, rfl, hh⟩
    rw [hh.env]; clear hh
    refine cSeq (cSR ?_)
    refine sMv (v := nv _) rfl ?_
    refine sFA F49_1 rfl ?_
    refine sLd (v := .slice qw w.length cw) A22 rfl g2 rfl ?_
    refine sLen T22 rfl ?_
    refine sBin rfl rfl (aInt_lss) ?_
    refine sN ?_
    refine cCond rfl (fun c4 => ?_) (fun c4 => ?_)
    ·
     obtain ⟨v45, h45, o45, q45, c45, rfl⟩ := cut_ints hwM hk (show i ≤ w.length by omega)
     obtain ⟨b1, o1, p1, r1, cc, ee, gw, xw⟩ := hwM.atN (by omega)
     cases ee
     refine cSkip (kSeqN ?_)
     refine cSeq (cBlock (cSeq ?_))
     refine cDraw rfl ?_
     refine sFA F49_1 rfl ?_
     refine sLd (v := .slice (some ⟨b1, o1, some 1⟩) w.length cw) A22 rfl g2 rfl ?_
     refine sMv (v := nv _) rfl ?_
     refine sO (v := .slice q45 (w.take i).length c45) (m' := M) (opF_read rfl h45) ?_
     refine sFA F49_1 rfl ?_
     refine sLd (v := .slice (some ⟨b1, o1, some 1⟩) w.length cw) A22 rfl g2 rfl ?_
     refine sMv (v := nv _) rfl ?_
     refine sIx T22 S3 rfl rfl (by omega) ?_
     refine sLd (v := nv w[i]) A3 rfl gw (xw i w[i] (by simp)) ?_
     obtain ⟨v51, m51, h51, rfl, rfl⟩ := spec_rHas (x := w[i]) o45 (by rw [List.length_take]; omega)
     refine sCall2 rfl call151 rfl rfl h51 ?_
     refine sN ?_
     refine cCond (p := w[i] ∈ w.take i) rfl (fun c5 => ?_) (fun c5 => ?_)
     ·
      refine cSR ?_
      refine sAs (v := nv 5) rfl ?_
      refine sN ?_
      refine cRet (kBlkR (kSeqR (kSeqR (kBlkR (kSeqR ?_)))))
      refine ⟨.inr rfl, _, rfl, ?_, ex⟩
      rw [gE4 c0 c1 h3 (fun hn => nodup_take_not (ofs_nodup.1 hn) c4 c5)]; rfl
     ·
      refine cSkip (kBlkN (kSeqN ?_))
      refine cRegion ?_
      refine sMv (v := nv _) rfl ?_
      refine sBin rfl rfl (aInt_add (b := 1) (by omega)) ?_
      refine sAs (v := nv _) rfl ?_
      refine sN ?_
      refine ⟨_, ?_, i + 1, rfl, by omega, fun j x hj hx => ?_, rfl, rfl, rfl, rfl, rfl, trivial⟩
      ·omega
      ·by_cases e : j = i
       ·subst e
        rw [List.getElem?_eq_getElem c4] at hx
        cases hx; exact c5
       ·exact hr2 j x (by omega) hx
    ·
     have h4 : (ofs w).Nodup := ofs_nodup.2 (nodup_of_take fun j x hx => hr2 j x (by have := (List.getElem?_eq_some_iff.1 hx).1; omega) hx)
     refine cExit (kSeqE (kSeqE (kBlkS (kSeqN ?_))))
     refine cSeq ?_
     refine cCut (fun ρ m' => M = m' ∧ Has ρ [(3, .pointer (some ⟨m.size, 0, none⟩)), (67, .bool (decide (cf < 0 ∨ b < cf ∨ (k = 13 ∧ (bt < 0 ∨ b ≤ bt)))))]) ?_ ?_
     ·
      refine cRegion ?_
      refine sFA F49_3 rfl ?_
      refine sLd (v := .int .i64 cf) A3 rfl g2 rfl ?_
      refine sMv (v := .int _ _) rfl ?_
      obtain ⟨v55, m55, h55, rfl, rfl⟩ := spec_offI (m := M) (x := cf) (lo := 0) (hi := b)
      refine sCall3 rfl call133 rfl rfl rfl h55 ?_
      refine sMv (v := .bool (decide (cf < 0 ∨ b < cf))) rfl ?_
      by_cases q1 : cf < 0 ∨ b < cf
      ·
       rw [decide_eq_true q1]
       refine sGT rfl rfl ?_
       refine sGT rfl rfl ?_
       refine sGT rfl rfl ?_
       refine sGT rfl rfl ?_
       refine sGnoU rfl rfl ?_
       refine sGnoU rfl rfl ?_
       refine sGnoU rfl rfl ?_
       refine sGnoU rfl rfl ?_
       refine sGnoU rfl rfl ?_
       refine sGT rfl rfl ?_
       refine sP (v := .bool _) rfl ?_
       refine sN ?_
       exact ⟨rfl, rfl, by rw [decide_eq_true (p := cf < 0 ∨ b < cf ∨ (k = 13 ∧ (bt < 0 ∨ b ≤ bt))) (by omega)]; rfl, trivial⟩
      ·
       rw [decide_eq_false q1]
       refine sG rfl rfl ?_
       refine sFA F49_0 rfl ?_
       refine sG rfl rfl ?_
       refine sLd (v := .int .i64 k) A3 rfl g2 rfl ?_
       refine sG rfl rfl ?_
       refine sBinI (v := .bool (decide (k = 13))) (b := 13) rfl rfl aInt_eqlI ?_
       refine sG rfl rfl ?_
       refine sMv (v := .bool _) rfl ?_
       by_cases q2 : k = 13
       ·
        rw [decide_eq_true q2]
        refine sG rfl rfl ?_
        refine sFA F49_2 rfl ?_
        refine sG rfl rfl ?_
        refine sLd (v := .int .i64 bt) A3 rfl g2 rfl ?_
        refine sG rfl rfl ?_
        refine sMv (v := .int _ _) rfl ?_
        refine sG rfl rfl ?_
        refine sBinI (v := .int .i64 (b - 1)) (b := 1) rfl rfl (aInt_subI (by omega)) ?_
        refine sG rfl rfl ?_
        obtain ⟨v65, m65, h65, rfl, rfl⟩ := spec_offI (m := M) (x := bt) (lo := 0) (hi := b - 1)
        refine sCall3 rfl call133 rfl rfl rfl h65 ?_
        refine sG rfl rfl ?_
        refine sP (v := .bool _) rfl ?_
        refine sP (v := .bool _) rfl ?_
        refine sN ?_
        exact ⟨rfl, rfl, by rw [show decide (cf < 0 ∨ b < cf ∨ (k = 13 ∧ (bt < 0 ∨ b ≤ bt))) = decide (bt < 0 ∨ b - 1 < bt) from decide_eq_decide.2 ⟨fun h => by omega, fun h => by omega⟩]; rfl, trivial⟩
       ·
        rw [decide_eq_false q2]
        refine sGF rfl rfl ?_
        refine sGF rfl rfl ?_
        refine sGF rfl rfl ?_
        refine sGF rfl rfl ?_
        refine sGF rfl rfl ?_
        refine sG rfl rfl ?_
        refine sP (v := .bool _) rfl ?_
        refine sP (v := .bool _) rfl ?_
        refine sN ?_
        exact ⟨rfl, rfl, by rw [decide_eq_false (p := cf < 0 ∨ b < cf ∨ (k = 13 ∧ (bt < 0 ∨ b ≤ bt))) (by omega)]; rfl, trivial⟩
     rintro ρ _ ⟨rfl, hh⟩
     rw [hh.env]; clear hh
     refine cCond (p := cf < 0 ∨ b < cf ∨ (k = 13 ∧ (bt < 0 ∨ b ≤ bt))) rfl (fun h5 => ?_) (fun h5 => ?_)
     ·
      refine cSR ?_
      refine sAs (v := nv 1) rfl ?_
      refine sN ?_
      refine cRet (kSeqR ?_)
      exact ⟨.inr rfl, _, rfl, by rw [gE5 c0 c1 h3 h4 h5]; rfl, ex⟩
     ·
      have hk14 : k ≤ 14 := arI_14 c0
      refine cSkip (kSeqN ?_)
      refine cSeq ?_
      refine cCut (fun ρ m' => M = m' ∧ Has ρ [(85, .bool (decide (((k = 13 ∨ k = 14) ∧ cf ≠ 0) ∨ (k ≠ 13 ∧ bt ≠ 0))))]) ?_ ?_
      ·
       refine cRegion ?_
       refine sFA F49_0 rfl ?_
       refine sLd (v := .int .i64 k) A3 rfl g2 rfl ?_
       refine sBinI (v := .bool (decide (13 ≤ k))) (b := 13) rfl rfl aInt_geqI ?_
       refine sMv (v := .bool _) rfl ?_
       by_cases q1 : 13 ≤ k
       ·
        rw [decide_eq_true q1]
        refine sG rfl rfl ?_
        refine sFA F49_3 rfl ?_
        refine sG rfl rfl ?_
        refine sLd (v := .int .i64 cf) A3 rfl g2 rfl ?_
        refine sG rfl rfl ?_
        refine sBinI (v := .bool (decide (cf ≠ 0))) (b := 0) rfl rfl aInt_neqI ?_
        refine sP (v := .bool _) rfl ?_
        refine sMv (v := .bool _) rfl ?_
        by_cases q2 : cf ≠ 0
        ·
         rw [decide_eq_true q2]
         refine sGT rfl rfl ?_
         refine sGT rfl rfl ?_
         refine sGT rfl rfl ?_
         refine sGT rfl rfl ?_
         refine sGnoU rfl rfl ?_
         refine sGnoU rfl rfl ?_
         refine sGnoU rfl rfl ?_
         refine sGT rfl rfl ?_
         refine sP (v := .bool _) rfl ?_
         refine sN ?_
         exact ⟨rfl, by rw [decide_eq_true (p := ((k = 13 ∨ k = 14) ∧ cf ≠ 0) ∨ (k ≠ 13 ∧ bt ≠ 0)) (by omega)]; rfl, trivial⟩
        ·
         rw [decide_eq_false q2]
         refine sG rfl rfl ?_
         refine sFA F49_0 rfl ?_
         refine sG rfl rfl ?_
         refine sLd (v := .int .i64 k) A3 rfl g2 rfl ?_
         refine sG rfl rfl ?_
         refine sBinI (v := .bool (decide (k ≠ 13))) (b := 13) rfl rfl aInt_neqI ?_
         refine sG rfl rfl ?_
         refine sMv (v := .bool _) rfl ?_
         by_cases q3 : k ≠ 13
         ·
          rw [decide_eq_true q3]
          refine sG rfl rfl ?_
          refine sFA F49_2 rfl ?_
          refine sG rfl rfl ?_
          refine sLd (v := .int .i64 bt) A3 rfl g2 rfl ?_
          refine sG rfl rfl ?_
          refine sBinI (v := .bool (decide (bt ≠ 0))) (b := 0) rfl rfl aInt_neqI ?_
          refine sG rfl rfl ?_
          refine sP (v := .bool _) rfl ?_
          refine sP (v := .bool _) rfl ?_
          refine sN ?_
          exact ⟨rfl, by rw [show decide (((k = 13 ∨ k = 14) ∧ cf ≠ 0) ∨ (k ≠ 13 ∧ bt ≠ 0)) = decide (bt ≠ 0) from decide_eq_decide.2 ⟨fun h => by omega, fun h => by omega⟩]; rfl, trivial⟩
         ·
          rw [decide_eq_false q3]
          refine sGF rfl rfl ?_
          refine sGF rfl rfl ?_
          refine sGF rfl rfl ?_
          refine sG rfl rfl ?_
          refine sP (v := .bool _) rfl ?_
          refine sP (v := .bool _) rfl ?_
          refine sN ?_
          exact ⟨rfl, by rw [decide_eq_false (p := ((k = 13 ∨ k = 14) ∧ cf ≠ 0) ∨ (k ≠ 13 ∧ bt ≠ 0)) (by omega)]; rfl, trivial⟩
       ·
        rw [decide_eq_false q1]
        refine sGF rfl rfl ?_
        refine sGF rfl rfl ?_
        refine sGF rfl rfl ?_
        refine sP (v := .bool _) rfl ?_
        refine sMv (v := .bool _) rfl ?_
        refine sG rfl rfl ?_
        refine sFA F49_0 rfl ?_
        refine sG rfl rfl ?_
        refine sLd (v := .int .i64 k) A3 rfl g2 rfl ?_
        refine sG rfl rfl ?_
        refine sBinI (v := .bool (decide (k ≠ 13))) (b := 13) rfl rfl aInt_neqI ?_
        refine sG rfl rfl ?_
        refine sMv (v := .bool _) rfl ?_
        by_cases q3 : k ≠ 13
        ·
         rw [decide_eq_true q3]
         refine sG rfl rfl ?_
         refine sFA F49_2 rfl ?_
         refine sG rfl rfl ?_
         refine sLd (v := .int .i64 bt) A3 rfl g2 rfl ?_
         refine sG rfl rfl ?_
         refine sBinI (v := .bool (decide (bt ≠ 0))) (b := 0) rfl rfl aInt_neqI ?_
         refine sG rfl rfl ?_
         refine sP (v := .bool _) rfl ?_
         refine sP (v := .bool _) rfl ?_
         refine sN ?_
         exact ⟨rfl, by rw [show decide (((k = 13 ∨ k = 14) ∧ cf ≠ 0) ∨ (k ≠ 13 ∧ bt ≠ 0)) = decide (bt ≠ 0) from decide_eq_decide.2 ⟨fun h => by omega, fun h => by omega⟩]; rfl, trivial⟩
        ·
         rw [decide_eq_false q3]
         refine sGF rfl rfl ?_
         refine sGF rfl rfl ?_
         refine sGF rfl rfl ?_
         refine sG rfl rfl ?_
         refine sP (v := .bool _) rfl ?_
         refine sP (v := .bool _) rfl ?_
         refine sN ?_
         exact ⟨rfl, by rw [decide_eq_false (p := ((k = 13 ∨ k = 14) ∧ cf ≠ 0) ∨ (k ≠ 13 ∧ bt ≠ 0)) (by omega)]; rfl, trivial⟩
      rintro ρ _ ⟨rfl, hh⟩
      rw [hh.env]; clear hh
      refine cCond (p := ((k = 13 ∨ k = 14) ∧ cf ≠ 0) ∨ (k ≠ 13 ∧ bt ≠ 0)) rfl (fun h6 => ?_) (fun h6 => ?_)
      ·
       refine cSR ?_
       refine sAs (v := nv 7) rfl ?_
       refine sN ?_
       refine cRet (kSeqR ?_)
       exact ⟨.inr rfl, _, rfl, by rw [gE6 c0 c1 h3 h4 h5 h6]; rfl, ex⟩
      ·
       refine cSkip (kSeqN ?_)
       refine cSR ?_
       refine sAs (v := nv 0) rfl ?_
       refine sN ?_
       refine cRet ?_
       exact ⟨.inr rfl, _, rfl, by rw [gE7 c0 c1 h3 h4 h5 h6]; rfl, ex⟩
theorem okf92k : okF Tryd.prog H0 92 37 = true := by kernel_rfl
theorem spec_rCheck4I {m : Mem} {n b : Int} {s : Value} {Gs : List GateV} (hG : GsAt m s Gs) : ∃ v m', ACalls Tryd.prog 92 #[.agg #[.int .i64 n, .int .i64 b, s]] m v m' ∧ (v = nv (circE n b Gs) ∧ Ext m m') := by
 obtain ⟨q, cap, rfl⟩ := hG.len
 refine wpF (args := [_]) mixed okf92k (fn := Tryd.f92) rfl rfl rfl (by simp) ?_
 refine cSR ?_
 refine sBox (v := .agg _) rfl ?_
 change wpOps _ _ _ _ _ (m.push (.cells true #[.int .i64 n, .int .i64 b, .slice q Gs.length cap]))
 have e1 : Ext m (m.push (.cells true #[.int .i64 n, .int .i64 b, .slice q Gs.length cap])) := .push _ _
 have g1 : Mem.get (m.push (.cells true #[.int .i64 n, .int .i64 b, .slice q Gs.length cap])) m.size = .cells true #[.int .i64 n, .int .i64 b, .slice q Gs.length cap] := gP rfl
 generalize m.push (.cells true #[.int .i64 n, .int .i64 b, .slice q Gs.length cap]) = M at *
 refine sAs (v := nv 0) rfl ?_
 refine sN ?_
 refine cSeq ?_
 refine cCut (fun ρ m' => M = m' ∧ Has ρ [(1, .pointer (some ⟨m.size, 0, none⟩)), (12, .bool (decide (n < 1 ∨ 12 < n ∨ b < 0 ∨ 8 < b)))]) ?_ ?_
 ·
  refine cRegion ?_
  refine sFA F30_0 rfl ?_
  refine sLd (v := .int .i64 n) A3 rfl g1 rfl ?_
  obtain ⟨v7, m7, h7, rfl, rfl⟩ := spec_offI (m := M) (x := n) (lo := 1) (hi := 12)
  refine sCall3 rfl call133 rfl rfl rfl h7 ?_
  refine sMv (v := .bool (decide (n < 1 ∨ 12 < n))) rfl ?_
  by_cases q1 : n < 1 ∨ 12 < n
  ·
   rw [decide_eq_true q1]
   refine sGT rfl rfl ?_
   refine sGT rfl rfl ?_
   refine sGT rfl rfl ?_
   refine sP (v := .bool _) rfl ?_
   refine sN ?_
   exact ⟨rfl, rfl, by rw [decide_eq_true (p := n < 1 ∨ 12 < n ∨ b < 0 ∨ 8 < b) (by omega)]; rfl, trivial⟩
  ·
   rw [decide_eq_false q1]
   refine sG rfl rfl ?_
   refine sFA F30_1 rfl ?_
   refine sG rfl rfl ?_
   refine sLd (v := .int .i64 b) A3 rfl g1 rfl ?_
   refine sG rfl rfl ?_
   obtain ⟨v11, m11, h11, rfl, rfl⟩ := spec_offI (m := M) (x := b) (lo := 0) (hi := 8)
   refine sCall3 rfl call133 rfl rfl rfl h11 ?_
   refine sP (v := .bool _) rfl ?_
   refine sN ?_
   exact ⟨rfl, rfl, by rw [show decide (n < 1 ∨ 12 < n ∨ b < 0 ∨ 8 < b) = decide (b < 0 ∨ 8 < b) from decide_eq_decide.2 ⟨fun h => by omega, fun h => by omega⟩]; rfl, trivial⟩
 rintro ρ _ ⟨rfl, hh⟩
 rw [hh.env]; clear hh
 refine cCond (p := n < 1 ∨ 12 < n ∨ b < 0 ∨ 8 < b) rfl (fun c0 => ?_) (fun c0 => ?_)
 ·
  refine cSR ?_
  refine sAs (v := nv 3) rfl ?_
  refine sN ?_
  refine cRet (kSeqR ?_)
  exact ⟨.inr rfl, _, rfl, by rw [circE, if_pos c0]; rfl, e1⟩
 ·
  refine cSkip (kSeqN ?_)
  refine cSeq (cSR ?_)
  refine sFA F30_2 rfl ?_
  refine sLd (v := .slice q Gs.length cap) A28 rfl g1 rfl ?_
  refine sLen T28 rfl ?_
  refine sBin (a := Gs.length) (b := 120) rfl rfl aInt_gtr ?_
  refine sN ?_
  refine cCond (p := 120 < Gs.length) rfl (fun c1 => ?_) (fun c1 => ?_)
  ·
   refine cSR ?_
   refine sAs (v := nv 2) rfl ?_
   refine sN ?_
   refine cRet (kSeqR ?_)
   exact ⟨.inr rfl, _, rfl, by rw [circE, if_neg c0, if_pos c1]; rfl, e1⟩
  ·
   refine cSkip (kSeqN ?_)
   refine cSeq (cSR ?_)
   refine sAs (v := nv 0) rfl ?_
   refine sN ?_
   refine cBlock ?_
   refine wpC_loop (fun k ρ m' => ∃ i, k = Gs.length - i ∧ i ≤ Gs.length ∧ (∀ (j : Nat) g', j < i → Gs[j]? = some g' → gateE n b g' = 0) ∧ Ext M m' ∧ Has ρ [(1, .pointer (some ⟨m.size, 0, none⟩)), (3, nv i)]) ⟨0, rfl, Nat.zero_le _, fun j g h => absurd h (by omega), .refl _, rfl, rfl, trivial⟩ ?_
   rintro k ρ m' ⟨i, rfl, hi, hr, hE, hh⟩
   rw [hh.env]; clear hh
   have g1' := hE.cells g1
   refine cSeq (cSR ?_)
   refine sMv (v := nv _) rfl ?_
   refine sFA F30_2 rfl ?_
   refine sLd (v := .slice q Gs.length cap) A28 rfl g1' rfl ?_
   refine sLen T28 rfl ?_
   refine sBin rfl rfl (aInt_lss) ?_
   refine sN ?_
   refine cCond rfl (fun c2 => ?_) (fun c2 => ?_)
   ·
    obtain ⟨g, hgi⟩ : ∃ g, Gs[i]? = some g := ⟨_, List.getElem?_eq_getElem c2⟩
    obtain ⟨b2, cp2, r2, cc, qw, cw, ee, gb, hcs, hex, hws, hk⟩ := (hG.ext (e1.trans hE)).gate hgi
    cases ee
    refine cSkip (kSeqN ?_)
    refine cSeq (cBlock (cSeq ?_))
    refine cDraw rfl ?_
    refine sFA F30_2 rfl ?_
    refine sLd (v := .slice (some ⟨b2, 0, some 4⟩) Gs.length cap) A28 rfl g1' rfl ?_
    refine sMv (v := nv _) rfl ?_
    refine sIx T28 S49 rfl rfl c2 ?_
    refine sLdA A49 S49 rfl gb (by omega) ?_
    rw [hex]
    refine sFA F30_0 rfl ?_
    refine sLd (v := .int .i64 n) A3 rfl g1' rfl ?_
    refine sFA F30_1 rfl ?_
    refine sLd (v := .int .i64 b) A3 rfl g1' rfl ?_
    obtain ⟨v33, m33, h33, rfl, e33⟩ := spec_rCheckGateI (n := n) (b := b) hws hk (by omega) (by omega) (by omega) (by omega)
    refine sCall3 rfl call134 rfl rfl rfl h33 ?_
    refine sAs (v := nv _) rfl ?_
    refine sN ?_
    refine cSR ?_
    refine sMv (v := nv _) rfl ?_
    refine sBin (a := gateE n b g) (b := 0) rfl rfl aInt_neq ?_
    refine sN ?_
    refine cCond (p := gateE n b g ≠ 0) rfl (fun c3 => ?_) (fun c3 => ?_)
    ·
     refine cSR ?_
     refine sMv (v := nv _) rfl ?_
     refine sAs (v := nv _) rfl ?_
     refine sN ?_
     refine cRet (kBlkR (kSeqR (kSeqR (kBlkR (kSeqR ?_)))))
     refine ⟨.inr rfl, _, rfl, ?_, (e1.trans hE).trans e33⟩
     rw [circE, if_neg c0, if_neg c1, gatesE_up hr hgi c3]; rfl
    ·
     refine cSkip (kBlkN (kSeqN ?_))
     refine cRegion ?_
     refine sMv (v := nv _) rfl ?_
     refine sBin rfl rfl (aInt_add (b := 1) (by omega)) ?_
     refine sAs (v := nv _) rfl ?_
     refine sN ?_
     refine ⟨_, ?_, i + 1, rfl, by omega, fun j g' hj hg => ?_, hE.trans e33, rfl, rfl, trivial⟩
     ·omega
     ·by_cases e : j = i
      ·subst e
       rw [hgi] at hg; cases hg
       exact Classical.byContradiction c3
      ·exact hr j g' (by omega) hg
   ·
    refine cExit (kSeqE (kSeqE (kBlkS (kSeqN ?_))))
    refine cSR ?_
    refine sAs (v := nv 0) rfl ?_
    refine sN ?_
    refine cRet ?_
    refine ⟨.inr rfl, _, rfl, ?_, e1.trans hE⟩
    rw [circE, if_neg c0, if_neg c1, gatesE_all.2 fun g hg => ?_]; rfl
    obtain ⟨j, hj⟩ := List.mem_iff_getElem?.1 hg
    exact hr j g (by have := (List.getElem?_eq_some_iff.1 hj).1; omega) hj
theorem okf31k : okF Tryd.prog H0 31 42 = true := by kernel_rfl
theorem spec_rCheck8I {m : Mem} {n b : Int} {s : Value} {Gs : List GateV} (hG : GsAt m s Gs) : ∃ v m', ACalls Tryd.prog 31 #[.agg #[.int .i64 n, .int .i64 b, s]] m v m' ∧ (v = nv (circ8E n b Gs) ∧ Ext m m') := by
 obtain ⟨q, cap, rfl⟩ := hG.len
 refine wpF (args := [_]) mixed okf31k (fn := Tryd.f31) rfl rfl rfl (by simp) ?_
 refine cSR ?_
 refine sBox (v := .agg _) rfl ?_
 change wpOps _ _ _ _ _ (m.push (.cells true #[.int .i64 n, .int .i64 b, .slice q Gs.length cap]))
 have e1 : Ext m (m.push (.cells true #[.int .i64 n, .int .i64 b, .slice q Gs.length cap])) := .push _ _
 have g1 : Mem.get (m.push (.cells true #[.int .i64 n, .int .i64 b, .slice q Gs.length cap])) m.size = .cells true #[.int .i64 n, .int .i64 b, .slice q Gs.length cap] := gP rfl
 generalize m.push (.cells true #[.int .i64 n, .int .i64 b, .slice q Gs.length cap]) = M at *
 refine sAs (v := nv 0) rfl ?_
 refine sN ?_
 refine cSeq (cSR ?_)
 refine sLdAll A30 S30 rfl g1 rfl ?_
 obtain ⟨v7, m7, h7, rfl, e7⟩ := spec_rCheck4I (n := n) (b := b) (hG.ext e1)
 refine sCall1 rfl call92 rfl h7 ?_
 have g7 := e7.cells g1
 refine sAs (v := nv _) rfl ?_
 refine sN ?_
 refine cSR ?_
 refine sMv (v := nv _) rfl ?_
 refine sBin (a := circE n b Gs) (b := 0) rfl rfl aInt_neq ?_
 refine sN ?_
 refine cCond (p := circE n b Gs ≠ 0) rfl (fun c0 => ?_) (fun c0 => ?_)
 ·
  refine cSR ?_
  refine sMv (v := nv _) rfl ?_
  refine sAs (v := nv _) rfl ?_
  refine sN ?_
  refine cRet (kSeqR ?_)
  exact ⟨.inr rfl, _, rfl, by rw [circ8E, if_pos c0]; rfl, e1.trans e7⟩
 ·
  refine cSkip (kSeqN ?_)
  refine cSeq (cSR ?_)
  refine sFA F30_2 rfl ?_
  refine sLd (v := .slice q Gs.length cap) A28 rfl g7 rfl ?_
  refine sLen T28 rfl ?_
  refine sMv (v := nv 0) rfl ?_
  refine sN ?_
  refine cBlock ?_
  refine wpC_loop (fun k ρ m' => ∃ i, k = Gs.length - i ∧ i ≤ Gs.length ∧ (∀ (j : Nat) g', j < i → Gs[j]? = some g' → clI g' = true) ∧ Ext M m' ∧ Has ρ [(12, .slice q Gs.length cap), (13, nv Gs.length), (14, nv i)]) ⟨0, rfl, Nat.zero_le _, fun j g h => absurd h (by omega), e7, rfl, rfl, rfl, trivial⟩ ?_
  rintro k ρ m' ⟨i, rfl, hi, hr, hE, hh⟩
  rw [hh.env]; clear hh
  have hl63 : Gs.length < 1000000 := by
   have h0 : circE n b Gs = 0 := Classical.byContradiction c0
   unfold circE at h0
   split at h0
   ·cases h0
   split at h0
   ·cases h0
   omega
  refine cSR ?_
  refine sBin rfl rfl (aInt_lss) ?_
  refine sN ?_
  refine cSeq ?_
  refine cCond rfl (fun c1 => ?_) (fun c1 => ?_)
  ·
   obtain ⟨g, hgi⟩ : ∃ g, Gs[i]? = some g := ⟨_, List.getElem?_eq_getElem c1⟩
   obtain ⟨b2, cp2, r2, cc, qw, cw, ee, gb, hcs, hex, hws, hk⟩ := (hG.ext (e1.trans hE)).gate hgi
   cases ee
   refine cSkip (kSeqN ?_)
   refine cSeq (cBlock (cSR ?_))
   refine sIx T28 S49 rfl rfl c1 ?_
   refine sLdA A49 S49 rfl gb (by omega) ?_
   rw [hex]
   refine sAllocB (bl := m'.size) rfl Z49 (by kernel_rfl) ?_
   refine sStNAB rfl S49 rfl rfl rfl rfl (by kernel_rfl) ?_
   have eg : Ext m' (m'.push (.cells true #[.int .i64 g.1, .slice qw g.2.1.length cw, .int .i64 g.2.2.1, .int .i64 g.2.2.2])) := .push _ _
   have gg : Mem.get (m'.push (.cells true #[.int .i64 g.1, .slice qw g.2.1.length cw, .int .i64 g.2.2.1, .int .i64 g.2.2.2])) m'.size = .cells true #[.int .i64 g.1, .slice qw g.2.1.length cw, .int .i64 g.2.2.1, .int .i64 g.2.2.2] := gP rfl
   generalize m'.push (.cells true #[.int .i64 g.1, .slice qw g.2.1.length cw, .int .i64 g.2.2.1, .int .i64 g.2.2.2]) = M6 at *
   have hcl : clI g = true ↔ (g.2.2.2 = 0 ∧ (g.1 = 1 ∨ g.1 = 9 ∨ g.1 = 11 ∨ g.1 = 12)) := by
    simp only [clI, Bool.and_eq_true, Bool.or_eq_true, decide_eq_true_eq]
    constructor
    ·rintro ⟨((h | h) | h) | h, h0⟩ <;> simp [h, h0]
    ·rintro ⟨h0, h | h | h | h⟩ <;> simp [h, h0]
   refine sN ?_
   refine cCut (fun ρ m2 => M6 = m2 ∧ Has ρ [(12, .slice (some ⟨b2, 0, some 4⟩) Gs.length cap), (13, nv Gs.length), (14, nv i), (40, .bool (decide (¬ clI g = true)))]) ?_ ?_
   ·
    refine cRegion ?_
    refine sFA F49_3 rfl ?_
    refine sLd (v := .int .i64 g.2.2.2) A3 rfl gg rfl ?_
    refine sBinI (v := .bool (decide (g.2.2.2 ≠ 0))) (b := 0) rfl rfl aInt_neqI ?_
    refine sMv (v := .bool _) rfl ?_
    by_cases q1 : g.2.2.2 ≠ 0
    ·
     rw [decide_eq_true q1]
     refine sGT rfl rfl ?_
     refine sGT rfl rfl ?_
     refine sGT rfl rfl ?_
     refine sGT rfl rfl ?_
     refine sGnoU rfl rfl ?_
     refine sGnoU rfl rfl ?_
     refine sGnoU rfl rfl ?_
     refine sGT rfl rfl ?_
     refine sGT rfl rfl ?_
     refine sGnoU rfl rfl ?_
     refine sGnoU rfl rfl ?_
     refine sGnoU rfl rfl ?_
     refine sGT rfl rfl ?_
     refine sGT rfl rfl ?_
     refine sGnoU rfl rfl ?_
     refine sGnoU rfl rfl ?_
     refine sGnoU rfl rfl ?_
     refine sGT rfl rfl ?_
     refine sP (v := .bool _) rfl ?_
     refine sN ?_
     exact ⟨rfl, rfl, rfl, rfl, by rw [show decide (¬ clI g = true) = true from decide_eq_true (by rw [hcl]; omega)]; rfl, trivial⟩
    ·
     rw [decide_eq_false q1]
     refine sG rfl rfl ?_
     refine sFA F49_0 rfl ?_
     refine sG rfl rfl ?_
     refine sLd (v := .int .i64 g.1) A3 rfl gg rfl ?_
     refine sG rfl rfl ?_
     refine sBinI (v := .bool (decide (g.1 ≠ 1))) (b := 1) rfl rfl aInt_neqI ?_
     refine sG rfl rfl ?_
     refine sMv (v := .bool _) rfl ?_
     by_cases k1 : g.1 ≠ 1
     ·
      rw [decide_eq_true k1]
      refine sG rfl rfl ?_
      refine sFA F49_0 rfl ?_
      refine sG rfl rfl ?_
      refine sLd (v := .int .i64 g.1) A3 rfl gg rfl ?_
      refine sG rfl rfl ?_
      refine sBinI (v := .bool (decide (g.1 ≠ 9))) (b := 9) rfl rfl aInt_neqI ?_
      refine sG rfl rfl ?_
      refine sP (v := .bool _) rfl ?_
      refine sG rfl rfl ?_
      refine sMv (v := .bool _) rfl ?_
      by_cases k2 : g.1 ≠ 9
      ·
       rw [decide_eq_true k2]
       refine sG rfl rfl ?_
       refine sFA F49_0 rfl ?_
       refine sG rfl rfl ?_
       refine sLd (v := .int .i64 g.1) A3 rfl gg rfl ?_
       refine sG rfl rfl ?_
       refine sBinI (v := .bool (decide (g.1 ≠ 11))) (b := 11) rfl rfl aInt_neqI ?_
       refine sG rfl rfl ?_
       refine sP (v := .bool _) rfl ?_
       refine sG rfl rfl ?_
       refine sMv (v := .bool _) rfl ?_
       by_cases k3 : g.1 ≠ 11
       ·
        rw [decide_eq_true k3]
        refine sG rfl rfl ?_
        refine sFA F49_0 rfl ?_
        refine sG rfl rfl ?_
        refine sLd (v := .int .i64 g.1) A3 rfl gg rfl ?_
        refine sG rfl rfl ?_
        refine sBinI (v := .bool (decide (g.1 ≠ 12))) (b := 12) rfl rfl aInt_neqI ?_
        refine sG rfl rfl ?_
        refine sP (v := .bool _) rfl ?_
        refine sP (v := .bool _) rfl ?_
        refine sN ?_
        exact ⟨rfl, rfl, rfl, rfl, by rw [show decide (¬ clI g = true) = decide (g.1 ≠ 12) from decide_eq_decide.2 (by rw [hcl]; omega)]; rfl, trivial⟩
       ·
        rw [decide_eq_false k3]
        refine sGF rfl rfl ?_
        refine sGF rfl rfl ?_
        refine sGF rfl rfl ?_
        refine sG rfl rfl ?_
        refine sP (v := .bool _) rfl ?_
        refine sP (v := .bool _) rfl ?_
        refine sN ?_
        exact ⟨rfl, rfl, rfl, rfl, by rw [show decide (¬ clI g = true) = false from decide_eq_false (by rw [hcl]; omega)]; rfl, trivial⟩
      ·
       rw [decide_eq_false k2]
       refine sGF rfl rfl ?_
       refine sGF rfl rfl ?_
       refine sGF rfl rfl ?_
       refine sG rfl rfl ?_
       refine sP (v := .bool _) rfl ?_
       refine sG rfl rfl ?_
       refine sMv (v := .bool _) rfl ?_
       refine sGF rfl rfl ?_
       refine sGF rfl rfl ?_
       refine sGF rfl rfl ?_
       refine sG rfl rfl ?_
       refine sP (v := .bool _) rfl ?_
       refine sP (v := .bool _) rfl ?_
       refine sN ?_
       exact ⟨rfl, rfl, rfl, rfl, by rw [show decide (¬ clI g = true) = false from decide_eq_false (by rw [hcl]; omega)]; rfl, trivial⟩
     ·
      rw [decide_eq_false k1]
      refine sGF rfl rfl ?_
      refine sGF rfl rfl ?_
      refine sGF rfl rfl ?_
      refine sG rfl rfl ?_
      refine sP (v := .bool _) rfl ?_
      refine sG rfl rfl ?_
      refine sMv (v := .bool _) rfl ?_
      refine sGF rfl rfl ?_
      refine sGF rfl rfl ?_
      refine sGF rfl rfl ?_
      refine sG rfl rfl ?_
      refine sP (v := .bool _) rfl ?_
      refine sG rfl rfl ?_
      refine sMv (v := .bool _) rfl ?_
      refine sGF rfl rfl ?_
      refine sGF rfl rfl ?_
      refine sGF rfl rfl ?_
      refine sG rfl rfl ?_
      refine sP (v := .bool _) rfl ?_
      refine sP (v := .bool _) rfl ?_
      refine sN ?_
      exact ⟨rfl, rfl, rfl, rfl, by rw [show decide (¬ clI g = true) = false from decide_eq_false (by rw [hcl]; omega)]; rfl, trivial⟩
   rintro ρ _ ⟨rfl, hh⟩
   rw [hh.env]; clear hh
   refine cCond (p := ¬ clI g = true) rfl (fun c2 => ?_) (fun c2 => ?_)
   ·
    refine cSR ?_
    refine sAs (v := nv 7) rfl ?_
    refine sN ?_
    refine cRet (kBlkR (kSeqR (kSeqR (kBlkR (kSeqR ?_)))))
    refine ⟨.inr rfl, _, rfl, ?_, e1.trans (hE.trans eg)⟩
    rw [circ8E, if_neg c0, if_neg (fun h => c2 (List.all_eq_true.1 h g (List.mem_of_getElem? hgi)))]; rfl
   ·
    refine cSkip (kBlkN (kSeqN ?_))
    refine cRegion ?_
    refine sBin rfl rfl (aInt_add (b := 1) (by omega)) ?_
    refine sMv (v := nv _) rfl ?_
    refine sN ?_
    refine ⟨_, ?_, i + 1, rfl, by omega, fun j g' hj hg => ?_, hE.trans eg, rfl, rfl, rfl, trivial⟩
    ·omega
    ·by_cases e : j = i
     ·subst e
      rw [hgi] at hg; cases hg
      exact Classical.byContradiction c2
     ·exact hr j g' (by omega) hg
  ·
   refine cExit (kSeqE (kSeqE (kBlkS (kSeqN ?_))))
   refine cSR ?_
   refine sAs (v := nv 0) rfl ?_
   refine sN ?_
   refine cRet ?_
   refine ⟨.inr rfl, _, rfl, ?_, e1.trans hE⟩
   rw [circ8E, if_neg c0, if_pos (List.all_eq_true.2 fun g hg => ?_)]; rfl
   obtain ⟨j, hj⟩ := List.mem_iff_getElem?.1 hg
   exact hr j g (by have := (List.getElem?_eq_some_iff.1 hj).1; omega) hj
end Go.AM

/-! R65 -/
namespace Go.AM
open Go.Proofs
theorem pow_or_xor {a b : Nat} (h : a ≠ b) : 2 ^ a ||| 2 ^ b = 2 ^ a ^^^ 2 ^ b := by
 apply Nat.eq_of_testBit_eq
 intro i
 rw [Nat.testBit_or, Nat.testBit_xor, Nat.testBit_two_pow, Nat.testBit_two_pow]
 by_cases h1 : a = i
 ·subst h1
  rw [decide_eq_true rfl, decide_eq_false (fun e => h e.symm)]; rfl
 ·rw [decide_eq_false h1]; simp
def H82k : Nat → List (Nat × Nat) := fun id => if id = 9 then [(8, 0)] else []
theorem okf82k : okF Tryd.prog H82k 82 79 = true := by kernel_rfl
theorem spec_DoneK {m : Mem} {kd x : Nat} {ws : Value} {w : List Nat} (hw : IntsAt m ws (ofs w)) (hkc : (w.length = 1 ∧ kd = 1) ∨ (w.length = 2 ∧ kd = 9) ∨ (w.length = 2 ∧ kd = 11) ∨ (w.length = 3 ∧ kd = 12)) (hlt : ∀ y ∈ w, y < 12) (hx : x < 2 ^ 12) : ∃ v m', ACalls Tryd.prog 82 #[.agg #[nv kd, ws, nv 0, nv 0], nv x] m v m' ∧ (v = nv (doneS (kd, w) x) ∧ Ext m m') := by
 obtain ⟨b1, o1, p1, r1, cc, rfl, g0, x0⟩ := hw.atN (by omega)
 have hp2 : ∀ y ∈ w, 2 ^ y < 2 ^ 12 := fun y hy => Nat.pow_lt_pow_right (by decide) (hlt y hy)
 refine wpF (args := [_, _]) mixed okf82k (fn := Tryd.f82) rfl rfl rfl (by simp) ?_
 refine cSR ?_
 refine sBox (v := .agg _) rfl ?_
 change wpOps _ _ _ _ _ (m.push (.cells true #[nv kd, .slice (some ⟨b1, o1, some 1⟩) w.length p1, nv 0, nv 0]))
 have e1 : Ext m (m.push (.cells true #[nv kd, .slice (some ⟨b1, o1, some 1⟩) w.length p1, nv 0, nv 0])) := .push _ _
 have g1 : Mem.get (m.push (.cells true #[nv kd, .slice (some ⟨b1, o1, some 1⟩) w.length p1, nv 0, nv 0])) m.size = .cells true #[nv kd, .slice (some ⟨b1, o1, some 1⟩) w.length p1, nv 0, nv 0] := gP rfl
 generalize m.push (.cells true #[nv kd, .slice (some ⟨b1, o1, some 1⟩) w.length p1, nv 0, nv 0]) = M at *
 refine sAs (v := nv 0) rfl ?_
 refine sN ?_
 refine cSR ?_
 refine sFA F49_1 rfl ?_
 refine sLd (v := .slice _ _ _) A22 rfl g1 rfl ?_
 refine sAs (v := .slice _ _ _) rfl ?_
 refine sN ?_
 refine cSeq (cSR ?_)
 refine sFA F49_0 rfl ?_
 refine sLd (v := nv kd) A3 rfl g1 rfl ?_
 refine sN ?_
 refine cBlock (cSR ?_)
 refine sBin (a := kd) (b := 1) rfl rfl aInt_eql ?_
 refine sAs (v := .bool _) rfl ?_
 refine sN ?_
 refine cCond rfl (fun c0 => ?_) (fun c0 => ?_)
 ·
  obtain ⟨a, rfl⟩ : ∃ a, w = [a] := by match w, hkc with | [a], _ => exact ⟨a, rfl⟩ | [], h => simp at h | [_, _], h => simp at h; omega | _ :: _ :: _ :: _, h => simp at h; omega
  have ha := hlt a (by simp)
  have hpa := hp2 a (by simp)
  refine cSR ?_
  refine sMv (v := nv _) rfl ?_
  refine sMv (v := .slice _ _ _) rfl ?_
  refine sIx T22 S3 rfl rfl (show 0 < [a].length by simp) ?_
  refine sLd (v := nv a) A3 rfl (e1.cells g0) (x0 0 a rfl) ?_
  refine sBin rfl rfl (aInt_shl (a := 1) (by omega)) ?_
  rw [Nat.shiftLeft_eq, Nat.one_mul]
  refine sBin (a := x) (b := 2 ^ a) rfl rfl (aInt_xor ⟨by omega, by omega⟩) ?_
  refine sAs (v := nv _) rfl ?_
  refine sN ?_
  refine cRet (kBlkR (kSeqR ?_))
  exact ⟨.inr rfl, _, rfl, by rw [doneS, if_neg (show ¬ kd = 11 by omega)]; rfl, e1⟩
 ·
  refine cSR ?_
  refine sBin (a := kd) (b := 9) rfl rfl aInt_eql ?_
  refine sAs (v := .bool _) rfl ?_
  refine sN ?_
  refine cCond rfl (fun c1 => ?_) (fun c1 => ?_)
  ·
   obtain ⟨a, b, rfl⟩ : ∃ a b, w = [a, b] := by match w, hkc with | [a, b], _ => exact ⟨a, b, rfl⟩ | [], h => simp at h | [_], h => simp at h; omega | _ :: _ :: _ :: _, h => simp at h; omega
   have ha := hlt a (by simp)
   have hb := hlt b (by simp)
   have hpb := hp2 b (by simp)
   refine cSR ?_
   refine sMv (v := nv _) rfl ?_
   refine sMv (v := .slice _ _ _) rfl ?_
   refine sIx T22 S3 rfl rfl (show 0 < [a, b].length by simp) ?_
   refine sLd (v := nv a) A3 rfl (e1.cells g0) (x0 0 a rfl) ?_
   obtain ⟨v24, m24, h24, rfl, rfl⟩ := spec_bit (m := M) (x := x) (k := a) (by omega)
   refine sCall2 rfl call80 rfl rfl h24 ?_
   refine sBin (b := 1) rfl rfl aInt_eql ?_
   refine sN ?_
   refine cCond rfl (fun c2 => ?_) (fun c2 => ?_)
   ·
    refine cSR ?_
    refine sMv (v := nv _) rfl ?_
    refine sMv (v := .slice _ _ _) rfl ?_
    refine sIx T22 S3 rfl rfl (show 1 < [a, b].length by simp) ?_
    refine sLd (v := nv b) A3 rfl (e1.cells g0) (x0 1 b rfl) ?_
    refine sBin (a := 1) (b := b) rfl rfl (aInt_shl (by omega)) ?_
    rw [Nat.shiftLeft_eq, Nat.one_mul (2 ^ b)]
    refine sBin (a := x) (b := 2 ^ b) rfl rfl (aInt_xor ⟨by omega, by omega⟩) ?_
    refine sAs (v := nv _) rfl ?_
    refine sN ?_
    refine cRet (kBlkR (kSeqR ?_))
    have ht := (bit_one x a).1 c2
    exact ⟨.inr rfl, _, rfl, by rw [doneS, if_neg (show ¬ kd = 11 by omega), show turnM x [a, b] = x ^^^ 2 ^ b by simp [turnM, ht]]; rfl, e1⟩
   ·
    refine cSkip (kBlkN (kSeqN ?_))
    refine cSR ?_
    refine sMv (v := nv _) rfl ?_
    refine sAs (v := nv _) rfl ?_
    refine sN ?_
    refine cRet ?_
    have ht : x.testBit a = false := Bool.eq_false_iff.2 (fun h => c2 ((bit_one x a).2 h))
    exact ⟨.inr rfl, _, rfl, by rw [doneS, if_neg (show ¬ kd = 11 by omega), show turnM x [a, b] = x by simp [turnM, ht]]; rfl, e1⟩
  ·
   refine cSR ?_
   refine sBin (a := kd) (b := 11) rfl rfl aInt_eql ?_
   refine sAs (v := .bool _) rfl ?_
   refine sN ?_
   refine cCond rfl (fun c3 => ?_) (fun c3 => ?_)
   ·
    obtain ⟨a, b, rfl⟩ : ∃ a b, w = [a, b] := by match w, hkc with | [a, b], _ => exact ⟨a, b, rfl⟩ | [], h => simp at h | [_], h => simp at h; omega | _ :: _ :: _ :: _, h => simp at h; omega
    have ha := hlt a (by simp)
    have hb := hlt b (by simp)
    have hpa := hp2 a (by simp)
    have hpb := hp2 b (by simp)
    have eX := e1
    clear e1
    refine cSeq ?_
    refine cDrawH (hs := [(8, 0)]) rfl (by decide) ?_
    refine lStepO (sMv (v := nv _) rfl (sNil fun e0 hm0 => ?_))
    refine lStepO (sMv (v := .slice _ _ _) rfl (sNil fun e1 hm1 => ?_))
    refine lStepO (sIx T22 S3 rfl rfl (show 0 < [a, b].length by simp) (sNil fun e2 hm2 => ?_))
    refine lStepLd (v := nv a) A3 rfl (eX.cells g0) (x0 0 a rfl) fun e3 hm3 hv3 hr3 => ?_
    obtain ⟨v38, m38, h38, rfl, rfl⟩ := spec_bit (m := M) (x := x) (k := a) (by omega)
    refine lStepO (sCall2 rfl call80 rfl rfl h38 (sNil fun e4 hm4 => ?_))
    refine lStepO (sMv (v := nv _) rfl (sNil fun e5 hm5 => ?_))
    refine lStepO (sMv (v := .slice _ _ _) rfl (sNil fun e6 hm6 => ?_))
    refine lStepO (sIx T22 S3 rfl rfl (show 1 < [a, b].length by simp) (sNil fun e7 hm7 => ?_))
    refine lStepLd (v := nv b) A3 rfl (eX.cells g0) (x0 1 b rfl) fun e8 hm8 hv8 hr8 => ?_
    obtain ⟨v43, m43, h43, rfl, rfl⟩ := spec_bit (m := M) (x := x) (k := b) (by omega)
    refine lStepO (sCall2 rfl call80 rfl rfl h43 (sNil fun e9 hm9 => ?_))
    refine lStepO (sBin (v := .bool (decide (¬ x.testBit a = x.testBit b))) rfl rfl (by rw [aInt_neq, bit_neq]) (sNil fun e10 hm10 => ?_))
    refine ⟨?_, (kSeqN ?_)⟩
    ·
     refine obl_atE (e := e8) (e' := e0) (by simp) (by rfl) (by simp) ((hr8 e0.m _ _ (by rw [hm0]; exact eX.cells g0) (by exact x0 1 b rfl)).trans (congrArg some hv8.symm)) ?_
     trivial
    refine cCond (p := ¬ x.testBit a = x.testBit b) rfl (fun c4 => ?_) (fun c4 => ?_)
    ·
     refine cSeq ?_
     refine cDraw rfl ?_
     refine sMv (v := nv _) rfl ?_
     refine sMv (v := .slice _ _ _) rfl ?_
     refine sIx T22 S3 rfl rfl (show 0 < [a, b].length by simp) ?_
     refine sLd (v := nv a) A3 rfl (eX.cells g0) (x0 0 a rfl) ?_
     refine sBin (v := nv (2 ^ a)) rfl rfl (by rw [aInt_shl (a := 1) (b := a) (by omega), Nat.shiftLeft_eq, Nat.one_mul]) ?_
     refine sBin (a := x) (b := 2 ^ a) rfl rfl (aInt_xor ⟨by omega, by omega⟩) ?_
     have hxa : x ^^^ 2 ^ a < 2 ^ 12 := Nat.xor_lt_two_pow hx hpa
     refine sMv (v := .slice _ _ _) rfl ?_
     refine sIx T22 S3 rfl rfl (show 1 < [a, b].length by simp) ?_
     refine sLd (v := nv b) A3 rfl (eX.cells g0) (x0 1 b rfl) ?_
     refine sBin (v := nv (2 ^ b)) rfl rfl (by rw [aInt_shl (a := 1) (b := b) (by omega), Nat.shiftLeft_eq, Nat.one_mul]) ?_
     refine sBin (a := x ^^^ 2 ^ a) (b := 2 ^ b) rfl rfl (aInt_xor ⟨by omega, by omega⟩) ?_
     refine sAs (v := nv _) rfl ?_
     refine sN ?_
     refine cRet (kBlkR (kSeqR ?_))
     have hx2 : x ^^^ (2 ^ a ||| 2 ^ b) = x ^^^ 2 ^ a ^^^ 2 ^ b := by rw [Nat.xor_assoc, pow_or_xor (fun e => c4 (by rw [e]))]
     exact ⟨.inr rfl, _, rfl, by rw [doneS, if_pos c3, show swapM x [a, b] = x ^^^ (2 ^ a ||| 2 ^ b) from if_neg c4, hx2]; rfl, eX⟩
    ·
     refine cSkip (kBlkN (kSeqN ?_))
     refine cSR ?_
     refine sMv (v := nv _) rfl ?_
     refine sAs (v := nv _) rfl ?_
     refine sN ?_
     refine cRet ?_
     exact ⟨.inr rfl, _, rfl, by rw [doneS, if_pos c3, show swapM x [a, b] = x from if_pos (Classical.byContradiction c4)]; rfl, eX⟩
   ·
    refine cSR ?_
    refine sBin (a := kd) (b := 12) rfl rfl aInt_eql ?_
    refine sAs (v := .bool _) rfl ?_
    refine sN ?_
    refine cCondT' rfl (by omega) ?_
    refine cSR ?_
    obtain ⟨a, b, c, rfl⟩ : ∃ a b c, w = [a, b, c] := by match w, hkc with | [a, b, c], _ => exact ⟨a, b, c, rfl⟩ | [], h => simp at h | [_], h => simp at h; omega | [_, _], h => simp at h; omega | _ :: _ :: _ :: _ :: _, h => simp at h
    have ha := hlt a (by simp)
    have hb := hlt b (by simp)
    have hc := hlt c (by simp)
    have hpc := hp2 c (by simp)
    refine sMv (v := nv _) rfl ?_
    refine sMv (v := .slice _ _ _) rfl ?_
    refine sIx T22 S3 rfl rfl (show 0 < [a, b, c].length by simp) ?_
    refine sLd (v := nv a) A3 rfl (e1.cells g0) (x0 0 a rfl) ?_
    obtain ⟨v62, m62, h62, rfl, rfl⟩ := spec_bit (m := M) (x := x) (k := a) (by omega)
    refine sCall2 rfl call80 rfl rfl h62 ?_
    refine sBin (b := 1) rfl rfl aInt_eql ?_
    refine sMv (v := .bool _) rfl ?_
    by_cases h1 : x >>> a &&& 1 = 1
    ·
     rw [decide_eq_true h1]
     refine sG rfl rfl ?_
     refine sMv (v := nv _) rfl ?_
     refine sG rfl rfl ?_
     refine sMv (v := .slice _ _ _) rfl ?_
     refine sG rfl rfl ?_
     refine sIx T22 S3 rfl rfl (show 1 < [a, b, c].length by simp) ?_
     refine sG rfl rfl ?_
     refine sLd (v := nv b) A3 rfl (e1.cells g0) (x0 1 b rfl) ?_
     refine sG rfl rfl ?_
     obtain ⟨v69, m69, h69, rfl, rfl⟩ := spec_bit (m := M) (x := x) (k := b) (by omega)
     refine sCall2 rfl call80 rfl rfl h69 ?_
     refine sG rfl rfl ?_
     refine sBin (b := 1) rfl rfl aInt_eql ?_
     refine sP (v := .bool _) rfl ?_
     refine sN ?_
     refine cCond (p := x >>> b &&& 1 = 1) rfl (fun c5 => ?_) (fun c5 => ?_)
     ·
      refine cSR ?_
      refine sMv (v := nv _) rfl ?_
      refine sMv (v := .slice _ _ _) rfl ?_
      refine sIx T22 S3 rfl rfl (show 2 < [a, b, c].length by simp) ?_
      refine sLd (v := nv c) A3 rfl (e1.cells g0) (x0 2 c rfl) ?_
      refine sBin (a := 1) (b := c) rfl rfl (aInt_shl (by omega)) ?_
      rw [Nat.shiftLeft_eq, Nat.one_mul (2 ^ c)]
      refine sBin (a := x) (b := 2 ^ c) rfl rfl (aInt_xor ⟨by omega, by omega⟩) ?_
      refine sAs (v := nv _) rfl ?_
      refine sN ?_
      refine cRet (kBlkR (kSeqR ?_))
      have ht := (bit_one x a).1 h1
      have hu := (bit_one x b).1 c5
      exact ⟨.inr rfl, _, rfl, by rw [doneS, if_neg (show ¬ kd = 11 by omega), show turnM x [a, b, c] = x ^^^ 2 ^ c by simp [turnM, ht, hu]]; rfl, e1⟩
     ·
      refine cSkip (kBlkN (kSeqN ?_))
      refine cSR ?_
      refine sMv (v := nv _) rfl ?_
      refine sAs (v := nv _) rfl ?_
      refine sN ?_
      refine cRet ?_
      have hu : x.testBit b = false := Bool.eq_false_iff.2 (fun h => c5 ((bit_one x b).2 h))
      exact ⟨.inr rfl, _, rfl, by rw [doneS, if_neg (show ¬ kd = 11 by omega), show turnM x [a, b, c] = x by simp [turnM, hu]]; rfl, e1⟩
    ·
     rw [decide_eq_false h1]
     refine sGF rfl rfl ?_
     refine sGF rfl rfl ?_
     refine sGF rfl rfl ?_
     refine sGF rfl rfl ?_
     refine sGF rfl rfl ?_
     refine sGF rfl rfl ?_
     refine sP (v := .bool _) rfl ?_
     refine sN ?_
     refine cCondF rfl ?_
     refine cSkip (kBlkN (kSeqN ?_))
     refine cSR ?_
     refine sMv (v := nv _) rfl ?_
     refine sAs (v := nv _) rfl ?_
     refine sN ?_
     refine cRet ?_
     have ht : x.testBit a = false := Bool.eq_false_iff.2 (fun h => h1 ((bit_one x a).2 h))
     exact ⟨.inr rfl, _, rfl, by rw [doneS, if_neg (show ¬ kd = 11 by omega), show turnM x [a, b, c] = x by simp [turnM, ht]]; rfl, e1⟩
theorem okf94k : okF Tryd.prog H0 94 19 = true := by kernel_rfl
theorem spec_ThroughK {m : Mem} {n x : Nat} {b : Int} {s : Value} {Gs : List (Nat × List Nat)} (hG : GsAt m s (Gs.map gvM)) (hc : CircS n Gs) (hx : x < 2 ^ n) : ∃ v m', ACalls Tryd.prog 94 #[.agg #[nv n, .int .i64 b, s], nv x] m v m' ∧ (v = nv (runS Gs x) ∧ Ext m m') := by
 obtain ⟨q, cap, rfl⟩ := (GsAt.lenN hG)
 obtain ⟨h1, h10, hf, hall⟩ := hc
 have h2n : 2 ^ n ≤ 2 ^ 12 := Nat.pow_le_pow_right (by decide) h10
 refine wpF (args := [_, _]) mixed okf94k (fn := Tryd.f94) rfl rfl rfl (by simp) ?_
 refine cSR ?_
 refine sBox (v := .agg _) rfl ?_
 change wpOps _ _ _ _ _ (m.push (.cells true #[nv n, .int .i64 b, .slice q Gs.length cap]))
 have e1 : Ext m (m.push (.cells true #[nv n, .int .i64 b, .slice q Gs.length cap])) := .push _ _
 have g1 : Mem.get (m.push (.cells true #[nv n, .int .i64 b, .slice q Gs.length cap])) m.size = .cells true #[nv n, .int .i64 b, .slice q Gs.length cap] := gP rfl
 generalize m.push (.cells true #[nv n, .int .i64 b, .slice q Gs.length cap]) = M at *
 refine sAs (v := nv 0) rfl ?_
 refine sN ?_
 refine cSeq (cSR ?_)
 refine sFA F30_2 rfl ?_
 refine sLd (v := .slice q Gs.length cap) A28 rfl g1 rfl ?_
 refine sLen T28 rfl ?_
 refine sMv (v := nv 0) rfl ?_
 refine sN ?_
 refine cBlock ?_
 refine wpC_loop (fun k ρ m' => ∃ i, k = Gs.length - i ∧ i ≤ Gs.length ∧ Ext M m' ∧ runS (Gs.take i) x < 2 ^ n ∧ Has ρ [(1, nv (runS (Gs.take i) x)), (8, .slice q Gs.length cap), (9, nv Gs.length), (10, nv i)]) ⟨0, rfl, Nat.zero_le _, .refl _, hx, rfl, rfl, rfl, rfl, trivial⟩ ?_
 rintro k ρ m' ⟨i, rfl, hi, hE, hxl, hh⟩
 rw [hh.env]; clear hh
 refine cSR ?_
 refine sBin rfl rfl (aInt_lss) ?_
 refine sN ?_
 refine cSeq ?_
 refine cCond rfl (fun c0 => ?_) (fun c0 => ?_)
 ·
  obtain ⟨g, hgi⟩ : ∃ g, Gs[i]? = some g := ⟨_, List.getElem?_eq_getElem c0⟩
  have hgo := hall g (List.mem_of_getElem? hgi)
  obtain ⟨b2, cp2, r2, cc, qw, cw, ee, gb, hcs, hex, hws, hkw⟩ := GsAt.gateN (hG.ext (e1.trans hE)) hgi
  cases ee
  have hrt := runS_take hgi x
  refine cSkip (kSeqN ?_)
  refine cSeq (cBlock (cSR ?_))
  refine sIx T28 S49 rfl rfl c0 ?_
  refine sLdA A49 S49 rfl gb (by omega) ?_
  rw [hex]
  refine sAllocB (bl := m'.size) rfl Z49 (by kernel_rfl) ?_
  refine sStNAB rfl S49 rfl rfl rfl rfl (by kernel_rfl) ?_
  have eg : Ext m' (m'.push (.cells true #[nv g.1, .slice qw g.2.length cw, nv 0, nv 0])) := .push _ _
  have gg : Mem.get (m'.push (.cells true #[nv g.1, .slice qw g.2.length cw, nv 0, nv 0])) m'.size = .cells true #[nv g.1, .slice qw g.2.length cw, nv 0, nv 0] := gP rfl
  generalize m'.push (.cells true #[nv g.1, .slice qw g.2.length cw, nv 0, nv 0]) = M6 at *
  refine sN ?_
  refine cRegion ?_
  refine sLdAll A49 S49 rfl gg rfl ?_
  refine sMv (v := nv _) rfl ?_
  obtain ⟨v16, m16, h16, rfl, e16⟩ := spec_DoneK (kd := g.1) (x := runS (Gs.take i) x) (hws.ext eg) (by have := hgo.kind; omega) (fun y hy => by have := hgo.lt y hy; omega) (by omega)
  rw [show doneS (g.1, g.2) (runS (Gs.take i) x) = runS (Gs.take (i + 1)) x from hrt.symm] at h16
  refine sCall2 rfl call82 rfl rfl h16 ?_
  refine sAs (v := nv _) rfl ?_
  refine sNil (kBlkN (kSeqN ?_))
  refine cRegion ?_
  refine sBin rfl rfl (aInt_add (b := 1) (by omega)) ?_
  refine sMv (v := nv _) rfl ?_
  refine sN ?_
  refine ⟨_, ?_, i + 1, rfl, by omega, (hE.trans eg).trans e16, ?_, rfl, rfl, rfl, rfl, trivial⟩
  ·omega
  ·rw [hrt]; exact doneS_lt hxl hgo
 ·
  obtain rfl : i = Gs.length := by omega
  rw [List.take_length]
  refine cExit (kSeqE (kSeqE (kBlkS (kSeqN ?_))))
  refine cSR ?_
  refine sMv (v := nv _) rfl ?_
  refine sAs (v := nv _) rfl ?_
  refine sN ?_
  refine cRet ?_
  exact ⟨.inr rfl, _, rfl, rfl, e1.trans hE⟩
theorem okf34k : okF Tryd.prog H0 34 19 = true := by kernel_rfl
theorem spec_AllK {m : Mem} {n : Nat} {b : Int} {s : Value} {Gs : List (Nat × List Nat)} (hG : GsAt m s (Gs.map gvM)) (hc : CircS n Gs) : ∃ v m', ACalls Tryd.prog 34 #[.agg #[nv n, .int .i64 b, s]] m v m' ∧ (OwnF m.size m' v (ofs (rtabS n Gs)) ∧ Ext m m') := by
 obtain ⟨q, cap, rfl⟩ := (GsAt.lenN hG)
 have h1 := hc.one
 have h10 := hc.ten
 have h2n : 2 ^ n ≤ 2 ^ 12 := Nat.pow_le_pow_right (by decide) h10
 refine wpF (args := [_]) mixed okf34k (fn := Tryd.f34) rfl rfl rfl (by simp) ?_
 refine cSR ?_
 refine sBox (v := .agg _) rfl ?_
 change wpOps _ _ _ _ _ (m.push (.cells true #[nv n, .int .i64 b, .slice q Gs.length cap]))
 have e1 : Ext m (m.push (.cells true #[nv n, .int .i64 b, .slice q Gs.length cap])) := .push _ _
 have g1 : Mem.get (m.push (.cells true #[nv n, .int .i64 b, .slice q Gs.length cap])) m.size = .cells true #[nv n, .int .i64 b, .slice q Gs.length cap] := gP rfl
 have z1 : (m.push (.cells true #[nv n, .int .i64 b, .slice q Gs.length cap])).size = m.size + 1 := by simp
 generalize m.push (.cells true #[nv n, .int .i64 b, .slice q Gs.length cap]) = M at *
 refine sAs (v := .slice _ _ _) rfl ?_
 refine sN ?_
 refine cSR ?_
 refine sAs (v := .slice _ _ _) rfl ?_
 refine sN ?_
 refine cSeq (cSR ?_)
 refine sAs (v := nv 0) rfl ?_
 refine sN ?_
 refine cBlock ?_
 refine wpC_loop (fun k ρ m' => ∃ i v, k = 2 ^ n - i ∧ i ≤ 2 ^ n ∧ Ext M m' ∧ OwnF M.size m' v (ofs (rtabSU i Gs)) ∧ Has ρ [(1, .pointer (some ⟨m.size, 0, none⟩)), (3, v), (4, nv i)]) ⟨0, _, rfl, Nat.zero_le _, .refl _, .nil _ _, rfl, rfl, rfl, trivial⟩ ?_
 rintro k ρ m' ⟨i, v, rfl, hi, hE, hO, hh⟩
 obtain ⟨qv, cv, rfl⟩ := hO.ints.lenN
 rw [hh.env]; clear hh
 have g1' := hE.cells g1
 have hz := hE.1
 have hul : (rtabSU i Gs).length = i := by simp [rtabSU]
 refine cSeq (cSR ?_)
 refine sMv (v := nv _) rfl ?_
 refine sFA F30_0 rfl ?_
 refine sLd (v := nv n) A3 rfl g1' rfl ?_
 refine sBin rfl rfl (aInt_shl (a := 1) (by omega)) ?_
 rw [Nat.shiftLeft_eq, Nat.one_mul]
 refine sBin (a := i) (b := 2 ^ n) rfl rfl aInt_lss ?_
 refine sN ?_
 refine cCond rfl (fun c0 => ?_) (fun c0 => ?_)
 ·
  refine cSkip (kSeqN ?_)
  refine cSeq (cBlock (cRegion ?_))
  refine sMv (v := .slice _ _ _) rfl ?_
  refine sLdAll A30 S30 rfl g1' rfl ?_
  refine sMv (v := nv _) rfl ?_
  obtain ⟨v15, m15, h15, rfl, e15⟩ := spec_ThroughK (b := b) (x := i) (hG.ext (e1.trans hE)) hc c0
  refine sCall2 rfl call94 rfl rfl h15 ?_
  have z15 := e15.1
  refine sBuildS T22 S3 Z3 (by decide) (by decide) (by decide) (by kernel_rfl) fill1 rfl ?_
  refine sApp App22 rfl rfl (N := M.size) ((hO.ext e15).ext (.push _ _)) one_ints (by simp; omega) (by rw [ofs_length, hul]; simp; omega) fun v3 m3 hO3 hL3 => ?_
  rw [show ofs (rtabSU i Gs) ++ [Int.ofNat (runS Gs i)] = ofs (rtabSU (i + 1) Gs) by rw [rtabSU, rtabSU, List.range_succ, List.map_append, ofs_append]; rfl] at hO3
  obtain ⟨q3, cp3, rfl⟩ := hO3.ints.lenN
  refine sAs (v := .slice _ _ _) rfl ?_
  refine sNil (kBlkN (kSeqN ?_))
  refine cRegion ?_
  refine sMv (v := nv _) rfl ?_
  refine sBin rfl rfl (aInt_add (b := 1) (by omega)) ?_
  refine sAs (v := nv _) rfl ?_
  refine sN ?_
  refine ⟨_, ?_, i + 1, _, rfl, by omega, Low.to_ext ((hE.trans e15).trans (.push _ _)) hL3 (Nat.le_refl _), hO3, rfl, rfl, rfl, trivial⟩
  omega
 ·
  obtain rfl : i = 2 ^ n := by omega
  refine cExit (kSeqE (kSeqE (kBlkS (kSeqN ?_))))
  refine cSR ?_
  refine sMv (v := .slice _ _ _) rfl ?_
  refine sAs (v := .slice _ _ _) rfl ?_
  refine sN ?_
  refine cRet ?_
  exact ⟨.inr rfl, _, rfl, hO.mono (by omega), e1.trans hE⟩
theorem okf40 : okF Tryd.prog H0 40 24 = true := by kernel_rfl
theorem spec_rApplyK {m : Mem} {n b x : Int} {s : Value} {Gs : List GateV} (hG : GsAt m s Gs) : ∃ v m', ACalls Tryd.prog 40 #[.agg #[.int .i64 n, .int .i64 b, s], .int .i64 x] m v m' ∧ (v = .tuple #[nv (appV n b Gs x), nv (appE n b Gs x)] ∧ Ext m m') := by
 obtain ⟨q, cap, rfl⟩ := hG.len
 refine wpF (args := [_, _]) mixed okf40 (fn := Tryd.f40) rfl rfl rfl (by simp) ?_
 refine cSR ?_
 refine sBox (v := .agg _) rfl ?_
 change wpOps _ _ _ _ _ (m.push (.cells true #[.int .i64 n, .int .i64 b, .slice q Gs.length cap]))
 have e1 : Ext m (m.push (.cells true #[.int .i64 n, .int .i64 b, .slice q Gs.length cap])) := .push _ _
 have g1 : Mem.get (m.push (.cells true #[.int .i64 n, .int .i64 b, .slice q Gs.length cap])) m.size = .cells true #[.int .i64 n, .int .i64 b, .slice q Gs.length cap] := gP rfl
 generalize m.push (.cells true #[.int .i64 n, .int .i64 b, .slice q Gs.length cap]) = M at *
 refine sAs (v := nv 0) rfl ?_
 refine sAs (v := nv 0) rfl ?_
 refine sN ?_
 refine cSeq (cSR ?_)
 refine sLdAll A30 S30 rfl g1 rfl ?_
 obtain ⟨v8, m8, h8, rfl, e8⟩ := spec_rCheck8I (n := n) (b := b) (hG.ext e1)
 refine sCall1 rfl call31 rfl h8 ?_
 replace g1 := e8.cells g1
 replace e1 := e1.trans e8
 refine sAs (v := nv _) rfl ?_
 refine sN ?_
 refine cSR ?_
 refine sMv (v := nv _) rfl ?_
 refine sBin (a := circ8E n b Gs) (b := 0) rfl rfl aInt_neq ?_
 refine sN ?_
 refine cCond (p := circ8E n b Gs ≠ 0) rfl (fun c0 => ?_) (fun c0 => ?_)
 ·
  refine cSR ?_
  refine sMv (v := nv _) rfl ?_
  refine sAs (v := nv 0) rfl ?_
  refine sAs (v := nv _) rfl ?_
  refine sN ?_
  refine cRet (kSeqR ?_)
  have ha : appE n b Gs x = circ8E n b Gs := by rw [appE, if_pos c0]
  exact ⟨.inr rfl, _, rfl, by rw [appV, ha, if_neg c0]; rfl, e1⟩
 ·
  have h0 : circ8E n b Gs = 0 := Classical.byContradiction c0
  obtain ⟨n', b', Gs', rfl, rfl, rfl, hc⟩ := circ8_nat h0
  have hp := pow10 hc.ten
  simp only [List.length_map] at g1
  refine cSkip (kSeqN ?_)
  refine cSeq (cSR ?_)
  refine sMv (v := .int .i64 x) rfl ?_
  refine sBinI (v := .bool (decide (x < 0))) (b := 0) rfl rfl aInt_lssI ?_
  refine sMv (v := .bool _) rfl ?_
  by_cases q1 : x < 0
  ·
   rw [decide_eq_true q1]
   refine sGT rfl rfl ?_
   refine sGT rfl rfl ?_
   refine sGT rfl rfl ?_
   refine sGT rfl rfl ?_
   refine sGT rfl rfl ?_
   refine sP (v := .bool _) rfl ?_
   refine sN ?_
   refine cCondT rfl ?_
   refine cSR ?_
   refine sAs (v := nv 0) rfl ?_
   refine sAs (v := nv 3) rfl ?_
   refine sN ?_
   refine cRet (kSeqR ?_)
   have ha : appE (Int.ofNat n') (Int.ofNat b') (Gs'.map gvM) x = 3 := by rw [appE, if_neg c0, if_pos (.inl q1)]
   exact ⟨.inr rfl, _, rfl, by rw [appV, ha, if_neg (by decide)]; rfl, e1⟩
  ·
   rw [decide_eq_false q1]
   refine sG rfl rfl ?_
   refine sMv (v := .int .i64 x) rfl ?_
   refine sG rfl rfl ?_
   refine sFA F30_0 rfl ?_
   refine sG rfl rfl ?_
   refine sLd (v := nv n') A3 rfl g1 rfl ?_
   refine sG rfl rfl ?_
   refine sBin (v := nv (2 ^ n')) rfl rfl (by rw [aInt_shl (a := 1) ⟨by have := hc.ten; omega, i64_pow hc.ten⟩, Nat.shiftLeft_eq, Nat.one_mul]) ?_
   refine sG rfl rfl ?_
   refine sBinI (v := .bool (decide (Int.ofNat (2 ^ n') ≤ x))) rfl rfl aInt_geqI ?_
   refine sP (v := .bool _) rfl ?_
   refine sN ?_
   refine cCond (p := Int.ofNat (2 ^ n') ≤ x) rfl (fun c2 => ?_) (fun c2 => ?_)
   ·
    refine cSR ?_
    refine sAs (v := nv 0) rfl ?_
    refine sAs (v := nv 3) rfl ?_
    refine sN ?_
    refine cRet (kSeqR ?_)
    have ha : appE (Int.ofNat n') (Int.ofNat b') (Gs'.map gvM) x = 3 := by rw [appE, if_neg c0, if_pos (.inr c2)]
    exact ⟨.inr rfl, _, rfl, by rw [appV, ha, if_neg (by decide)]; rfl, e1⟩
   ·
    obtain ⟨y, rfl⟩ : ∃ y : Nat, x = Int.ofNat y := ⟨x.toNat, by simp only [Int.ofNat_eq_natCast]; omega⟩
    have hy : y < 2 ^ n' := by simp only [Int.ofNat_eq_natCast] at c2; omega
    refine cSkip (kSeqN ?_)
    refine cSR ?_
    refine sLdAll A30 S30 rfl g1 rfl ?_
    refine sMv (v := nv _) rfl ?_
    obtain ⟨v23, m23, h23, rfl, e23⟩ := spec_ThroughK (b := Int.ofNat b') (hG.ext e1) hc hy
    simp only [List.length_map] at h23
    refine sCall2 rfl call94 rfl rfl h23 ?_
    refine sAs (v := nv _) rfl ?_
    refine sAs (v := nv 0) rfl ?_
    refine sN ?_
    refine cRet ?_
    have ha : appE (Int.ofNat n') (Int.ofNat b') (Gs'.map gvM) (Int.ofNat y) = 0 := by rw [appE, if_neg c0, if_neg (by rintro (h | h); exact q1 h; exact c2 h)]
    exact ⟨.inr rfl, _, rfl, by rw [appV, ha, if_pos rfl, gnM_all]; rfl, e1.trans e23⟩
theorem okf42 : okF Tryd.prog H0 42 12 = true := by kernel_rfl
theorem spec_rTableK {m : Mem} {n b : Int} {s : Value} {Gs : List GateV} (hG : GsAt m s Gs) : ∃ v m', ACalls Tryd.prog 42 #[.agg #[.int .i64 n, .int .i64 b, s]] m v m' ∧ (∃ w, v = .tuple #[w, nv (circ8E n b Gs)] ∧ OwnF m.size m' w (ofs (tabL n b Gs)) ∧ Ext m m') := by
 obtain ⟨q, cap, rfl⟩ := hG.len
 refine wpF (args := [_]) mixed okf42 (fn := Tryd.f42) rfl rfl rfl (by simp) ?_
 refine cSR ?_
 refine sBox (v := .agg _) rfl ?_
 change wpOps _ _ _ _ _ (m.push (.cells true #[.int .i64 n, .int .i64 b, .slice q Gs.length cap]))
 have e1 : Ext m (m.push (.cells true #[.int .i64 n, .int .i64 b, .slice q Gs.length cap])) := .push _ _
 have g1 : Mem.get (m.push (.cells true #[.int .i64 n, .int .i64 b, .slice q Gs.length cap])) m.size = .cells true #[.int .i64 n, .int .i64 b, .slice q Gs.length cap] := gP rfl
 generalize m.push (.cells true #[.int .i64 n, .int .i64 b, .slice q Gs.length cap]) = M at *
 refine sAs (v := .slice _ _ _) rfl ?_
 refine sAs (v := nv 0) rfl ?_
 refine sN ?_
 refine cSeq (cSR ?_)
 refine sLdAll A30 S30 rfl g1 rfl ?_
 obtain ⟨v8, m8, h8, rfl, e8⟩ := spec_rCheck8I (n := n) (b := b) (hG.ext e1)
 refine sCall1 rfl call31 rfl h8 ?_
 replace g1 := e8.cells g1
 replace e1 := e1.trans e8
 refine sAs (v := nv _) rfl ?_
 refine sN ?_
 refine cSR ?_
 refine sMv (v := nv _) rfl ?_
 refine sBin (a := circ8E n b Gs) (b := 0) rfl rfl aInt_neq ?_
 refine sN ?_
 refine cCond (p := circ8E n b Gs ≠ 0) rfl (fun c0 => ?_) (fun c0 => ?_)
 ·
  refine cSR ?_
  refine sMv (v := nv _) rfl ?_
  refine sAs (v := .slice _ _ _) rfl ?_
  refine sAs (v := nv _) rfl ?_
  refine sN ?_
  refine cRet (kSeqR ?_)
  exact ⟨.inr rfl, _, rfl, _, rfl, by rw [tabL, if_neg c0]; exact .nil _ _, e1⟩
 ·
  have h0 : circ8E n b Gs = 0 := Classical.byContradiction c0
  obtain ⟨n', b', Gs', rfl, rfl, rfl, hc⟩ := circ8_nat h0
  simp only [List.length_map] at g1
  refine cSkip (kSeqN ?_)
  refine cSR ?_
  refine sLdAll A30 S30 rfl g1 rfl ?_
  obtain ⟨v11, m11, h11, o11, e11⟩ := spec_AllK (b := Int.ofNat b') (hG.ext e1) hc
  obtain ⟨q11, c11, rfl⟩ := o11.ints.lenN
  simp only [List.length_map] at h11
  refine sCall1 rfl call34 rfl h11 ?_
  refine sAs (v := .slice _ _ _) rfl ?_
  refine sAs (v := nv 0) rfl ?_
  refine sN ?_
  refine cRet ?_
  exact ⟨.inr rfl, _, rfl, _, by rw [h0]; rfl, by rw [tabL, if_pos h0, gnM_all]; exact o11.mono e1.1, e1.trans e11⟩
def H44 : Nat → List (Nat × Nat) := fun id => if id = 9 then [(2, 0)] else []
theorem okf44 : okF Tryd.prog H44 44 28 = true := by kernel_rfl
theorem spec_rSameK {m : Mem} {n b n2 b2 : Int} {s s2 : Value} {Gs Gs2 : List GateV} (hG : GsAt m s Gs) (hG2 : GsAt m s2 Gs2) : ∃ v m', ACalls Tryd.prog 44 #[.agg #[.int .i64 n, .int .i64 b, s], .agg #[.int .i64 n2, .int .i64 b2, s2]] m v m' ∧ (v = .tuple #[.bool (sameB n b Gs n2 b2 Gs2), nv (sameE n b Gs n2 b2 Gs2)] ∧ Ext m m') := by
 obtain ⟨q, cap, rfl⟩ := hG.len
 obtain ⟨q2, cap2, rfl⟩ := hG2.len
 refine wpF (args := [_, _]) mixed okf44 (fn := Tryd.f44) rfl rfl rfl (by simp) ?_
 refine cSR ?_
 refine sBox (v := .agg _) rfl ?_
 refine sBoxB (bl := m.size + 1) (v := .agg _) (by simp) rfl ?_
 change wpOps _ _ _ _ _ ((m.push (.cells true #[.int .i64 n, .int .i64 b, .slice q Gs.length cap])).push (.cells true #[.int .i64 n2, .int .i64 b2, .slice q2 Gs2.length cap2]))
 have e1 : Ext m ((m.push (.cells true #[.int .i64 n, .int .i64 b, .slice q Gs.length cap])).push (.cells true #[.int .i64 n2, .int .i64 b2, .slice q2 Gs2.length cap2])) := (Ext.push _ _).trans (.push _ _)
 have g1 : Mem.get ((m.push (.cells true #[.int .i64 n, .int .i64 b, .slice q Gs.length cap])).push (.cells true #[.int .i64 n2, .int .i64 b2, .slice q2 Gs2.length cap2])) m.size = .cells true #[.int .i64 n, .int .i64 b, .slice q Gs.length cap] := by rw [gPn (by simp), gP rfl]
 have g2 : Mem.get ((m.push (.cells true #[.int .i64 n, .int .i64 b, .slice q Gs.length cap])).push (.cells true #[.int .i64 n2, .int .i64 b2, .slice q2 Gs2.length cap2])) (m.size + 1) = .cells true #[.int .i64 n2, .int .i64 b2, .slice q2 Gs2.length cap2] := gP (by simp)
 generalize ((m.push (.cells true #[.int .i64 n, .int .i64 b, .slice q Gs.length cap])).push (.cells true #[.int .i64 n2, .int .i64 b2, .slice q2 Gs2.length cap2])) = M at *
 refine sAs (v := .bool _) rfl ?_
 refine sAs (v := nv 0) rfl ?_
 refine sN ?_
 refine cSeq (cSR ?_)
 refine sLdAll A30 S30 rfl g1 rfl ?_
 obtain ⟨v9, m9, h9, rfl, e9⟩ := spec_rCheck8I (n := n) (b := b) (hG.ext e1)
 refine sCall1 rfl call31 rfl h9 ?_
 replace g1 := e9.cells g1
 replace g2 := e9.cells g2
 replace e1 := e1.trans e9
 refine sAs (v := nv _) rfl ?_
 refine sN ?_
 refine cSR ?_
 refine sMv (v := nv _) rfl ?_
 refine sBin (a := circ8E n b Gs) (b := 0) rfl rfl aInt_neq ?_
 refine sN ?_
 refine cCond (p := circ8E n b Gs ≠ 0) rfl (fun c0 => ?_) (fun c0 => ?_)
 ·
  refine cSR ?_
  refine sMv (v := nv _) rfl ?_
  refine sAs (v := .bool _) rfl ?_
  refine sAs (v := nv _) rfl ?_
  refine sN ?_
  refine cRet (kSeqR ?_)
  have ha : sameE n b Gs n2 b2 Gs2 = circ8E n b Gs := by rw [sameE, if_pos c0]
  exact ⟨.inr rfl, _, rfl, by rw [sameB, ha, if_neg c0]; rfl, e1⟩
 ·
  refine cSkip (kSeqN ?_)
  refine cSeq (cSR ?_)
  refine sLdAll A30 S30 rfl g2 rfl ?_
  obtain ⟨v14, m14, h14, rfl, e14⟩ := spec_rCheck8I (n := n2) (b := b2) (hG2.ext e1)
  refine sCall1 rfl call31 rfl h14 ?_
  replace g1 := e14.cells g1
  replace g2 := e14.cells g2
  replace e1 := e1.trans e14
  refine sAs (v := nv _) rfl ?_
  refine sN ?_
  refine cSR ?_
  refine sMv (v := nv _) rfl ?_
  refine sBin (a := circ8E n2 b2 Gs2) (b := 0) rfl rfl aInt_neq ?_
  refine sN ?_
  refine cCond (p := circ8E n2 b2 Gs2 ≠ 0) rfl (fun c1 => ?_) (fun c1 => ?_)
  ·
   refine cSR ?_
   refine sMv (v := nv _) rfl ?_
   refine sAs (v := .bool _) rfl ?_
   refine sAs (v := nv _) rfl ?_
   refine sN ?_
   refine cRet (kSeqR ?_)
   have ha : sameE n b Gs n2 b2 Gs2 = circ8E n2 b2 Gs2 := by rw [sameE, if_neg c0, if_pos c1]
   exact ⟨.inr rfl, _, rfl, by rw [sameB, ha, if_neg c1]; rfl, e1⟩
  ·
   refine cSkip (kSeqN ?_)
   refine cSeq (cSR ?_)
   refine sFA F30_0 rfl ?_
   refine sLd (v := .int .i64 n) A3 rfl g1 rfl ?_
   refine sFA F30_0 rfl ?_
   refine sLd (v := .int .i64 n2) A3 rfl g2 rfl ?_
   refine sBinI (v := .bool (decide (n ≠ n2))) rfl rfl aInt_neqI ?_
   refine sN ?_
   refine cCond (p := n ≠ n2) rfl (fun c2 => ?_) (fun c2 => ?_)
   ·
    refine cSR ?_
    refine sAs (v := .bool _) rfl ?_
    refine sAs (v := nv 7) rfl ?_
    refine sN ?_
    refine cRet (kSeqR ?_)
    have ha : sameE n b Gs n2 b2 Gs2 = 7 := by rw [sameE, if_neg c0, if_neg c1, if_pos c2]
    exact ⟨.inr rfl, _, rfl, by rw [sameB, ha, if_neg (by decide)]; rfl, e1⟩
   ·
    have h0 : circ8E n b Gs = 0 := Classical.byContradiction c0
    have h1 : circ8E n2 b2 Gs2 = 0 := Classical.byContradiction c1
    obtain ⟨n', b', Gs', rfl, rfl, rfl, hc⟩ := circ8_nat h0
    obtain ⟨n2', b2', Gs2', rfl, rfl, rfl, hc2⟩ := circ8_nat h1
    simp only [List.length_map] at g1 g2
    have eM := e1
    clear e1
    refine cSkip (kSeqN ?_)
    refine cSeq ?_
    refine cDrawH (hs := [(2, 0)]) rfl (by decide) ?_
    refine lStepLdA A30 S30 rfl g1 rfl fun e0 hm0 hv0 hr0 => ?_
    obtain ⟨v24, m24, h24, o24, e24⟩ := spec_AllK (b := Int.ofNat b') (hG.ext eM) hc
    obtain ⟨q24, c24, rfl⟩ := o24.ints.lenN
    simp only [List.length_map] at h24
    refine lStepO (sCall1 rfl call34 rfl h24 (sNil fun e1 hm1 => ?_))
    have g2' := e24.cells g2
    refine lStepLdA A30 S30 rfl g2' rfl fun e2 hm2 hv2 hr2 => ?_
    obtain ⟨v26, m26, h26, o26, e26⟩ := spec_AllK (b := Int.ofNat b2') ((hG2.ext eM).ext e24) hc2
    obtain ⟨q26, c26, rfl⟩ := o26.ints.lenN
    simp only [List.length_map] at h26
    refine lStepO (sCall1 rfl call34 rfl h26 (sNil fun e3 hm3 => ?_))
    obtain ⟨v27, m27, h27, rfl, rfl⟩ := spec_rEqual (o24.ints.ext e26) o26.ints (by rw [ofs_length]; have := pow10 hc.ten; simp only [rtabS, List.length_map, List.length_range]; omega)
    refine lStepO (sCall2 rfl call99 rfl rfl h27 (sNil fun e4 hm4 => ?_))
    refine lStepO (sAs (v := .bool _) rfl (sNil fun e5 hm5 => ?_))
    refine lStepO (sAs (v := nv 0) rfl (sNil fun e6 hm6 => ?_))
    refine ⟨?_, (kSeqN ?_)⟩
    ·
     refine obl_atE (e := e2) (e' := e0) (by simp) (by rfl) (by simp) ((hr2 e0.m _ (by rw [hm0]; exact g2)).trans (congrArg some hv2.symm)) ?_
     trivial
    refine cRet ?_
    have ha : sameE (Int.ofNat n') (Int.ofNat b') (Gs'.map gvM) (Int.ofNat n2') (Int.ofNat b2') (Gs2'.map gvM) = 0 := by rw [sameE, if_neg c0, if_neg c1, if_neg c2]
    have hd : decide (ofs (rtabS n' Gs') = ofs (rtabS n2' Gs2')) = decide (rtabS n' Gs' = rtabS n2' Gs2') := decide_eq_decide.2 ofs_inj
    have hsb : sameB (Int.ofNat n') (Int.ofNat b') (Gs'.map gvM) (Int.ofNat n2') (Int.ofNat b2') (Gs2'.map gvM) = decide (ofs (rtabS n' Gs') = ofs (rtabS n2' Gs2')) := by
     rw [sameB, ha, if_pos rfl, tabL, if_pos h0, tabL, if_pos h1, gnM_all, gnM_all, hd]; rfl
    exact ⟨.inr rfl, _, rfl, by rw [hsb, ha]; rfl, (eM.trans e24).trans e26⟩
end Go.AM

/-! R66 -/
namespace Go.AM
open Go.Proofs
theorem B30I {a b : Int} : aBuild Tryd.prog 30 [(0, .int .i64 a), (1, .int .i64 b)] = some (.agg #[.int .i64 a, .int .i64 b, .slice none 0 0]) := by kernel_rfl
theorem B49I {k a b : Int} {q : Option Addr} {n c : Nat} : aBuild Tryd.prog 49 [(0, .int .i64 k), (1, .slice q n c), (2, .int .i64 a), (3, .int .i64 b)] = some (.agg #[.int .i64 k, .slice q n c, .int .i64 a, .int .i64 b]) := by kernel_rfl
theorem fillA4I {k a b : Int} {n c : Nat} {q : Option Addr} : Instr.fill (fun i => some (i * 4, 4)) (if 1 * 4 = 0 then #[] else (Array.range (1 * 4)).map ((Value.agg #[nv 0, .slice none 0 0, nv 0, nv 0]).cells[· % (Value.agg #[nv 0, .slice none 0 0, nv 0, nv 0]).cells.size]!)) [(0, .agg #[.int .i64 k, .slice q n c, .int .i64 a, .int .i64 b])] = some #[.int .i64 k, .slice q n c, .int .i64 a, .int .i64 b] := by kernel_rfl
/-- Gates of one's own, whatever they hold: each one's wires in a place of their own. -/
def OwnI (N : Nat) (m : Mem) (v : Value) (cs : Array Value) (Gs : List GateV) : Prop :=
  OwnC N m v 4 Gs.length cs ∧ ∀ (i : Nat) (g : GateV), Gs[i]? = some g → ∃ s, cs[i * 4]? = some (.int .i64 g.1) ∧ cs[i * 4 + 1]? = some s ∧ cs[i * 4 + 2]? = some (.int .i64 g.2.2.1) ∧ cs[i * 4 + 3]? = some (.int .i64 g.2.2.2) ∧ OwnF N m s g.2.1 ∧ ∀ b, blkOf s = some b → blkOf v ≠ some b
theorem OwnI.nil (N : Nat) (m : Mem) : OwnI N m (.slice none 0 0) #[] [] := ⟨.nil _ _ _, fun i g h => by cases i <;> cases h⟩
theorem OwnI.up {N : Nat} {m m' : Mem} {v : Value} {cs : Array Value} {Gs : List GateV} (h : OwnI N m v cs Gs) (hu : ∀ b, N ≤ b → b < m.size → Mem.get m' b = Mem.get m b) : OwnI N m' v cs Gs :=
 ⟨h.1.up hu, fun i g hi => by
  obtain ⟨s, h1, h2, h3, h4, ho, hb⟩ := h.2 i g hi
  exact ⟨s, h1, h2, h3, h4, ho.up hu, hb⟩⟩
theorem OwnI.ext {N : Nat} {m m' : Mem} {v : Value} {cs : Array Value} {Gs : List GateV} (h : OwnI N m v cs Gs) (he : Ext m m') : OwnI N m' v cs Gs := h.up fun b _ hb => he.2 b hb
theorem OwnI.only {N b : Nat} {m m' : Mem} {v : Value} {cs : Array Value} {Gs : List GateV} (h : OwnI N m v cs Gs) (ho : Only b m m') (hb : b < N) : OwnI N m' v cs Gs := h.up fun c hc _ => ho.2 c (by omega)
theorem OwnI.mono {N N' : Nat} {m : Mem} {v : Value} {cs : Array Value} {Gs : List GateV} (h : OwnI N m v cs Gs) (hN : N' ≤ N) : OwnI N' m v cs Gs :=
 ⟨h.1.mono hN, fun i g hi => by
  obtain ⟨s, h1, h2, h3, h4, ho, hb⟩ := h.2 i g hi
  exact ⟨s, h1, h2, h3, h4, ho.mono hN, hb⟩⟩
theorem OwnI.grew {N : Nat} {m m' : Mem} {v v' s : Value} {cs : Array Value} {Gs : List GateV} {g : GateV} (h : OwnI N m v cs Gs) (hs : OwnF N m s g.2.1) (hap : ∀ b, blkOf s = some b → blkOf v ≠ some b) (hg : Grew m v m' v') (hc : OwnC N m' v' 4 (Gs.length + 1) (cs ++ #[.int .i64 g.1, s, .int .i64 g.2.2.1, .int .i64 g.2.2.2])) : OwnI N m' v' (cs ++ #[.int .i64 g.1, s, .int .i64 g.2.2.1, .int .i64 g.2.2.2]) (Gs ++ [g]) := by
 have hsz := h.1.size
 have hkeep : ∀ {u : Value} {l : List Int}, OwnF N m u l → (∀ b, blkOf u = some b → blkOf v ≠ some b) → OwnF N m' u l ∧ ∀ b, blkOf u = some b → blkOf v' ≠ some b := fun ho ha =>
  ⟨ho.keep fun b hb => hg.2.1 b (ho.lt hb).2 (ha b hb), fun b hb => hg.off (ha b hb) (ho.lt hb).2⟩
 refine ⟨by rw [List.length_append]; exact hc, fun i x hi => ?_⟩
 by_cases hil : i < Gs.length
 ·rw [List.getElem?_append_left hil] at hi
  obtain ⟨u, h1, h2, h3, h4, ho, hb⟩ := h.2 i x hi
  obtain ⟨k1, k2⟩ := hkeep ho hb
  exact ⟨u, by rw [Array.getElem?_append_left (by omega), h1], by rw [Array.getElem?_append_left (by omega), h2], by rw [Array.getElem?_append_left (by omega), h3], by rw [Array.getElem?_append_left (by omega), h4], k1, k2⟩
 ·rw [List.getElem?_append_right (by omega)] at hi
  have h1 := (List.getElem?_eq_some_iff.1 hi).1
  have h0 : i = Gs.length := by simp at h1; omega
  rw [h0, Nat.sub_self] at hi
  obtain rfl : g = x := by simpa using hi
  obtain ⟨k1, k2⟩ := hkeep hs hap
  refine ⟨s, ?_, ?_, ?_, ?_, k1, k2⟩
  ·rw [Array.getElem?_append_right (by omega), show i * 4 - cs.size = 0 by rw [h0]; omega]; rfl
  ·rw [Array.getElem?_append_right (by omega), show i * 4 + 1 - cs.size = 1 by rw [h0]; omega]; rfl
  ·rw [Array.getElem?_append_right (by omega), show i * 4 + 2 - cs.size = 2 by rw [h0]; omega]; rfl
  ·rw [Array.getElem?_append_right (by omega), show i * 4 + 3 - cs.size = 3 by rw [h0]; omega]; rfl
theorem OwnI.gs {N : Nat} {m : Mem} {v : Value} {cs : Array Value} {Gs : List GateV} (h : OwnI N m v cs Gs) : GsAt m v Gs := by
 have hsz := h.1.size
 by_cases h0 : Gs = []
 ·subst h0
  rcases h.1 with ⟨h1, _⟩ | ⟨b, cap, c, h1, h2, h3, h4, h5, h6⟩
  ·exact .inl ⟨rfl, .inl h1⟩
  ·exact .inr ⟨b, cap, true, c, h1, h3, fun i g hi => by cases hi⟩
 ·obtain ⟨b, cap, c, h1, h2, h3, h4, h5⟩ := h.1.at (List.length_pos_iff.2 h0)
  refine .inr ⟨b, cap, true, c, h1, h3, fun i g hi => ?_⟩
  have hil := (List.getElem?_eq_some_iff.1 hi).1
  obtain ⟨s, e1, e2, e3, e4, ho, _⟩ := h.2 i g hi
  exact ⟨s, by omega, quad_at (by rw [h5 _ (by omega)]; exact e1) (by rw [h5 _ (by omega)]; exact e2) (by rw [h5 _ (by omega)]; exact e3) (by rw [h5 _ (by omega)]; exact e4), ho.ints, ho.capOk⟩
/-- Whether a circuit is more than what statements look at. -/
def greatC (Gs : List GateV) : Bool := decide (130 < Gs.length) || Gs.any fun g => decide (6 < g.2.1.length)
theorem greatC_no {Gs : List GateV} (h : ¬ greatC Gs = true) : Gs.length ≤ 130 ∧ ∀ g ∈ Gs, g.2.1.length ≤ 6 := by
 simp only [greatC, Bool.or_eq_true, decide_eq_true_eq, List.any_eq_true, not_or, not_exists, not_and] at h
 exact ⟨by omega, fun g hg => by have := h.2 g hg; omega⟩
theorem okf96 : okF Tryd.prog H0 96 7 = true := by kernel_rfl
theorem spec_Great1 {m : Mem} {g : GateV} {q : Option Addr} {cw : Nat} : ∃ v m', ACalls Tryd.prog 96 #[.agg #[.int .i64 g.1, .slice q g.2.1.length cw, .int .i64 g.2.2.1, .int .i64 g.2.2.2]] m v m' ∧ (v = .bool (decide (6 < g.2.1.length)) ∧ Ext m m') := by
 refine wpF (args := [_]) mixed okf96 (fn := Tryd.f96) rfl rfl rfl (by simp) ?_
 refine cSR ?_
 refine sBox (v := .agg _) rfl ?_
 change wpOps _ _ _ _ _ (m.push (.cells true #[.int .i64 g.1, .slice q g.2.1.length cw, .int .i64 g.2.2.1, .int .i64 g.2.2.2]))
 refine sAs (v := .bool _) rfl ?_
 refine sN ?_
 refine cSR ?_
 refine sFA F49_1 rfl ?_
 refine sLd (v := .slice q g.2.1.length cw) A22 rfl (gP rfl) rfl ?_
 refine sLen T22 rfl ?_
 refine sBin (a := g.2.1.length) (b := 6) rfl rfl aInt_gtr ?_
 refine sAs (v := .bool _) rfl ?_
 refine sN ?_
 refine cRet ?_
 exact ⟨.inr rfl, _, rfl, rfl, .push _ _⟩
theorem okf37 : okF Tryd.prog H0 37 12 = true := by kernel_rfl
theorem spec_GreatC {m : Mem} {n b : Int} {s : Value} {Gs : List GateV} (hG : GsAt m s Gs) : ∃ v m', ACalls Tryd.prog 37 #[.agg #[.int .i64 n, .int .i64 b, s]] m v m' ∧ (v = .bool (greatC Gs) ∧ Ext m m') := by
 obtain ⟨q, cap, rfl⟩ := hG.len
 refine wpF (args := [_]) mixed okf37 (fn := Tryd.f37) rfl rfl rfl (by simp) ?_
 refine cSR ?_
 refine sBox (v := .agg _) rfl ?_
 change wpOps _ _ _ _ _ (m.push (.cells true #[.int .i64 n, .int .i64 b, .slice q Gs.length cap]))
 have e1 : Ext m (m.push (.cells true #[.int .i64 n, .int .i64 b, .slice q Gs.length cap])) := .push _ _
 have g1 : Mem.get (m.push (.cells true #[.int .i64 n, .int .i64 b, .slice q Gs.length cap])) m.size = .cells true #[.int .i64 n, .int .i64 b, .slice q Gs.length cap] := gP rfl
 generalize m.push (.cells true #[.int .i64 n, .int .i64 b, .slice q Gs.length cap]) = M at *
 refine sAs (v := .bool _) rfl ?_
 refine sN ?_
 refine cSR ?_
 refine sFA F30_2 rfl ?_
 refine sLd (v := .slice q Gs.length cap) A28 rfl g1 rfl ?_
 refine sLen T28 rfl ?_
 refine sBin (a := Gs.length) (b := 130) rfl rfl aInt_gtr ?_
 refine sMv (v := .bool (decide (130 < Gs.length))) rfl ?_
 by_cases q1 : 130 < Gs.length
 ·
  rw [decide_eq_true q1]
  refine sGT rfl rfl ?_
  refine sGT rfl rfl ?_
  refine sGT rfl rfl ?_
  refine sP (v := .bool _) rfl ?_
  refine sAs (v := .bool _) rfl ?_
  refine sN ?_
  refine cRet ?_
  exact ⟨.inr rfl, _, rfl, by rw [greatC, decide_eq_true q1]; rfl, e1⟩
 ·
  rw [decide_eq_false q1]
  refine sG rfl rfl ?_
  refine sFA F30_2 rfl ?_
  refine sG rfl rfl ?_
  refine sLd (v := .slice q Gs.length cap) A28 rfl g1 rfl ?_
  refine sG rfl rfl ?_
  obtain ⟨v10, m10, h10, rfl, e10⟩ := spec_ContainsGI (p := fun g => decide (6 < g.2.1.length)) (hG.ext e1) (by omega) call96 fun g _ m' he q cw => spec_Great1
  refine sCall2 rfl call32 rfl rfl h10 ?_
  refine sP (v := .bool _) rfl ?_
  refine sAs (v := .bool _) rfl ?_
  refine sN ?_
  refine cRet ?_
  exact ⟨.inr rfl, _, rfl, by rw [greatC, decide_eq_false q1, Bool.false_or]; rfl, e1.trans e10⟩
def H38k : Nat → List (Nat × Nat) := fun id => if id = 5 then [(1, 7), (1, 13), (3, 7), (8, 0), (10, 0)] else []
theorem okf38k : okF Tryd.prog H38k 38 35 = true := by kernel_rfl
theorem spec_OwnK {m : Mem} {n b : Int} {s : Value} {Gs : List GateV} (hG : GsAt m s Gs) (hl : Gs.length ≤ 1000) (hw : ∀ g ∈ Gs, g.2.1.length ≤ 1000) : ∃ v m', ACalls Tryd.prog 38 #[.agg #[.int .i64 n, .int .i64 b, s]] m v m' ∧ (∃ s' cs', v = .agg #[.int .i64 n, .int .i64 b, s'] ∧ OwnI m.size m' s' cs' Gs ∧ Ext m m') := by
 obtain ⟨q, cap, rfl⟩ := hG.len
 refine wpF (args := [_]) mixed okf38k (fn := Tryd.f38) rfl rfl rfl (by simp) ?_
 refine cSR ?_
 refine sBox (v := .agg _) rfl ?_
 change wpOps _ _ _ _ _ (m.push (.cells true #[.int .i64 n, .int .i64 b, .slice q Gs.length cap]))
 have ex0 : Ext m (m.push (.cells true #[.int .i64 n, .int .i64 b, .slice q Gs.length cap])) := .push _ _
 have g0 : Mem.get (m.push (.cells true #[.int .i64 n, .int .i64 b, .slice q Gs.length cap])) m.size = .cells true #[.int .i64 n, .int .i64 b, .slice q Gs.length cap] := gP rfl
 have z0 : (m.push (.cells true #[.int .i64 n, .int .i64 b, .slice q Gs.length cap])).size = m.size + 1 := by simp
 generalize m.push (.cells true #[.int .i64 n, .int .i64 b, .slice q Gs.length cap]) = m0 at *
 refine sAllocB (bl := m0.size) rfl Z30 (by kernel_rfl) ?_
 change wpOps _ _ _ _ _ (m0.push (.cells true #[nv 0, nv 0, .slice none 0 0]))
 have ex1 : Ext m0 (m0.push (.cells true #[nv 0, nv 0, .slice none 0 0])) := .push _ _
 have g1 : Mem.get (m0.push (.cells true #[nv 0, nv 0, .slice none 0 0])) m0.size = .cells true #[nv 0, nv 0, .slice none 0 0] := gP rfl
 have z1 : (m0.push (.cells true #[nv 0, nv 0, .slice none 0 0])).size = m0.size + 1 := by simp
 generalize m0.push (.cells true #[nv 0, nv 0, .slice none 0 0]) = m1 at *
 refine sN ?_
 refine cSR ?_
 refine sFA F30_0 rfl ?_
 refine sLd (v := .int .i64 n) A3 rfl (ex1.cells g0) rfl ?_
 refine sFA F30_1 rfl ?_
 refine sLd (v := .int .i64 b) A3 rfl (ex1.cells g0) rfl ?_
 refine sBuild B30I ?_
 refine sAllocB (bl := m1.size) rfl Z30 (by kernel_rfl) ?_
 refine sStNAB rfl S30 rfl rfl rfl rfl (by kernel_rfl) ?_
 have ex2 : Ext m1 (m1.push (.cells true #[.int .i64 n, .int .i64 b, .slice none 0 0])) := .push _ _
 have g2 : Mem.get (m1.push (.cells true #[.int .i64 n, .int .i64 b, .slice none 0 0])) m1.size = .cells true #[.int .i64 n, .int .i64 b, .slice none 0 0] := gP rfl
 have z2 : (m1.push (.cells true #[.int .i64 n, .int .i64 b, .slice none 0 0])).size = m1.size + 1 := by simp
 generalize m1.push (.cells true #[.int .i64 n, .int .i64 b, .slice none 0 0]) = m2 at *
 have E2 := (ex0.trans ex1).trans ex2
 have gr2 := ex2.cells g1
 have gb2 := (ex1.trans ex2).cells g0
 refine sN ?_
 refine cSeq (cSR ?_)
 refine sFA F30_2 rfl ?_
 refine sLd (v := .slice q Gs.length cap) A28 rfl gb2 rfl ?_
 refine sLen T28 rfl ?_
 refine sMv (v := nv 0) rfl ?_
 refine sN ?_
 refine cBlock ?_
 refine wpC_loop (fun kk ρ m' => ∃ i v cs', kk = Gs.length - i ∧ i ≤ Gs.length ∧ m2.size ≤ m'.size ∧ (∀ c, c < m2.size → c ≠ m1.size → Mem.get m' c = Mem.get m2 c) ∧ Mem.get m' m1.size = .cells true #[.int .i64 n, .int .i64 b, v] ∧ OwnI m2.size m' v cs' (Gs.take i) ∧ Has ρ [(2, .pointer (some ⟨m0.size, 0, none⟩)), (3, .pointer (some ⟨m1.size, 0, none⟩)), (12, .slice q Gs.length cap), (13, nv Gs.length), (14, nv i)]) ⟨0, _, #[], rfl, Nat.zero_le _, Nat.le_refl _, fun _ _ _ => rfl, g2, .nil _ _, rfl, rfl, rfl, rfl, rfl, trivial⟩ ?_
 rintro kk ρ m' ⟨i, v, cs', rfl, hi, hz, hk, gc, hO, hh⟩
 obtain ⟨qv, cv, rfl⟩ := hO.1.len
 rw [hh.env]; clear hh
 have hEm : Ext m m' := ⟨by have := E2.1; omega, fun c hc => (hk c (by omega) (by omega)).trans (E2.2 c hc)⟩
 refine cSR ?_
 refine sBin rfl rfl (aInt_lss) ?_
 refine sN ?_
 refine cSeq ?_
 refine cCond rfl (fun c0 => ?_) (fun c0 => ?_)
 ·
  obtain ⟨g, hgi⟩ : ∃ g, Gs[i]? = some g := ⟨_, List.getElem?_eq_getElem c0⟩
  have hgw := hw g (List.mem_of_getElem? hgi)
  obtain ⟨b2, cp2, r2, cc, qw, cw, ee, gb, hcs, hex, hws, hkw⟩ := (hG.ext hEm).gate hgi
  cases ee
  have htl : (Gs.take i).length ≤ 1000 := by rw [List.length_take]; omega
  refine cSkip (kSeqN ?_)
  refine cSeq (cBlock (cSR ?_))
  refine sIx T28 S49 rfl rfl c0 ?_
  refine sLdA A49 S49 rfl gb (by omega) ?_
  rw [hex]
  refine sAllocB (bl := m'.size) rfl Z49 (by kernel_rfl) ?_
  refine sStNAB rfl S49 rfl rfl rfl rfl (by kernel_rfl) ?_
  have eg : Ext m' (m'.push (.cells true #[.int .i64 g.1, .slice qw g.2.1.length cw, .int .i64 g.2.2.1, .int .i64 g.2.2.2])) := .push _ _
  have gg : Mem.get (m'.push (.cells true #[.int .i64 g.1, .slice qw g.2.1.length cw, .int .i64 g.2.2.1, .int .i64 g.2.2.2])) m'.size = .cells true #[.int .i64 g.1, .slice qw g.2.1.length cw, .int .i64 g.2.2.1, .int .i64 g.2.2.2] := gP rfl
  have zg : (m'.push (.cells true #[.int .i64 g.1, .slice qw g.2.1.length cw, .int .i64 g.2.2.1, .int .i64 g.2.2.2])).size = m'.size + 1 := by simp
  generalize m'.push (.cells true #[.int .i64 g.1, .slice qw g.2.1.length cw, .int .i64 g.2.2.1, .int .i64 g.2.2.2]) = M5 at *
  refine sN ?_
  refine cDrawH (hs := [(1, 7), (1, 13), (3, 7), (8, 0), (10, 0)]) rfl (by decide) ?_
  refine lStepO (sFA F30_2 rfl (sNil fun e0 hm0 => ?_))
  refine lStepLd (v := .slice qv (Gs.take i).length cv) A28 rfl (eg.cells gc) rfl fun e1 hm1 hv1 hr1 => ?_
  refine lStepO (sFA F49_0 rfl (sNil fun e2 hm2 => ?_))
  refine lStepLd (v := .int .i64 g.1) A3 rfl gg rfl fun e3 hm3 hv3 hr3 => ?_
  refine lStepO (sFA F49_1 rfl (sNil fun e4 hm4 => ?_))
  refine lStepLd (v := .slice qw g.2.1.length cw) A22 rfl gg rfl fun e5 hm5 hv5 hr5 => ?_
  obtain ⟨v24, m24, h24, o24, e24⟩ := spec_Clone (hws.ext eg) (by omega)
  obtain ⟨q24, c24, rfl⟩ := o24.ints.len
  refine lStepO (sCall1 rfl call15 rfl h24 (sNil fun e6 hm6 => ?_))
  have z24 := e24.1
  have gg24 := e24.cells gg
  refine lStepO (sFA F49_2 rfl (sNil fun e7 hm7 => ?_))
  refine lStepLd (v := .int .i64 g.2.2.1) A3 rfl gg24 rfl fun e8 hm8 hv8 hr8 => ?_
  refine lStepO (sFA F49_3 rfl (sNil fun e9 hm9 => ?_))
  refine lStepLd (v := .int .i64 g.2.2.2) A3 rfl gg24 rfl fun e10 hm10 hv10 hr10 => ?_
  refine lStepO (sBuild B49I (sNil fun e11 hm11 => ?_))
  refine lStepO (sBuildS T28 S49 Z49 (by decide) (by decide) (by decide) (by kernel_rfl) fillA4I rfl (sNil fun e12 hm12 => ?_))
  refine lStepO (sAppC El55 rfl rfl (N := m2.size) (n := (Gs.take i).length) (cs := cs') (((hO.ext eg).ext e24).1.ext (.push _ _)) (gP rfl) rfl (by kernel_rfl) (by simp; omega) (by omega) fun v' m4 hO4 hL4 hG4 => (sNil fun e13 hm13 => ?_))
  have hgr := (((hO.ext eg).ext e24).ext (.push _ _)).grew (s := .slice q24 g.2.1.length c24) (g := g) ((o24.mono (by omega)).ext (.push _ _)) (fun c hc e => by
   have h1 := (o24.lt hc).1
   have h2 := (hO.1.lt e).2
   omega) hG4 hO4
  obtain ⟨q4, cp4, rfl⟩ := hO4.len
  have z4 := hL4.1
  simp only [Array.size_push] at z4
  have gc4 := hL4.cells (show m1.size < m2.size by omega) ((gPn (by omega)).trans ((eg.trans e24).cells gc))
  refine lStepO (sFA F30_2 rfl (sNil fun e14 hm14 => ?_))
  refine lStepO (sSt (v := .slice _ _ _) S28 rfl rfl gc4 (by simp) rfl rfl (sNil fun e15 hm15 => ?_))
  refine ⟨?_, (kBlkN (kSeqN ?_))⟩
  ·
   refine obl_atE (e := e1) (e' := e7) (by simp) (by rfl) (by simp) ((hr1 e7.m _ _ (by rw [hm7]; exact (eg.trans e24).cells gc) (by rfl)).trans (congrArg some hv1.symm)) ?_
   refine obl_atE (e := e1) (e' := e13) (by simp) (by rfl) (by simp) ((hr1 e13.m _ _ (by rw [hm13, gPn (by omega)]; exact (eg.trans e24).cells gc) (by rfl)).trans (congrArg some hv1.symm)) ?_
   refine obl_atE (e := e3) (e' := e7) (by simp) (by rfl) (by simp) ((hr3 e7.m _ _ (by rw [hm7]; exact gg24) (by rfl)).trans (congrArg some hv3.symm)) ?_
   refine obl_atE (e := e8) (e' := e0) (by simp) (by rfl) (by simp) ((hr8 e0.m _ _ (by rw [hm0]; exact gg) (by rfl)).trans (congrArg some hv8.symm)) ?_
   refine obl_atE (e := e10) (e' := e0) (by simp) (by rfl) (by simp) ((hr10 e0.m _ _ (by rw [hm0]; exact gg) (by rfl)).trans (congrArg some hv10.symm)) ?_
   trivial
  refine cRegion ?_
  refine sBin rfl rfl (aInt_add (b := 1) (by omega)) ?_
  refine sMv (v := nv _) rfl ?_
  refine sN ?_
  refine ⟨_, ?_, i + 1, _, cs' ++ #[.int .i64 g.1, .slice q24 g.2.1.length c24, .int .i64 g.2.2.1, .int .i64 g.2.2.2], rfl, by omega, by simp; omega, fun c h1 h2 => ?_, gS rfl (live gc4), ?_, rfl, rfl, rfl, rfl, rfl, trivial⟩
  ·omega
  ·rw [gSn (by omega), hL4.2 c h1, gPn (by omega), (eg.trans e24).2 c (by omega)]; exact hk c h1 h2
  ·rw [List.take_add_one, hgi]
   exact hgr.only (.set m1.size m4 _) (by omega)
 ·
  obtain rfl : i = Gs.length := by omega
  rw [List.take_length] at hO
  have htl : (Gs.take Gs.length).length = Gs.length := by rw [List.take_length]
  refine cExit (kSeqE (kSeqE (kBlkS (kSeqN ?_))))
  refine cSR ?_
  refine sLdAll A30 S30 rfl gc rfl ?_
  refine sStAll S30 rfl rfl ((hk m0.size (by omega) (by omega)).trans gr2) rfl rfl (by kernel_rfl) ?_
  refine sN ?_
  refine cRet ?_
  refine ⟨.inr rfl, _, resRs_agg A30 S30 rfl (gS rfl (by omega)) rfl, _, cs', rfl, ?_, hEm.set (by omega) _⟩
  have := (hO.only (.set m0.size m' (.cells true #[.int .i64 n, .int .i64 b, .slice qv (Gs.take Gs.length).length cv])) (by omega)).mono (N' := m.size) (by omega)
  rw [htl] at this ⊢
  exact this
theorem GsAt.gates {m : Mem} {v : Value} {Gs : List GateV} (h : GsAt m v Gs) : GatesAt m v Gs := by
 rcases h with ⟨rfl, h⟩ | ⟨b, cap, r, c, h1, h2, h3⟩
 ·exact .inl ⟨rfl, h⟩
 ·refine .inr ⟨b, cap, r, c, h1, h2, fun i g hi => ?_⟩
  obtain ⟨s, e1, e2, e3, _⟩ := h3 i g hi
  rw [Nat.zero_add] at e2
  exact ⟨⟨s, e2, e3⟩, e1⟩
theorem okf20k : okF Tryd.prog H0 20 24 = true := by kernel_rfl
theorem spec_kSameK {m : Mem} {a b : Value} {W B W' B' : Int} {l r : List GateV} (ha : GsAt m a l) (hb : GsAt m b r) (hl : l.length < 4611686018427387904) (hw : ∀ g ∈ l, g.2.1.length < 4611686018427387904) : ∃ v m', ACalls Tryd.prog 20 #[.agg #[.int .i64 W, .int .i64 B, a], .agg #[.int .i64 W', .int .i64 B', b]] m v m' ∧ (v = .bool (decide (W = W' ∧ B = B' ∧ l = r)) ∧ Ext m m') := by
 obtain ⟨q1, c1, rfl⟩ := ha.len
 obtain ⟨q2, c2, rfl⟩ := hb.len
 refine wpF (args := [_, _]) mixed okf20k (fn := Tryd.f20) rfl rfl rfl (by simp) ?_
 refine cSR ?_
 refine sBox (v := .agg _) rfl ?_
 refine sBoxB (bl := m.size + 1) (v := .agg _) (by simp) rfl ?_
 change wpOps _ _ _ _ _ ((m.push (.cells true #[.int .i64 W, .int .i64 B, .slice q1 l.length c1])).push (.cells true #[.int .i64 W', .int .i64 B', .slice q2 r.length c2]))
 have hE : Ext m ((m.push (.cells true #[.int .i64 W, .int .i64 B, .slice q1 l.length c1])).push (.cells true #[.int .i64 W', .int .i64 B', .slice q2 r.length c2])) := (Ext.push _ _).trans (.push _ _)
 have g1 : Mem.get ((m.push (.cells true #[.int .i64 W, .int .i64 B, .slice q1 l.length c1])).push (.cells true #[.int .i64 W', .int .i64 B', .slice q2 r.length c2])) m.size = .cells true #[.int .i64 W, .int .i64 B, .slice q1 l.length c1] := by rw [gPn (by simp), gP rfl]
 have g2 : Mem.get ((m.push (.cells true #[.int .i64 W, .int .i64 B, .slice q1 l.length c1])).push (.cells true #[.int .i64 W', .int .i64 B', .slice q2 r.length c2])) (m.size + 1) = .cells true #[.int .i64 W', .int .i64 B', .slice q2 r.length c2] := gP (by simp)
 generalize ((m.push (.cells true #[.int .i64 W, .int .i64 B, .slice q1 l.length c1])).push (.cells true #[.int .i64 W', .int .i64 B', .slice q2 r.length c2])) = M at *
 obtain ⟨v22, m22, h22, rfl, e22⟩ := spec_EqualG ((GsAt.gates ha).ext hE) ((GsAt.gates hb).ext hE) hl hw
 refine sAs (v := .bool _) rfl ?_
 refine sN ?_
 refine cSR ?_
 refine sFA F30_0 rfl ?_
 refine sLd (v := .int .i64 W) A3 rfl g1 rfl ?_
 refine sFA F30_0 rfl ?_
 refine sLd (v := .int .i64 W') A3 rfl g2 rfl ?_
 refine sBinI (v := .bool (decide (W = W'))) rfl rfl aInt_eqlI ?_
 refine sMv (v := .bool _) rfl ?_
 by_cases e1 : W = W'
 ·
  rw [decide_eq_true e1]
  refine sG rfl rfl ?_
  refine sFA F30_1 rfl ?_
  refine sG rfl rfl ?_
  refine sLd (v := .int .i64 B) A3 rfl g1 rfl ?_
  refine sG rfl rfl ?_
  refine sFA F30_1 rfl ?_
  refine sG rfl rfl ?_
  refine sLd (v := .int .i64 B') A3 rfl g2 rfl ?_
  refine sG rfl rfl ?_
  refine sBinI (v := .bool (decide (B = B'))) rfl rfl aInt_eqlI ?_
  refine sP (v := .bool _) rfl ?_
  refine sMv (v := .bool _) rfl ?_
  by_cases e2 : B = B'
  ·
   rw [decide_eq_true e2]
   refine sG rfl rfl ?_
   refine sFA F30_2 rfl ?_
   refine sG rfl rfl ?_
   refine sLd (v := .slice q1 l.length c1) A28 rfl g1 rfl ?_
   refine sG rfl rfl ?_
   refine sFA F30_2 rfl ?_
   refine sG rfl rfl ?_
   refine sLd (v := .slice q2 r.length c2) A28 rfl g2 rfl ?_
   refine sG rfl rfl ?_
   refine sCall3 rfl call83 rfl rfl rfl h22 ?_
   refine sP (v := .bool _) rfl ?_
   refine sAs (v := .bool _) rfl ?_
   refine sN ?_
   refine cRet ?_
   refine ⟨.inr rfl, _, rfl, congrArg Value.bool (decide_eq_decide.2 ?_), hE.trans e22⟩
   exact ⟨fun h => ⟨e1, e2, h⟩, fun h => h.2.2⟩
  ·
   rw [decide_eq_false e2]
   refine sGF rfl rfl ?_
   refine sGF rfl rfl ?_
   refine sGF rfl rfl ?_
   refine sGF rfl rfl ?_
   refine sGF rfl rfl ?_
   refine sP (v := .bool _) rfl ?_
   refine sAs (v := .bool _) rfl ?_
   refine sN ?_
   refine cRet ?_
   exact ⟨.inr rfl, _, rfl, congrArg Value.bool (decide_eq_false fun h => e2 h.2.1).symm, hE⟩
 ·
  rw [decide_eq_false e1]
  refine sGF rfl rfl ?_
  refine sGF rfl rfl ?_
  refine sGF rfl rfl ?_
  refine sGF rfl rfl ?_
  refine sGF rfl rfl ?_
  refine sP (v := .bool _) rfl ?_
  refine sMv (v := .bool _) rfl ?_
  refine sGF rfl rfl ?_
  refine sGF rfl rfl ?_
  refine sGF rfl rfl ?_
  refine sGF rfl rfl ?_
  refine sGF rfl rfl ?_
  refine sP (v := .bool _) rfl ?_
  refine sAs (v := .bool _) rfl ?_
  refine sN ?_
  refine cRet ?_
  exact ⟨.inr rfl, _, rfl, congrArg Value.bool (decide_eq_false fun h => e1 h.1).symm, hE⟩
end Go.AM

/-! R67 -/
namespace Go.AM
open Go.Proofs
theorem tabL_len (n b : Int) (Gs : List GateV) : (tabL n b Gs).length ≤ 4096 := by
 unfold tabL
 split
 ·rename_i h0
  obtain ⟨n', b', Gs', rfl, rfl, rfl, hc⟩ := circ8_nat h0
  have h := pow10 hc.ten
  simpa [rtabS] using h
 ·simp
theorem eqlN (k : Nat) : aInt .eql .i64 (Int.ofNat k) (Int.ofNat k) = some (.bool true) := eqlT rfl
def H6L : Nat → List (Nat × Nat) := fun id => if id = 10 then [(2, 0), (36, 4), (36, 39), (36, 44), (36, 47), (37, 4), (37, 39), (37, 44), (37, 47), (41, 4), (41, 19), (41, 44), (41, 47), (42, 4), (42, 19), (42, 44), (42, 47)] else if id = 3 then [(999999, 0), (2, 0)] else []
theorem okf6 : okF Tryd.prog H6L 6 114 = true := by kernel_rfl
theorem spec_DoesLaw {m : Mem} {s s2 : Value} {n b n2 b2 x : Int} {Gs Gs2 : List GateV} (hK : GlobK m) (hW : GlobW m) (hG : GsAt m s Gs) (hG2 : GsAt m s2 Gs2) : ∃ v' m', ACalls Tryd.prog 6 #[.agg #[.int .i64 n, .int .i64 b, s], .agg #[.int .i64 n2, .int .i64 b2, s2], .int .i64 x] m v' m' ∧ (v' = .bool true ∧ Ext m m') := by
 obtain ⟨q, cap, rfl⟩ := hG.len
 obtain ⟨q2, cap2, rfl⟩ := hG2.len
 refine wpF (args := [_, _, _]) mixed okf6 (fn := Tryd.f6) rfl rfl rfl (by simp) ?_
 refine cSR ?_
 refine sBox (v := .agg _) rfl ?_
 refine sBoxB (bl := m.size + 1) (v := .agg _) (by simp) rfl ?_
 change wpOps _ _ _ _ _ ((m.push (.cells true #[.int .i64 n, .int .i64 b, .slice q Gs.length cap])).push (.cells true #[.int .i64 n2, .int .i64 b2, .slice q2 Gs2.length cap2]))
 have x1 : Ext m ((m.push (.cells true #[.int .i64 n, .int .i64 b, .slice q Gs.length cap])).push (.cells true #[.int .i64 n2, .int .i64 b2, .slice q2 Gs2.length cap2])) := (Ext.push _ _).trans (.push _ _)
 have g3 : Mem.get ((m.push (.cells true #[.int .i64 n, .int .i64 b, .slice q Gs.length cap])).push (.cells true #[.int .i64 n2, .int .i64 b2, .slice q2 Gs2.length cap2])) m.size = .cells true #[.int .i64 n, .int .i64 b, .slice q Gs.length cap] := by rw [gPn (by simp), gP rfl]
 have g4 : Mem.get ((m.push (.cells true #[.int .i64 n, .int .i64 b, .slice q Gs.length cap])).push (.cells true #[.int .i64 n2, .int .i64 b2, .slice q2 Gs2.length cap2])) (m.size + 1) = .cells true #[.int .i64 n2, .int .i64 b2, .slice q2 Gs2.length cap2] := gP (by simp)
 generalize ((m.push (.cells true #[.int .i64 n, .int .i64 b, .slice q Gs.length cap])).push (.cells true #[.int .i64 n2, .int .i64 b2, .slice q2 Gs2.length cap2])) = m1 at *
 refine sAs (v := .bool _) rfl ?_
 refine sN ?_
 refine cSeq ?_
 refine cCut (fun ρ M => Ext m1 M ∧ Has ρ [(2, .int .i64 x), (3, .pointer (some ⟨m.size, 0, none⟩)), (4, .pointer (some ⟨m.size + 1, 0, none⟩)), (26, .bool (decide (greatC Gs = true ∨ greatC Gs2 = true)))]) ?_ ?_
 ·
  refine cRegion ?_
  refine sLdAll A30 S30 rfl g3 rfl ?_
  obtain ⟨v22, m22, h22, rfl, e22⟩ := spec_GreatC (n := n) (b := b) (hG.ext x1)
  refine sCall1 rfl call37 rfl h22 ?_
  refine sMv (v := .bool (greatC Gs)) rfl ?_
  by_cases q1 : greatC Gs = true
  ·
   rw [q1]
   refine sGT rfl rfl ?_
   refine sGT rfl rfl ?_
   refine sP (v := .bool _) rfl ?_
   refine sN ?_
   exact ⟨e22, rfl, rfl, rfl, by show Value.bool true = Value.bool _; simp, trivial⟩
  ·
   rw [Bool.eq_false_iff.2 q1]
   refine sG rfl rfl ?_
   refine sLdAll A30 S30 rfl (e22.cells g4) rfl ?_
   refine sG rfl rfl ?_
   obtain ⟨v25, m25, h25, rfl, e25⟩ := spec_GreatC (n := n2) (b := b2) ((hG2.ext x1).ext e22)
   refine sCall1 rfl call37 rfl h25 ?_
   refine sP (v := .bool _) rfl ?_
   refine sN ?_
   exact ⟨e22.trans e25, rfl, rfl, rfl, by show Value.bool (greatC Gs2) = Value.bool _; simp, trivial⟩
 rintro ρ M ⟨xM, hh⟩
 rw [hh.env]; clear hh
 replace g3 := xM.cells g3
 replace g4 := xM.cells g4
 replace x1 := x1.trans xM
 refine cCond (p := greatC Gs = true ∨ greatC Gs2 = true) rfl (fun c0 => ?_) (fun c0 => ?_)
 ·
  refine cSR ?_
  obtain ⟨v27, m27, h27, rfl, e27⟩ := spec_awake (hK.ext x1).toC (hW.ext x1)
  refine sCall0 rfl call14 h27 ?_
  refine sAs (v := .bool _) rfl ?_
  refine sN ?_
  refine cRet (kSeqR ?_)
  exact ⟨.inr rfl, _, rfl, rfl, x1.trans e27⟩
 ·
  obtain ⟨hl1, hw1⟩ := greatC_no (fun h => c0 (.inl h))
  obtain ⟨hl2, hw2⟩ := greatC_no (fun h => c0 (.inr h))
  clear c0
  have eqs := x1
  clear x1
  refine cSkip (kSeqN ?_)
  refine cSeq ?_
  refine cDrawH (hs := [(999999, 0), (2, 0)]) rfl (by decide) ?_
  refine lStepLdA A30 S30 rfl g3 rfl fun e0 hm0 hv0 hr0 => ?_
  obtain ⟨v29, m29, h29, sa, csa, rfl, oa, x29⟩ := spec_OwnK (n := n) (b := b) (hG.ext eqs) (by omega) (fun g hg => by have := hw1 g hg; omega)
  refine lStepO (sCall1 rfl call38 rfl h29 (sNil fun e1 hm1 => ?_))
  refine lStepLdA A30 S30 rfl (x29.cells g4) rfl fun e2 hm2 hv2 hr2 => ?_
  obtain ⟨v31, m31, h31, sb, csb, rfl, ob, x31⟩ := spec_OwnK (n := n2) (b := b2) ((hG2.ext eqs).ext x29) (by omega) (fun g hg => by have := hw2 g hg; omega)
  refine lStepO (sCall1 rfl call38 rfl h31 (sNil fun e3 hm3 => ?_))
  obtain ⟨qa, ca, rfl⟩ := oa.1.len
  obtain ⟨qb, cb, rfl⟩ := ob.1.len
  refine lStepO (sAllocB (bl := m31.size) rfl Z30 (by kernel_rfl) (sNil fun e4 hm4 => ?_))
  refine lStepO (sAllocB (bl := m31.size + 1) (by simp) Z30 (by kernel_rfl) (sNil fun e5 hm5 => ?_))
  change wpLog _ _ _ _ _ _ ((m31.push (.cells true #[nv 0, nv 0, .slice none 0 0])).push (.cells true #[nv 0, nv 0, .slice none 0 0]))
  have xp : Ext m31 ((m31.push (.cells true #[nv 0, nv 0, .slice none 0 0])).push (.cells true #[nv 0, nv 0, .slice none 0 0])) := (Ext.push _ _).trans (.push _ _)
  have gp7 : Mem.get ((m31.push (.cells true #[nv 0, nv 0, .slice none 0 0])).push (.cells true #[nv 0, nv 0, .slice none 0 0])) m31.size = .cells true #[nv 0, nv 0, .slice none 0 0] := by rw [gPn (by simp), gP rfl]
  have gp8 : Mem.get ((m31.push (.cells true #[nv 0, nv 0, .slice none 0 0])).push (.cells true #[nv 0, nv 0, .slice none 0 0])) (m31.size + 1) = .cells true #[nv 0, nv 0, .slice none 0 0] := gP (by simp)
  have zp : ((m31.push (.cells true #[nv 0, nv 0, .slice none 0 0])).push (.cells true #[nv 0, nv 0, .slice none 0 0])).size = m31.size + 2 := by simp
  generalize ((m31.push (.cells true #[nv 0, nv 0, .slice none 0 0])).push (.cells true #[nv 0, nv 0, .slice none 0 0])) = mp at *
  refine lStepO (sStAll S30 rfl rfl gp7 rfl rfl (by kernel_rfl) (sNil fun e6 hm6 => ?_))
  refine lStepO (sStAll S30 rfl rfl ((gSn (by omega)).trans gp8) rfl rfl (by kernel_rfl) (sNil fun e7 hm7 => ?_))
  refine ⟨?_, (kSeqN ?_)⟩
  ·
   refine obl_fl (by simp) ?_
   refine obl_atE (e := e2) (e' := e0) (by simp) (by rfl) (by simp) ((hr2 e0.m _ (by rw [hm0]; exact g4)).trans (congrArg some hv2.symm)) ?_
   trivial
  refine cSR ?_
  have xq : Ext m31 ((mp.setIfInBounds m31.size (.cells true #[.int .i64 n, .int .i64 b, .slice qa Gs.length ca])).setIfInBounds (m31.size + 1) (.cells true #[.int .i64 n2, .int .i64 b2, .slice qb Gs2.length cb])) := (xp.set (by omega) _).set (by omega) _
  have g7 : Mem.get ((mp.setIfInBounds m31.size (.cells true #[.int .i64 n, .int .i64 b, .slice qa Gs.length ca])).setIfInBounds (m31.size + 1) (.cells true #[.int .i64 n2, .int .i64 b2, .slice qb Gs2.length cb])) m31.size = .cells true #[.int .i64 n, .int .i64 b, .slice qa Gs.length ca] := (gSn (by omega)).trans (gS rfl (by omega))
  have g8 : Mem.get ((mp.setIfInBounds m31.size (.cells true #[.int .i64 n, .int .i64 b, .slice qa Gs.length ca])).setIfInBounds (m31.size + 1) (.cells true #[.int .i64 n2, .int .i64 b2, .slice qb Gs2.length cb])) (m31.size + 1) = .cells true #[.int .i64 n2, .int .i64 b2, .slice qb Gs2.length cb] := gS rfl (by simp; omega)
  have xM := (x29.trans x31).trans xq
  replace eqs := eqs.trans xM
  replace g3 := xM.cells g3
  replace g4 := xM.cells g4
  have ga := (oa.ext (x31.trans xq)).gs
  have gb := (ob.ext xq).gs
  clear oa ob gp7 gp8 xp zp xM x29 x31 h29 h31
  change wpOps _ _ _ _ _ ((mp.setIfInBounds m31.size (.cells true #[.int .i64 n, .int .i64 b, .slice qa Gs.length ca])).setIfInBounds (m31.size + 1) (.cells true #[.int .i64 n2, .int .i64 b2, .slice qb Gs2.length cb]))
  generalize ((mp.setIfInBounds m31.size (.cells true #[.int .i64 n, .int .i64 b, .slice qa Gs.length ca])).setIfInBounds (m31.size + 1) (.cells true #[.int .i64 n2, .int .i64 b2, .slice qb Gs2.length cb])) = M at *
  clear xq
  refine sLdAll A30 S30 rfl g7 rfl ?_
  refine sMv (v := .int .i64 x) rfl ?_
  obtain ⟨v35, m35, h35, rfl, x35⟩ := spec_ApplyK (n := n) (b := b) (x := x) (hK.ext eqs) ga
  refine sCall2 rfl call39 rfl rfl h35 ?_
  replace eqs := eqs.trans x35
  replace g3 := x35.cells g3
  replace g4 := x35.cells g4
  replace g7 := x35.cells g7
  replace g8 := x35.cells g8
  replace ga := ga.ext x35
  replace gb := gb.ext x35
  refine sMv (v := .tuple _) rfl ?_
  refine sP (v := nv _) rfl ?_
  refine sP (v := nv _) rfl ?_
  refine sAs (v := nv _) rfl ?_
  refine sAs (v := nv _) rfl ?_
  refine sN ?_
  refine cSR ?_
  refine sLdAll A30 S30 rfl g3 rfl ?_
  refine sMv (v := .int .i64 x) rfl ?_
  obtain ⟨v41, m41, h41, rfl, x41⟩ := spec_rApplyK (n := n) (b := b) (x := x) (hG.ext eqs)
  refine sCall2 rfl call40 rfl rfl h41 ?_
  replace eqs := eqs.trans x41
  replace g3 := x41.cells g3
  replace g4 := x41.cells g4
  replace g7 := x41.cells g7
  replace g8 := x41.cells g8
  replace ga := ga.ext x41
  replace gb := gb.ext x41
  refine sMv (v := .tuple _) rfl ?_
  refine sP (v := nv _) rfl ?_
  refine sP (v := nv _) rfl ?_
  refine sAs (v := nv _) rfl ?_
  refine sAs (v := nv _) rfl ?_
  refine sN ?_
  refine cSR ?_
  refine sLdAll A30 S30 rfl g7 rfl ?_
  obtain ⟨v46, m46, h46, w46, rfl, o46, x46⟩ := spec_TableK (n := n) (b := b) (hK.ext eqs) ga
  obtain ⟨q46, c46, rfl⟩ := o46.ints.lenN
  refine sCall1 rfl call41 rfl h46 ?_
  replace eqs := eqs.trans x46
  replace g3 := x46.cells g3
  replace g4 := x46.cells g4
  replace g7 := x46.cells g7
  replace g8 := x46.cells g8
  replace ga := ga.ext x46
  replace gb := gb.ext x46
  have i46 := o46.ints
  refine sMv (v := .tuple _) rfl ?_
  refine sP (v := .slice _ _ _) rfl ?_
  refine sP (v := nv _) rfl ?_
  refine sAs (v := .slice _ _ _) rfl ?_
  refine sAs (v := nv _) rfl ?_
  refine sN ?_
  refine cSR ?_
  refine sLdAll A30 S30 rfl g3 rfl ?_
  obtain ⟨v51, m51, h51, w51, rfl, o51, x51⟩ := spec_rTableK (n := n) (b := b) (hG.ext eqs)
  obtain ⟨q51, c51, rfl⟩ := o51.ints.lenN
  refine sCall1 rfl call42 rfl h51 ?_
  replace eqs := eqs.trans x51
  replace g3 := x51.cells g3
  replace g4 := x51.cells g4
  replace g7 := x51.cells g7
  replace g8 := x51.cells g8
  replace ga := ga.ext x51
  replace gb := gb.ext x51
  replace i46 := i46.ext x51
  have i51 := o51.ints
  refine sMv (v := .tuple _) rfl ?_
  refine sP (v := .slice _ _ _) rfl ?_
  refine sP (v := nv _) rfl ?_
  refine sAs (v := .slice _ _ _) rfl ?_
  refine sAs (v := nv _) rfl ?_
  refine sN ?_
  refine cSR ?_
  refine sLdAll A30 S30 rfl g7 rfl ?_
  refine sLdAll A30 S30 rfl g8 rfl ?_
  obtain ⟨v57, m57, h57, rfl, x57⟩ := spec_SameK (n := n) (b := b) (n2 := n2) (b2 := b2) (hK.ext eqs) ga gb
  refine sCall2 rfl call43 rfl rfl h57 ?_
  replace eqs := eqs.trans x57
  replace g3 := x57.cells g3
  replace g4 := x57.cells g4
  replace g7 := x57.cells g7
  replace g8 := x57.cells g8
  replace ga := ga.ext x57
  replace gb := gb.ext x57
  replace i46 := i46.ext x57
  replace i51 := i51.ext x57
  refine sMv (v := .tuple _) rfl ?_
  refine sP (v := .bool _) rfl ?_
  refine sP (v := nv _) rfl ?_
  refine sAs (v := .bool _) rfl ?_
  refine sAs (v := nv _) rfl ?_
  refine sN ?_
  refine cSR ?_
  refine sLdAll A30 S30 rfl g3 rfl ?_
  refine sLdAll A30 S30 rfl g4 rfl ?_
  obtain ⟨v63, m63, h63, rfl, x63⟩ := spec_rSameK (n := n) (b := b) (n2 := n2) (b2 := b2) (hG.ext eqs) (hG2.ext eqs)
  refine sCall2 rfl call44 rfl rfl h63 ?_
  replace eqs := eqs.trans x63
  replace g3 := x63.cells g3
  replace g4 := x63.cells g4
  replace g7 := x63.cells g7
  replace g8 := x63.cells g8
  replace ga := ga.ext x63
  replace gb := gb.ext x63
  replace i46 := i46.ext x63
  replace i51 := i51.ext x63
  refine sMv (v := .tuple _) rfl ?_
  refine sP (v := .bool _) rfl ?_
  refine sP (v := nv _) rfl ?_
  refine sAs (v := .bool _) rfl ?_
  refine sAs (v := nv _) rfl ?_
  refine sN ?_
  refine cSeq ?_
  refine cDrawH (hs := [(2, 0), (36, 4), (36, 39), (36, 44), (36, 47), (37, 4), (37, 39), (37, 44), (37, 47), (41, 4), (41, 19), (41, 44), (41, 47), (42, 4), (42, 19), (42, 44), (42, 47)]) rfl (by decide) ?_
  refine lStepLdA A30 S30 rfl g7 rfl fun e0 hm0 hv0 hr0 => ?_
  obtain ⟨v67, m67, h67, rfl, e67⟩ := spec_Check8I (n := n) (b := b) (hK.ext eqs) ga
  refine lStepO (sCall1 rfl call45 rfl h67 (sNil fun e1 hm1 => ?_))
  refine lStepLdA A30 S30 rfl (e67.cells g3) rfl fun e2 hm2 hv2 hr2 => ?_
  obtain ⟨v69, m69, h69, rfl, e69⟩ := spec_rCheck8I (n := n) (b := b) ((hG.ext eqs).ext e67)
  refine lStepO (sCall1 rfl call31 rfl h69 (sNil fun e3 hm3 => ?_))
  have k69 := e67.trans e69
  refine lStepO (sBin (v := .bool true) (a := circ8E n b Gs) (b := circ8E n b Gs) rfl rfl (eqlN _) (sNil fun e4 hm4 => ?_))
  refine lStepO (sMv (v := .bool true) rfl (sNil fun e5 hm5 => ?_))
  refine lG rfl rfl ?_
  refine lStepO (sMv (v := nv _) rfl (sNil fun e6 hm6 => ?_))
  refine lG rfl rfl ?_
  refine lStepO (sMv (v := nv _) rfl (sNil fun e7 hm7 => ?_))
  refine lG rfl rfl ?_
  refine lStepO (sBin (v := .bool true) (a := appV n b Gs x) (b := appV n b Gs x) rfl rfl (eqlN _) (sNil fun e8 hm8 => ?_))
  refine lStepO (sP (v := .bool true) rfl (sNil fun e9 hm9 => ?_))
  refine lStepO (sMv (v := .bool true) rfl (sNil fun e10 hm10 => ?_))
  refine lG rfl rfl ?_
  refine lStepO (sMv (v := nv _) rfl (sNil fun e11 hm11 => ?_))
  refine lG rfl rfl ?_
  refine lStepO (sMv (v := nv _) rfl (sNil fun e12 hm12 => ?_))
  refine lG rfl rfl ?_
  refine lStepO (sBin (v := .bool true) (a := appE n b Gs x) (b := appE n b Gs x) rfl rfl (eqlN _) (sNil fun e13 hm13 => ?_))
  refine lStepO (sP (v := .bool true) rfl (sNil fun e14 hm14 => ?_))
  refine lStepO (sMv (v := .bool true) rfl (sNil fun e15 hm15 => ?_))
  refine lG rfl rfl ?_
  refine lStepO (sMv (v := .slice _ _ _) rfl (sNil fun e16 hm16 => ?_))
  refine lG rfl rfl ?_
  refine lStepO (sMv (v := .slice _ _ _) rfl (sNil fun e17 hm17 => ?_))
  refine lG rfl rfl ?_
  have h84 := spec_Equal (i46.ext k69) (i51.ext k69) (by rw [ofs_length]; have := tabL_len n b Gs; omega)
  rw [decide_eq_true rfl] at h84
  refine lStepO (sCall2 rfl call28 rfl rfl h84 (sNil fun e18 hm18 => ?_))
  refine lStepO (sP (v := .bool true) rfl (sNil fun e19 hm19 => ?_))
  refine lStepO (sMv (v := .bool true) rfl (sNil fun e20 hm20 => ?_))
  refine lG rfl rfl ?_
  refine lStepO (sMv (v := nv _) rfl (sNil fun e21 hm21 => ?_))
  refine lG rfl rfl ?_
  refine lStepO (sMv (v := nv _) rfl (sNil fun e22 hm22 => ?_))
  refine lG rfl rfl ?_
  refine lStepO (sBin (v := .bool true) (a := circ8E n b Gs) (b := circ8E n b Gs) rfl rfl (eqlN _) (sNil fun e23 hm23 => ?_))
  refine lStepO (sP (v := .bool true) rfl (sNil fun e24 hm24 => ?_))
  refine lStepO (sMv (v := .bool true) rfl (sNil fun e25 hm25 => ?_))
  refine lG rfl rfl ?_
  refine lStepO (sMv (v := .bool _) rfl (sNil fun e26 hm26 => ?_))
  refine lG rfl rfl ?_
  refine lStepO (sMv (v := .bool _) rfl (sNil fun e27 hm27 => ?_))
  refine lG rfl rfl ?_
  refine lStepO (sP (v := .bool true) (eqlBool (sameB n b Gs n2 b2 Gs2)) (sNil fun e28 hm28 => ?_))
  refine lStepO (sP (v := .bool true) rfl (sNil fun e29 hm29 => ?_))
  refine lStepO (sMv (v := .bool true) rfl (sNil fun e30 hm30 => ?_))
  refine lG rfl rfl ?_
  refine lStepO (sMv (v := nv _) rfl (sNil fun e31 hm31 => ?_))
  refine lG rfl rfl ?_
  refine lStepO (sMv (v := nv _) rfl (sNil fun e32 hm32 => ?_))
  refine lG rfl rfl ?_
  refine lStepO (sBin (v := .bool true) (a := sameE n b Gs n2 b2 Gs2) (b := sameE n b Gs n2 b2 Gs2) rfl rfl (eqlN _) (sNil fun e33 hm33 => ?_))
  refine lStepO (sP (v := .bool true) rfl (sNil fun e34 hm34 => ?_))
  refine lStepO (sMv (v := .bool true) rfl (sNil fun e35 hm35 => ?_))
  refine lG rfl rfl ?_
  refine lStepLdA A30 S30 rfl (k69.cells g7) rfl fun e36 hm36 hv36 hr36 => ?_
  refine lG rfl rfl ?_
  refine lStepLdA A30 S30 rfl (k69.cells g3) rfl fun e37 hm37 hv37 hr37 => ?_
  refine lG rfl rfl ?_
  obtain ⟨v104, m104, h104, rfl, e104⟩ := spec_kSameK (W := n) (B := b) (W' := n) (B' := b) (ga.ext k69) ((hG.ext eqs).ext k69) (by omega) (fun g hg => by have := hw1 g hg; omega)
  rw [decide_eq_true ⟨rfl, rfl, rfl⟩] at h104
  refine lStepO (sCall2 rfl call20 rfl rfl h104 (sNil fun e38 hm38 => ?_))
  refine lStepO (sP (v := .bool true) rfl (sNil fun e39 hm39 => ?_))
  refine lStepO (sMv (v := .bool true) rfl (sNil fun e40 hm40 => ?_))
  refine lG rfl rfl ?_
  refine lStepLdA A30 S30 rfl ((k69.trans e104).cells g8) rfl fun e41 hm41 hv41 hr41 => ?_
  refine lG rfl rfl ?_
  refine lStepLdA A30 S30 rfl ((k69.trans e104).cells g4) rfl fun e42 hm42 hv42 hr42 => ?_
  refine lG rfl rfl ?_
  obtain ⟨v109, m109, h109, rfl, e109⟩ := spec_kSameK (W := n2) (B := b2) (W' := n2) (B' := b2) (gb.ext (k69.trans e104)) ((hG2.ext eqs).ext (k69.trans e104)) (by omega) (fun g hg => by have := hw2 g hg; omega)
  rw [decide_eq_true ⟨rfl, rfl, rfl⟩] at h109
  refine lStepO (sCall2 rfl call20 rfl rfl h109 (sNil fun e43 hm43 => ?_))
  refine lStepO (sP (v := .bool true) rfl (sNil fun e44 hm44 => ?_))
  refine lStepO (sMv (v := .bool true) rfl (sNil fun e45 hm45 => ?_))
  refine lG rfl rfl ?_
  have k109 := (k69.trans e104).trans e109
  obtain ⟨v112, m112, h112, rfl, e112⟩ := spec_awake ((hK.ext eqs).ext k109).toC ((hW.ext eqs).ext k109)
  refine lStepO (sCall0 rfl call14 h112 (sNil fun e46 hm46 => ?_))
  refine lStepO (sP (v := .bool true) rfl (sNil fun e47 hm47 => ?_))
  refine lStepO (sAs (v := .bool _) rfl (sNil fun e48 hm48 => ?_))
  refine ⟨?_, (kSeqN ?_)⟩
  ·
   refine obl_atE (e := e2) (e' := e0) (by simp) (by rfl) (by simp) ((hr2 e0.m _ (by rw [hm0]; exact (Ext.refl _).cells g3)).trans (congrArg some hv2.symm)) ?_
   refine obl_atE (e := e36) (e' := e4) (by simp) (by rfl) (by simp) ((hr36 e4.m _ (by rw [hm4]; exact ((e67.trans e69)).cells g7)).trans (congrArg some hv36.symm)) ?_
   refine obl_atE (e := e36) (e' := e39) (by simp) (by rfl) (by simp) ((hr36 e39.m _ (by rw [hm39]; exact (((e67.trans e69).trans e104)).cells g7)).trans (congrArg some hv36.symm)) ?_
   refine obl_atE (e := e36) (e' := e44) (by simp) (by rfl) (by simp) ((hr36 e44.m _ (by rw [hm44]; exact ((((e67.trans e69).trans e104).trans e109)).cells g7)).trans (congrArg some hv36.symm)) ?_
   refine obl_atE (e := e36) (e' := e47) (by simp) (by rfl) (by simp) ((hr36 e47.m _ (by rw [hm47]; exact (((((e67.trans e69).trans e104).trans e109).trans e112)).cells g7)).trans (congrArg some hv36.symm)) ?_
   refine obl_atE (e := e37) (e' := e4) (by simp) (by rfl) (by simp) ((hr37 e4.m _ (by rw [hm4]; exact ((e67.trans e69)).cells g3)).trans (congrArg some hv37.symm)) ?_
   refine obl_atE (e := e37) (e' := e39) (by simp) (by rfl) (by simp) ((hr37 e39.m _ (by rw [hm39]; exact (((e67.trans e69).trans e104)).cells g3)).trans (congrArg some hv37.symm)) ?_
   refine obl_atE (e := e37) (e' := e44) (by simp) (by rfl) (by simp) ((hr37 e44.m _ (by rw [hm44]; exact ((((e67.trans e69).trans e104).trans e109)).cells g3)).trans (congrArg some hv37.symm)) ?_
   refine obl_atE (e := e37) (e' := e47) (by simp) (by rfl) (by simp) ((hr37 e47.m _ (by rw [hm47]; exact (((((e67.trans e69).trans e104).trans e109).trans e112)).cells g3)).trans (congrArg some hv37.symm)) ?_
   refine obl_atE (e := e41) (e' := e4) (by simp) (by rfl) (by simp) ((hr41 e4.m _ (by rw [hm4]; exact ((e67.trans e69)).cells g8)).trans (congrArg some hv41.symm)) ?_
   refine obl_atE (e := e41) (e' := e19) (by simp) (by rfl) (by simp) ((hr41 e19.m _ (by rw [hm19]; exact ((e67.trans e69)).cells g8)).trans (congrArg some hv41.symm)) ?_
   refine obl_atE (e := e41) (e' := e44) (by simp) (by rfl) (by simp) ((hr41 e44.m _ (by rw [hm44]; exact ((((e67.trans e69).trans e104).trans e109)).cells g8)).trans (congrArg some hv41.symm)) ?_
   refine obl_atE (e := e41) (e' := e47) (by simp) (by rfl) (by simp) ((hr41 e47.m _ (by rw [hm47]; exact (((((e67.trans e69).trans e104).trans e109).trans e112)).cells g8)).trans (congrArg some hv41.symm)) ?_
   refine obl_atE (e := e42) (e' := e4) (by simp) (by rfl) (by simp) ((hr42 e4.m _ (by rw [hm4]; exact ((e67.trans e69)).cells g4)).trans (congrArg some hv42.symm)) ?_
   refine obl_atE (e := e42) (e' := e19) (by simp) (by rfl) (by simp) ((hr42 e19.m _ (by rw [hm19]; exact ((e67.trans e69)).cells g4)).trans (congrArg some hv42.symm)) ?_
   refine obl_atE (e := e42) (e' := e44) (by simp) (by rfl) (by simp) ((hr42 e44.m _ (by rw [hm44]; exact ((((e67.trans e69).trans e104).trans e109)).cells g4)).trans (congrArg some hv42.symm)) ?_
   refine obl_atE (e := e42) (e' := e47) (by simp) (by rfl) (by simp) ((hr42 e47.m _ (by rw [hm47]; exact (((((e67.trans e69).trans e104).trans e109).trans e112)).cells g4)).trans (congrArg some hv42.symm)) ?_
   trivial
  refine cRet ?_
  exact ⟨.inr rfl, _, rfl, rfl, (eqs.trans k109).trans e112⟩
end Go.AM

/-! F50 -/
namespace Go.AM
open Go.Proofs Go.Proofs.YtdokoekgdeebpaaDoor Go.ChangeShapes
theorem gSize : Tryd.prog.globals.size = 3 := by kernel_rfl
theorem u4 : Tryd.prog.underlying 4 = some .bool := by kernel_rfl
theorem var_block {P : Program} {w : World} {n : String} {g : Nat} {cs : Array Value} (hg : P.globalNamed n = some g) (h : w.var? P n = some cs) : ∃ t fz, w.heap[g]? = some (.cells cs t fz) := by
 simp only [World.var?, hg, Option.bind_some] at h
 split at h
 ·rename_i c t fz e
  injection h with h; subst h
  exact ⟨t, fz, e⟩
 ·cases h
theorem gCla : Tryd.prog.globalNamed "spoondrift/rev.classical" = some 1 := by kernel_rfl
theorem tCla : (Tryd.prog.globals[1]?).map (·.type) = some 129 := by kernel_rfl
theorem u3 : Tryd.prog.underlying 3 = some (.int .i64) := by kernel_rfl
theorem u98 : Tryd.prog.underlying 98 = some (.func #[3, 22] #[3] false) := by kernel_rfl
theorem u127 : Tryd.prog.underlying 127 = some (.struct #[{ name := "controls", type := 3, offset := 0, embedded := false, tag := "", pkgPath := "spoondrift/rev", byteOffset := 0 }, { name := "does", type := 98, offset := 1, embedded := false, tag := "", pkgPath := "spoondrift/rev", byteOffset := 8 }]) := by kernel_rfl
theorem u129 : Tryd.prog.underlying 129 = some (.map 3 127) := by kernel_rfl
theorem hc3 : Tryd.prog.cellsOf 3 = 1 := by kernel_rfl
theorem hc98 : Tryd.prog.cellsOf 98 = 1 := by kernel_rfl
theorem hc127 : Tryd.prog.cellsOf 127 = 2 := by kernel_rfl
def tokT : List UInt8 := [115, 112, 111, 111, 110, 100, 114, 105, 102, 116, 47, 114, 101, 118, 46, 116, 117, 114, 110, 101, 100]
def tokS : List UInt8 := [115, 112, 111, 111, 110, 100, 114, 105, 102, 116, 47, 114, 101, 118, 46, 115, 119, 97, 112, 112, 101, 100]
theorem oneT : ((List.range Tryd.prog.funcs.size).filter fun f => (Tryd.prog.funcs[f]?).any (·.name.toUTF8.data.toList == tokT)) = [76] := by kernel_rfl
theorem oneS : ((List.range Tryd.prog.funcs.size).filter fun f => (Tryd.prog.funcs[f]?).any (·.name.toUTF8.data.toList == tokS)) = [181] := by kernel_rfl
/-- A kind's entry: how many controls, what it does. -/
theorem entry_kind {w : World} {n : Nat} {c : Int} {q : FuncId} {tk : List UInt8} (ht : (tk = tokT ∧ q = 76) ∨ (tk = tokS ∧ q = 181)) {cs : List Value} {y : DataW (List UInt8) × List MemPlace}
  (h : DataW.trod (funcToken Tryd.prog) Tryd.prog w 0 (fun _ => true) true n 127 cs = some y) (hy : y.1 = .agg [.lit (.int .i64 c), .held tk]) : cs = [.int .i64 c, .func (.func q) #[] #[]] := by
 obtain ⟨xs, m, rfl, hx, hl, hn, hel⟩ := DataW.trod_struct u127 h
 have h0 := hel 0 _ rfl
 have h1 := hel 1 _ rfl
 rw [hx] at hy
 simp only [DataW.agg.injEq] at hy
 rw [hc127] at hl
 match cs, hl with
 | [a, b], _ =>
  match xs, hn, hy, h0, h1 with
  | [e0, e1], _, hy, h0, h1 =>
   simp only [List.map_cons, List.map_nil, List.cons.injEq, and_true] at hy
   have h2 : DataW.trod (funcToken Tryd.prog) Tryd.prog w 0 (fun _ => true) true m 3 [a] = some (.lit (.int .i64 c), e0.2) := by
    rw [← hy.1]; simpa [hc3] using h0
   have h3 : DataW.trod (funcToken Tryd.prog) Tryd.prog w 0 (fun _ => true) true m 98 [b] = some (.held tk, e1.2) := by
    rw [← hy.2]; simpa [hc98] using h1
   have hb : b = .func (.func q) #[] #[] := by
    rcases ht with ⟨rfl, rfl⟩ | ⟨rfl, rfl⟩
    ·exact func_of_trod u98 oneT h3
    ·exact func_of_trod u98 oneS h3
   subst hb
   cases m with
   | zero => simp [DataW.trod] at h2
   | succ m =>
    rw [DataW.trod_step] at h2
    unfold DataW.trodStep at h2
    rw [u3] at h2
    cases a <;> simp at h2
    simp_all
def claD : DataW Unit := .map [(.int .i64 1, .agg [.lit (.int .i64 0), .iface "func" (.lit (.string tokT))]), (.int .i64 9, .agg [.lit (.int .i64 1), .iface "func" (.lit (.string tokT))]), (.int .i64 11, .agg [.lit (.int .i64 0), .iface "func" (.lit (.string tokS))]), (.int .i64 12, .agg [.lit (.int .i64 2), .iface "func" (.lit (.string tokT))])]
/-- One of the table's entries. -/
def IsKind (k v : Value) : Prop := (k = .int .i64 1 ∧ v = .agg #[.int .i64 0, .func (.func 76) #[] #[]]) ∨ (k = .int .i64 9 ∧ v = .agg #[.int .i64 1, .func (.func 76) #[] #[]]) ∨ (k = .int .i64 11 ∧ v = .agg #[.int .i64 0, .func (.func 181) #[] #[]]) ∨ (k = .int .i64 12 ∧ v = .agg #[.int .i64 2, .func (.func 76) #[] #[]])
theorem mem_fold {x : Lit × DataW (List UInt8)} : ∀ {l : List (Lit × DataW (List UInt8))}, x ∈ l.foldr DataW.insert [] ↔ x ∈ l
 | [] => by simp
 | y :: l => by
  rw [List.foldr_cons, Go.ChangeMaps.mem_insert_iff, mem_fold, List.mem_cons]
theorem open_kinds {w : World} (h : funcsAt Tryd.prog w "spoondrift/rev.classical" claD) :
  ∃ c t fz b es clk, w.heap[1]? = some (.cells c t fz) ∧ c[0]? = some (.map (some b)) ∧ w.heap[b]? = some (.map es clk) ∧ (∀ x ∈ es.toList, IsKind x.key x.val) ∧ ∀ k, (k = 1 ∨ k = 9 ∨ k = 12 ∨ k = 11) → ∃ x ∈ es.toList, x.key = .int .i64 k := by
 obtain ⟨g, t, cs, fuel, p, hg, ht, hc, hd⟩ := h
 obtain rfl := Option.some.inj (gCla.symm.trans hg)
 obtain rfl := Option.some.inj (tCla.symm.trans ht)
 obtain ⟨ty, fz, hb0⟩ := var_block hg hc
 have hout : claD.funcsOut = .map [(.int .i64 1, .agg [.lit (.int .i64 0), .held tokT]), (.int .i64 9, .agg [.lit (.int .i64 1), .held tokT]), (.int .i64 11, .agg [.lit (.int .i64 0), .held tokS]), (.int .i64 12, .agg [.lit (.int .i64 2), .held tokT])] := by rfl
 rw [hout] at hd
 rcases Go.WideElems.open_map u129 hd with ⟨_, h2⟩ | ⟨b, es, clk, n, _, hcs, hb, _, F, hx⟩
 ·simp at h2
 simp only [Prod.mk.injEq, DataW.map.injEq] at hx
 have hx1 := hx.1
 have hmem : ∀ z, z ∈ es.toList.map (Go.WideElems.rg Tryd.prog 3 (Go.WideElems.elemAt (funcToken Tryd.prog) Tryd.prog w 0 (fun _ => true) true n 127)) ↔ z ∈ [((.int .i64 1 : Lit), (.agg [.lit (.int .i64 0), .held tokT] : DataW (List UInt8))), (.int .i64 9, .agg [.lit (.int .i64 1), .held tokT]), (.int .i64 11, .agg [.lit (.int .i64 0), .held tokS]), (.int .i64 12, .agg [.lit (.int .i64 2), .held tokT])] := fun z => by
  rw [hx1, mem_fold]
 have key : ∀ x ∈ es.toList, ∀ (k c : Int) (tk : List UInt8) (q : FuncId), ((tk = tokT ∧ q = 76) ∨ (tk = tokS ∧ q = 181)) → Go.WideElems.rg Tryd.prog 3 (Go.WideElems.elemAt (funcToken Tryd.prog) Tryd.prog w 0 (fun _ => true) true n 127) x = (.int .i64 k, .agg [.lit (.int .i64 c), .held tk]) → x.key = .int .i64 k ∧ x.val = .agg #[.int .i64 c, .func (.func q) #[] #[]] := by
  intro x hx k c tk q htk hr
  obtain ⟨y, hy⟩ := F.reads x hx
  rw [Go.WideElems.rg_of hy] at hr
  subst hr
  have h1 := Go.WideElems.rd_key hy
  obtain ⟨z, hz, h2⟩ := Go.WideElems.rd_val hy
  refine ⟨?_, ?_⟩
  ·simp only [keyOf, u3, mapKey] at h1
   split at h1 <;> simp_all
  ·simp only [Go.WideElems.elemAt] at hz
   split at hz
   ·rename_i hf
    have := entry_kind htk hz h2.symm
    cases hv : x.val with
    | agg cs2 =>
     rw [hv] at this
     have e : cs2.toList = [.int .i64 c, .func (.func q) #[] #[]] := this
     obtain ⟨l⟩ := cs2
     simp only at e
     subst e; rfl
    | _ => rw [hv] at hf; simp [Value.formed, u127] at hf
   ·cases hz
 have hcs0 : cs[0]? = some (.map (some b)) := by
  have := congrArg (·[0]?) hcs
  simpa using this
 refine ⟨cs, ty, fz, b, es, clk, hb0, hcs0, hb, fun x hx => ?_, fun k hk => ?_⟩
 ·have h1 := (hmem _).1 (List.mem_map.2 ⟨x, hx, rfl⟩)
  simp only [List.mem_cons, List.not_mem_nil, or_false] at h1
  rcases h1 with h1 | h1 | h1 | h1
  ·exact .inl (key x hx _ _ _ 76 (.inl ⟨rfl, rfl⟩) h1)
  ·exact .inr (.inl (key x hx _ _ _ 76 (.inl ⟨rfl, rfl⟩) h1))
  ·exact .inr (.inr (.inl (key x hx _ _ _ 181 (.inr ⟨rfl, rfl⟩) h1)))
  ·exact .inr (.inr (.inr (key x hx _ _ _ 76 (.inl ⟨rfl, rfl⟩) h1)))
 ·by_cases h11 : k = 11
  ·subst h11
   obtain ⟨x, hx, hr⟩ := List.mem_map.1 ((hmem (.int .i64 11, .agg [.lit (.int .i64 0), .held tokS])).2 (by simp))
   exact ⟨x, hx, (key x hx _ _ _ 181 (.inr ⟨rfl, rfl⟩) hr).1⟩
  replace hk : k = 1 ∨ k = 9 ∨ k = 12 := by omega
  have : ∃ c : Int, ((.int .i64 k : Lit), (.agg [.lit (.int .i64 c), .held tokT] : DataW (List UInt8))) ∈ [((.int .i64 1 : Lit), (.agg [.lit (.int .i64 0), .held tokT] : DataW (List UInt8))), (.int .i64 9, .agg [.lit (.int .i64 1), .held tokT]), (.int .i64 11, .agg [.lit (.int .i64 0), .held tokS]), (.int .i64 12, .agg [.lit (.int .i64 2), .held tokT])] := by
   rcases hk with rfl | rfl | rfl
   ·exact ⟨0, by simp⟩
   ·exact ⟨1, by simp⟩
   ·exact ⟨2, by simp⟩
  obtain ⟨c, hm⟩ := this
  obtain ⟨x, hx, hr⟩ := List.mem_map.1 ((hmem _).2 hm)
  exact ⟨x, hx, (key x hx _ _ _ 76 (.inl ⟨rfl, rfl⟩) hr).1⟩
theorem cla_data : (Rows.laid_spoondrift_rev_classical : DataW Unit) = .iface "func table" claD := by rfl
/-- An array of numbers that is read. -/
theorem open_nums {H : Type} {enc : TypeId × Value → H} {P : Program} {w : World} {sp : Nat → Bool} {held : Bool} {t e n fuel : Nat} {k : IntKind} {cs : List Value} {ds : List (DataW H)} {p : List MemPlace}
  (ht : P.underlying t = some (.array n e)) (he : P.underlying e = some (.int k)) (hc : P.cellsOf e = 1) (h : DataW.trod enc P w 0 sp held fuel t cs = some (.agg ds, p)) {i : Nat} {v : Int} (hi : ds[i]? = some (.lit (.int k v))) :
  cs[i]? = some (.int k v) := by
 obtain ⟨xs, m, rfl, hx, hl, hn, hel⟩ := DataW.trod_array ht h
 simp only [Prod.mk.injEq, DataW.agg.injEq] at hx
 obtain ⟨rfl, _⟩ := hx
 rw [List.getElem?_map, Option.map_eq_some_iff] at hi
 obtain ⟨y, hy, hy1⟩ := hi
 have hin : i < n := by rw [← hn]; exact (List.getElem?_eq_some_iff.1 hy).1
 have h0 := hel i hin
 rw [hy, hc, Nat.mul_one] at h0
 obtain ⟨q, e1, e2, _⟩ := DataW.trod_int he h0
 have e3 : q = v := by
  rw [e2] at hy1
  simpa using hy1
 subst e3
 have := congrArg (·[0]?) e1
 simpa [List.getElem?_take, List.getElem?_drop] using this
theorem gWan : Tryd.prog.globalNamed "spoondrift/rev.wants" = some 2 := by kernel_rfl
theorem tWan : (Tryd.prog.globals[2]?).map (·.type) = some 108 := by kernel_rfl
theorem u108 : Tryd.prog.underlying 108 = some (.array 8 3) := by kernel_rfl
def wanL : List Nat := [0, 0, 1, 2, 2, 2, 0, 0]
def laid1 : List (String × DataW Unit) := [("spoondrift/rev.classical", Rows.laid_spoondrift_rev_classical), ("spoondrift/rev.wants", Rows.laid_spoondrift_rev_wants)]
theorem wan_data : (Rows.laid_spoondrift_rev_wants : DataW Unit) = .agg (wanL.map fun x => .lit (.int .i64 (Int.ofNat x))) := by rfl
theorem of_laid0 {w : World} (h : laidMetH Tryd.prog laid1 w) : ∃ c t fz b es clk, w.heap[1]? = some (.cells c t fz) ∧ c[0]? = some (.map (some b)) ∧ w.heap[b]? = some (.map es clk) ∧ (∀ x ∈ es.toList, IsKind x.key x.val) ∧ ∀ k, (k = 1 ∨ k = 9 ∨ k = 12 ∨ k = 11) → ∃ x ∈ es.toList, x.key = .int .i64 k :=
 open_kinds (h.funcs (n := "spoondrift/rev.classical") (by rw [← cla_data]; simp [laid1]))
theorem of_laid {w : World} (h : laidMetH Tryd.prog laid1 w) : ∃ c t fz, w.heap[2]? = some (.cells c t fz) ∧ ∀ (i x : Nat), wanL[i]? = some x → c[i]? = some (Value.int .i64 (Int.ofNat x)) := by
 have h1 : laidMet Tryd.prog [("spoondrift/rev.wants", Rows.laid_spoondrift_rev_wants)] w := by
  have e1 : laid1.filter (fun x => x.2.handleName?.isSome) = [("spoondrift/rev.classical", Rows.laid_spoondrift_rev_classical)] := by rfl
  have e2 : laid1.filter (fun x => x.2.handleName?.isNone) = [("spoondrift/rev.wants", Rows.laid_spoondrift_rev_wants)] := by rfl
  unfold laidMetH at h
  rw [e1, e2] at h
  exact h.1
 obtain ⟨ps, ⟨g1, t1, cs1, f1, p1, q1, hg1, ht1, hv1, hd1, _, _⟩, _, _⟩ := h1
 obtain rfl := Option.some.inj (gWan.symm.trans hg1)
 obtain rfl := Option.some.inj (tWan.symm.trans ht1)
 obtain ⟨ty, fz, hb⟩ := var_block hg1 hv1
 refine ⟨cs1, ty, fz, hb, fun i x hx => ?_⟩
 rw [wan_data] at hd1
 have := open_nums (i := i) (v := Int.ofNat x) u108 u3 hc3 hd1 (by rw [List.getElem?_map, hx]; rfl)
 simpa using this
end Go.AM

/-! F51 -/
namespace Go.AM
open Go.Proofs Go.Proofs.YtdokoekgdeebpaaDoor Go.RowKit
/-- An argument's block: where it lies, and its abstract cells (each stands for the machine's cell at the same place), or the entries of a map. -/
structure Arg0 where
  blk : Nat
  off : Nat
  cap : Nat
  cs : Array Value
  es : Option (List (Value × Value))
def arg0 : Arg0 := ⟨0, 0, 0, #[], none⟩
def Arg0.obj (a : Arg0) : AObj := match a.es with
  | none => .cells false a.cs
  | some es => .map false es
theorem Arg0.obj_rw (a : Arg0) : a.obj.rw = false := by
 unfold Arg0.obj; split <;> rfl
def wanCs : Array Value := #[nv 0, nv 0, nv 1, nv 2, nv 2, nv 2, nv 0, nv 0]
def mem0 (A : List Arg0) : Mem := (AObj.dead :: AObj.cells false #[.map (some 3)] :: AObj.cells false wanCs :: A.map Arg0.obj).toArray
def beta0 (A : List Arg0) : Beta where
  blk i := if i < 3 then i else (A.getD (i - 3) arg0).blk
  sh i := if i < 3 then 0 else (A.getD (i - 3) arg0).off
  cap i := if i < 3 then 1000000 else (A.getD (i - 3) arg0).off + max (A.getD (i - 3) arg0).cs.size (A.getD (i - 3) arg0).cap
/-- What is known of an argument's cells, all arguments' places being known. -/
def Arg0.ok (W : World) (A : List Arg0) (a : Arg0) : Prop :=
  (a.es = none → ∃ c t fz, W.heap[a.blk]? = some (.cells c t fz) ∧ ∀ (i : Nat) v, a.cs[i]? = some v → ∃ v', c[a.off + i]? = some v' ∧ VRel (beta0 A) (3 + A.length) v v') ∧
  ∀ es, a.es = some es → ∃ es' clk, W.heap[a.blk]? = some (.map es' clk) ∧ es'.size = es.length ∧ ∀ (i : Nat) x e', es[i]? = some x → es'[i]? = some e' → VRel (beta0 A) (3 + A.length) x.1 e'.key ∧ VRel (beta0 A) (3 + A.length) x.2 e'.val
theorem mem0_size (A : List Arg0) : (mem0 A).size = 3 + A.length := by simp [mem0]; omega
theorem mem0_get (A : List Arg0) (i : Nat) : Mem.get (mem0 A) i = if i = 0 then .dead else if i = 1 then .cells false #[.map (some 3)] else if i = 2 then .cells false wanCs else if h : i - 3 < A.length then (A[i - 3]).obj else .dead := by
 unfold Mem.get mem0
 rw [Array.getD_eq_getD_getElem?, List.getElem?_toArray]
 match i with
 | 0 => rfl
 | 1 => rfl
 | 2 => rfl
 | i + 3 =>
  rw [if_neg (by omega), if_neg (by omega), if_neg (by omega)]
  simp only [List.getElem?_cons_succ, Nat.add_sub_cancel, List.getElem?_map]
  by_cases h : i < A.length
  ·rw [dif_pos h, List.getElem?_eq_getElem h]; rfl
  ·rw [dif_neg h, List.getElem?_eq_none (by omega)]; rfl
theorem globW0 (A : List Arg0) : GlobW (mem0 A) := ⟨false, by rw [mem0_get]; rfl⟩
/-- The table of kinds: its block, its entries. -/
structure Kinds (W : World) (a : Arg0) : Prop where
  glob : ∃ c t fz, W.heap[1]? = some (.cells c t fz) ∧ c[0]? = some (.map (some a.blk))
  es : ∃ es, a.es = some es ∧ (∀ x ∈ es, IsKind x.1 x.2) ∧ ∀ k, (k = 1 ∨ k = 9 ∨ k = 12 ∨ k = 11) → ∃ x ∈ es, x.1 = .int .i64 k
  ok : ∀ A, a.ok W A
theorem flat_kind {β : Beta} {N : Nat} {c : Int} {q : FuncId} : VRel β N (.agg #[.int .i64 c, .func (.func q) #[] #[]]) (.agg #[.int .i64 c, .func (.func q) #[] #[]]) := by
 refine .agg _ _ rfl fun i v v' h h' => ?_
 match i with
 | 0 => simp at h h'; subst h h'; exact .int _ _
 | 1 => simp at h h'; subst h h'; exact .func _ _ _ _ _ rfl (fun i v v' h => by simp at h) rfl (fun i v v' h => by simp at h)
 | i + 2 => simp at h
theorem kinds_ex {W : World} (hL : laidMetH Tryd.prog laid1 W) : ∃ a, Kinds W a := by
 obtain ⟨c, t, fz, b, es, clk, h0, h1, h2, h3, h4⟩ := of_laid0 hL
 refine ⟨⟨b, 0, 0, #[], some (es.toList.map fun x => (x.key, x.val))⟩, ⟨c, t, fz, h0, h1⟩, ⟨_, rfl, fun x hx => ?_, fun k hk => ?_⟩, fun A => ⟨fun h => (by cases h), fun es2 he => ?_⟩⟩
 ·obtain ⟨y, hy, rfl⟩ := List.mem_map.1 hx
  exact h3 y hy
 ·obtain ⟨y, hy, e⟩ := h4 k hk
  exact ⟨_, List.mem_map.2 ⟨y, hy, rfl⟩, e⟩
 ·cases he
  refine ⟨es, clk, h2, by simp, fun i x e' hx he' => ?_⟩
  rw [List.getElem?_map, Array.getElem?_toList, he'] at hx
  cases hx
  have := h3 e' (by rw [← Array.mem_def]; exact Array.mem_of_getElem? he')
  rcases this with ⟨e1, e2⟩ | ⟨e1, e2⟩ | ⟨e1, e2⟩ | ⟨e1, e2⟩ <;> (simp only [e1, e2]; exact ⟨.int _ _, flat_kind⟩)
theorem sameI (a b : Int) : Instr.sameNow (.int .i64) (.int .i64 a) (.int .i64 b) = some (decide (a = b)) := by
 by_cases h : a = b
 ·subst h; simp [Instr.sameNow]
 ·simp [Instr.sameNow, h]
theorem rel0 {W : World} (hL : laidMetH Tryd.prog laid1 W) {A : List Arg0} {a0 : Arg0} (hK : Kinds W a0) (hA0 : A[0]? = some a0) (hA : ∀ a ∈ A, a.ok W A) : Rel Tryd.prog (beta0 A) (mem0 A) W := by
 obtain ⟨c, t, fz, h0, hc0⟩ := of_laid hL
 obtain ⟨ck, tk, fk, k0, k1⟩ := hK.glob
 obtain ⟨hl0, e0⟩ := List.getElem?_eq_some_iff.1 hA0
 refine ⟨by rw [mem0_size, gSize]; omega, fun g hg => ?_, fun i hi => ?_, fun i j _ hr _ => ?_⟩
 ·rw [gSize] at hg
  exact ⟨if_pos hg, if_pos hg⟩
 ·rw [mem0_get] at hi ⊢
  by_cases ez : i = 0
  ·rw [if_pos ez] at hi; cases hi
  rw [if_neg ez] at hi ⊢
  by_cases ei : i = 1
  ·subst ei
   rw [if_pos rfl] at hi ⊢
   refine ⟨_, k0, ck, tk, fk, rfl, by simp [beta0], fun j v hj => ?_, fun h => by cases h⟩
   match j with
   | 0 =>
    simp at hj; subst hj
    refine ⟨_, by simpa [beta0] using k1, ?_⟩
    have hb : (beta0 A).blk 3 = a0.blk := by
     simp only [beta0]; rw [if_neg (by omega), List.getD_eq_getElem?_getD, hA0]; rfl
    rw [← hb]
    exact .map _ (by rw [mem0_size]; omega)
   | j + 1 => simp at hj
  rw [if_neg ei] at hi ⊢
  by_cases e1 : i = 2
  ·subst e1
   rw [if_pos rfl] at hi ⊢
   refine ⟨_, h0, c, t, fz, rfl, by simp [beta0, wanCs], fun j v hj => ?_, fun h => by cases h⟩
   have hj8 := (Array.getElem?_eq_some_iff.1 hj).1
   have hj8' : j < 8 := hj8
   obtain ⟨x, hx⟩ : ∃ x, wanL[j]? = some x := ⟨_, List.getElem?_eq_getElem hj8'⟩
   have hv : v = nv x := by
    have hall : ∀ j < 8, wanCs[j]? = (wanL[j]?).map fun x => nv x := by
     intro j hj
     match j, hj with
     | 0, _ => rfl
     | 1, _ => rfl
     | 2, _ => rfl
     | 3, _ => rfl
     | 4, _ => rfl
     | 5, _ => rfl
     | 6, _ => rfl
     | 7, _ => rfl
    rw [hall j hj8', hx] at hj
    exact (Option.some.inj hj).symm
   subst hv
   exact ⟨_, by simpa [beta0] using hc0 j x hx, .int _ _⟩
  rw [if_neg e1] at hi ⊢
  by_cases e4 : i - 3 < A.length
  ·rw [dif_pos e4] at hi ⊢
   obtain ⟨o1, o2⟩ := hA _ (List.getElem_mem e4)
   have hb : (beta0 A).blk i = (A[i - 3]).blk := by
    simp only [beta0]; rw [if_neg (by omega), List.getD_eq_getElem?_getD, List.getElem?_eq_getElem e4]; rfl
   have hsh : (beta0 A).sh i = (A[i - 3]).off := by
    simp only [beta0]; rw [if_neg (by omega), List.getD_eq_getElem?_getD, List.getElem?_eq_getElem e4]; rfl
   have hcp : (beta0 A).cap i = (A[i - 3]).off + max (A[i - 3]).cs.size (A[i - 3]).cap := by
    simp only [beta0]; rw [if_neg (by omega), List.getD_eq_getElem?_getD, List.getElem?_eq_getElem e4]; rfl
   cases hes : (A[i - 3]).es with
   | none =>
    obtain ⟨c, t, fz, g1, g2⟩ := o1 hes
    rw [Arg0.obj, hes]
    refine ⟨_, by rw [hb]; exact g1, c, t, fz, rfl, by rw [hsh, hcp]; omega, fun j v hj => ?_, fun h => by cases h⟩
    obtain ⟨v', q1, q2⟩ := g2 j v hj
    exact ⟨v', by rw [hsh]; exact q1, by rw [mem0_size]; exact q2⟩
   | some es =>
    obtain ⟨es', clk, g1, g2, g3⟩ := o2 es hes
    rw [Arg0.obj, hes]
    exact ⟨_, by rw [hb]; exact g1, es', clk, rfl, g2, fun i x e' hx he => by rw [mem0_size]; exact g3 i x e' hx he, fun h => by cases h⟩
  ·rw [dif_neg e4] at hi; cases hi
 ·rw [mem0_get] at hr
  split at hr
  ·cases hr
  split at hr
  ·cases hr
  split at hr
  ·cases hr
  split at hr
  ·rw [Arg0.obj_rw] at hr; cases hr
  ·cases hr
theorem arel_nil {β : Beta} {N : Nat} : ARel β N #[] #[] := ⟨rfl, fun i v v' h => by simp at h⟩
theorem arel_cons {β : Beta} {N : Nat} {v v' : Value} {l l' : List Value} (hv : VRel β N v v') (h : ARel β N l.toArray l'.toArray) : ARel β N (v :: l).toArray (v' :: l').toArray := by
 refine ⟨by have := h.1; simp at this ⊢; exact this, fun i x x' h1 h2 => ?_⟩
 cases i with
 | zero => simp at h1 h2; subst h1 h2; exact hv
 | succ i => exact h.2 i x x' (by simpa using h1) (by simpa using h2)
/-- From the abstract call to the machine's. -/
theorem entry {f : FuncId} {args args' : Array Value} {W : World} {A : List Arg0} (hL : laidMetH Tryd.prog laid1 W) {a0 : Arg0} (hK : Kinds W a0) (hA0 : A[0]? = some a0) (hA : ∀ a ∈ A, a.ok W A)
  (hargs : ARel (beta0 A) (3 + A.length) args args') (hc : ∃ v m', ACalls Tryd.prog f args (mem0 A) v m' ∧ v = .bool true) :
  Calls Tryd.prog f args' W fun e W' => e = .returned (.bool true) ∧ Below W.heap.size W W' := by
 have hR := rel0 hL hK hA0 hA
 obtain ⟨v, m', hcall, rfl⟩ := hc
 refine (hcall.2 _ W args' hR (by rw [mem0_size]; exact hargs)).mono ?_
 rintro e W' ⟨v', rfl, β', hv, _, hS⟩
 cases hv
 refine ⟨rfl, hS.os, hS.tape, hS.output, hS.wsz, fun k hk => hS.keep k hk fun i hi => ?_⟩
 rw [mem0_get] at hi
 split at hi
 ·cases hi
 split at hi
 ·cases hi
 split at hi
 ·cases hi
 split at hi
 ·rw [Arg0.obj_rw] at hi; cases hi
 ·cases hi
end Go.AM
