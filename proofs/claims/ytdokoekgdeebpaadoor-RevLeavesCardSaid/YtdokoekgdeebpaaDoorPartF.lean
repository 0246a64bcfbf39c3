/- Part 6 of the proof: Plain laws, and contracts of the program's functions. -/
import Derived.Test.YtdokoekgdeebpaaDoorPartE
set_option linter.unusedVariables false
set_option linter.unusedSimpArgs false
set_option maxRecDepth 100000
/-! N6 -/
namespace Go.AM
open Go.Proofs
theorem maxL_le_sum (l : List Nat) : maxL l ≤ l.sum := by
 induction l with
 | nil => exact Nat.le_refl _
 | cons a l ih => show max a (maxL l) ≤ (a :: l).sum; rw [List.sum_cons]; omega
theorem maxL_mono {α : Type} {g h : α → Nat} {l : List α} (hl : ∀ a ∈ l, g a ≤ h a) : maxL (l.map g) ≤ maxL (l.map h) := by
 induction l with
 | nil => exact Nat.le_refl _
 | cons a l ih =>
  have h1 := hl a (by simp)
  have h2 := ih fun b hb => hl b (by simp [hb])
  show max (g a) (maxL (l.map g)) ≤ max (h a) (maxL (l.map h))
  omega
theorem sum_two (g : BX → Nat) (l : List BX) : (l.map fun a => 2 * g a).sum = 2 * (l.map g).sum := by
 induction l with
 | nil => rfl
 | cons a l ih => simp only [List.map_cons, List.sum_cons, ih]; omega
theorem nf_sz : ∀ (d : Nat) (e : BX), nfB d e ≤ 2 * szB d e
 | 0, e => by simp [nfB]
 | d + 1, e => by
  have h1 := maxL_mono (l := e.args) (g := nfB d) (h := fun a => 2 * szB d a) fun a _ => nf_sz d a
  have h2 := maxL_le_sum (e.args.map fun a => 2 * szB d a)
  rw [sum_two] at h2
  rw [nfB, szB]
  split <;> omega
/-- The bound on the number of gates. -/
def Cnt (T s : Nat) : Prop := (T + 8) * 2 ^ (s - 1) ≤ 9 * 3 ^ (s - 1)
theorem pow_le3 (n : Nat) : 2 ^ n ≤ 3 ^ n := Nat.pow_le_pow_left (by decide) n
theorem cnt_not {T s : Nat} (h : Cnt T s) (hs : 1 ≤ s) : Cnt (T + 1) (1 + s) := by
 obtain ⟨k, rfl⟩ : ∃ k, s = k + 1 := ⟨s - 1, by omega⟩
 unfold Cnt at h ⊢
 rw [show k + 1 - 1 = k by omega] at h
 rw [show 1 + (k + 1) - 1 = k + 1 by omega, Nat.pow_succ, Nat.pow_succ]
 have h2 := pow_le3 k
 generalize 2 ^ k = x at *
 generalize 3 ^ k = X at *
 have e1 : (T + 1 + 8) * (x * 2) = 2 * ((T + 8) * x) + 2 * x := by rw [show T + 1 + 8 = (T + 8) + 1 by omega, Nat.add_mul, Nat.one_mul, ← Nat.mul_assoc]; omega
 omega
theorem cnt_two {A B T s1 s2 k : Nat} (h1 : Cnt A s1) (h2 : Cnt B s2) (hs1 : 1 ≤ s1) (hs2 : 1 ≤ s2) (hT : T + 8 + 18 ≤ 2 * (A + 8) + 2 * (B + 8)) : Cnt T (1 + (s1 + s2)) := by
 obtain ⟨a, rfl⟩ : ∃ a, s1 = a + 1 := ⟨s1 - 1, by omega⟩
 obtain ⟨b, rfl⟩ : ∃ b, s2 = b + 1 := ⟨s2 - 1, by omega⟩
 unfold Cnt at h1 h2 ⊢
 rw [show a + 1 - 1 = a by omega] at h1
 rw [show b + 1 - 1 = b by omega] at h2
 rw [show 1 + (a + 1 + (b + 1)) - 1 = a + b + 2 by omega]
 have ha := pow_le3 a
 have hb := pow_le3 b
 have p2 : 2 ^ (a + b + 2) = 4 * (2 ^ a * 2 ^ b) := by rw [Nat.pow_add, Nat.pow_add]; omega
 have p3 : 3 ^ (a + b + 2) = 9 * (3 ^ a * 3 ^ b) := by rw [Nat.pow_add, Nat.pow_add]; omega
 rw [p2, p3]
 generalize 2 ^ a = x at *
 generalize 2 ^ b = y at *
 generalize 3 ^ a = X at *
 generalize 3 ^ b = Y at *
 generalize A + 8 = A' at *
 generalize B + 8 = B' at *
 generalize T + 8 = T' at *
 obtain ⟨u, rfl⟩ : ∃ u, X = x + u := ⟨X - x, by omega⟩
 obtain ⟨v, rfl⟩ : ∃ v, Y = y + v := ⟨Y - y, by omega⟩
 have k1 : (T' + 18) * (x * y) ≤ (2 * A' + 2 * B') * (x * y) := Nat.mul_le_mul_right _ hT
 have k2 : A' * x * y ≤ 9 * (x + u) * y := Nat.mul_le_mul_right _ h1
 have k3 : B' * y * x ≤ 9 * (y + v) * x := Nat.mul_le_mul_right _ h2
 have e1 : (2 * A' + 2 * B') * (x * y) = 2 * (A' * x * y) + 2 * (B' * y * x) := by
  rw [Nat.add_mul, Nat.mul_assoc 2 A', Nat.mul_assoc 2 B', Nat.mul_assoc A' x y, Nat.mul_assoc B' y x, Nat.mul_comm y x]
 have e2 : 9 * (x + u) * y = 9 * (x * y) + 9 * (u * y) := by rw [Nat.mul_assoc, Nat.add_mul, Nat.mul_add]
 have e3 : 9 * (y + v) * x = 9 * (x * y) + 9 * (v * x) := by rw [Nat.mul_assoc, Nat.add_mul, Nat.mul_add, Nat.mul_comm y x]
 have e4 : (T' + 18) * (x * y) = T' * (x * y) + 18 * (x * y) := Nat.add_mul _ _ _
 have e5 : (x + u) * (y + v) = x * y + v * x + (u * y + u * v) := by rw [Nat.add_mul, Nat.mul_add, Nat.mul_add, Nat.mul_comm v x]
 have e6 : T' * (4 * (x * y)) = 4 * (T' * (x * y)) := Nat.mul_left_comm _ _ _
 rw [e5, e6]
 generalize T' * (x * y) = Txy at *
 generalize A' * x * y = Axy at *
 generalize B' * y * x = Byx at *
 generalize x * y = xy at *
 generalize u * y = uy at *
 generalize v * x = vx at *
 generalize u * v = uv at *
 omega
theorem two_args {l : List BX} (h : l.length = 2) : ∃ a b, l = [a, b] := len2g h
theorem one_arg {l : List BX} (h : l.length = 1) : ∃ a, l = [a] := List.length_eq_one_iff.1 h
theorem inG_two {T : BX → Nat → Nat → List Gt} {a b : BX} {f : Nat} {x y : Nat} (ha : ∀ t f, (T a t f).length ≤ x) (hb : ∀ t f, (T b t f).length ≤ y) : (inG T [a, b] f).length ≤ x + y := by
 simp only [inG]
 split
 ·split
  ·simp
  ·have := hb f (f + 1); simp; omega
 ·split
  ·have := ha f (f + 1); simp; omega
  ·have h1 := ha f (f + 1)
   have h2 := hb (f + 1) (f + 1 + 1)
   simp only [List.length_append, List.append_nil]; omega
theorem gT_not {D : Nat} {a : BX} {t f : Nat} : gT (D + 1) (notX a) t f = gT D a t f ++ [turnG t []] := rfl
theorem gBoth_len (T : BX → Nat → Nat → List Gt) (l : List BX) (t f : Nat) : (gBoth T l t f).length = 2 * (inG T l f).length + 1 := by
 simp [gBoth]; omega
theorem szB_pos' {vars : Int} {d : Nat} {e : BX} (h : fmB vars d e = 0) : 1 ≤ szB d e := by
 cases d with
 | zero => cases h
 | succ d => rw [szB]; omega
/-- A common bound on the gates of an expression, whatever the wires are. -/
theorem cnt_gT {vars : Int} : ∀ (D d : Nat) (e : BX), fmB vars d e = 0 → ∃ T, (∀ t f, (gT D e t f).length ≤ T) ∧ Cnt T (szB d e) := by
 intro D
 induction D using Nat.strongRecOn with
 | ind D ih =>
 intro d e h
 obtain ⟨d, rfl⟩ : ∃ d', d = d' + 1 := by
  cases d with
  | zero => cases h
  | succ d => exact ⟨d, rfl⟩
 have hzero : Cnt 0 (szB (d + 1) e) := by
  unfold Cnt
  have := pow_le3 (szB (d + 1) e - 1)
  omega
 cases D with
 | zero => exact ⟨0, fun t f => Nat.le_refl _, hzero⟩
 | succ D =>
 obtain ⟨kn, hk, hk1, hk7, hkl, _, _, hfa⟩ := fm_right h
 have hT : ∀ t f, gT (D + 1) e t f = gK (gT D) kn e t f := fun t f => by rw [gT, hk]; rfl
 have hcase : kn = 1 ∨ kn = 2 ∨ kn = 3 ∨ kn = 4 ∨ kn = 5 ∨ kn = 6 ∨ kn = 7 := by omega
 rcases hcase with rfl | rfl | rfl | rfl | rfl | rfl | rfl
 ·refine ⟨1, fun t f => by rw [hT]; exact Nat.le_refl _, ?_⟩
  have : e.args = [] := List.length_eq_zero_iff.1 hkl
  rw [szB, this]; show (1 + 8) * 2 ^ (1 - 1) ≤ 9 * 3 ^ (1 - 1); decide
 ·obtain ⟨a, ha⟩ := one_arg hkl
  have hfa' := hfa a (by rw [ha]; simp)
  obtain ⟨T, h1, h2⟩ := ih D (Nat.lt_succ_self _) d a hfa'
  refine ⟨T + 1, fun t f => ?_, ?_⟩
  ·rw [hT, gK, if_neg (by decide), if_neg (by decide), if_pos rfl, ha]
   have := h1 t f
   simp only [List.length_append, List.length_singleton]
   exact Nat.succ_le_succ this
  ·rw [szB, ha]; simp only [List.map_cons, List.map_nil, List.sum_cons, List.sum_nil, Nat.add_zero]
   exact cnt_not h2 (szB_pos' hfa')
 ·obtain ⟨a, b, ha⟩ := two_args hkl
  have hfa' := hfa a (by rw [ha]; simp)
  have hfb' := hfa b (by rw [ha]; simp)
  obtain ⟨A, h1, h2⟩ := ih D (Nat.lt_succ_self _) d a hfa'
  obtain ⟨B, h3, h4⟩ := ih D (Nat.lt_succ_self _) d b hfb'
  refine ⟨2 * (A + B) + 1, fun t f => ?_, ?_⟩
  ·rw [hT, gK, if_neg (by decide), if_neg (by decide), if_neg (by decide), if_neg (by decide), if_pos rfl, gBoth_len, ha]
   have := inG_two (f := f) h1 h3
   omega
  ·rw [szB, ha]; simp only [List.map_cons, List.map_nil, List.sum_cons, List.sum_nil, Nat.add_zero]
   exact cnt_two (k := 0) h2 h4 (szB_pos' hfa') (szB_pos' hfb') (by omega)
 ·obtain ⟨a, b, ha⟩ := two_args hkl
  have hfa' := hfa a (by rw [ha]; simp)
  have hfb' := hfa b (by rw [ha]; simp)
  obtain ⟨A, h1, h2⟩ := ih D (Nat.lt_succ_self _) d a hfa'
  obtain ⟨B, h3, h4⟩ := ih D (Nat.lt_succ_self _) d b hfb'
  refine ⟨A + B, fun t f => ?_, ?_⟩
  ·rw [hT, gK, if_neg (by decide), if_neg (by decide), if_neg (by decide), if_pos rfl, ha]
   have e1 := h1 t f
   have e2 := h3 t f
   rw [List.length_append]
   exact Nat.add_le_add e1 e2
  ·rw [szB, ha]; simp only [List.map_cons, List.map_nil, List.sum_cons, List.sum_nil, Nat.add_zero]
   exact cnt_two (k := 0) h2 h4 (szB_pos' hfa') (szB_pos' hfb') (by omega)
 ·obtain ⟨a, b, ha⟩ := two_args hkl
  have hfa' := hfa a (by rw [ha]; simp)
  have hfb' := hfa b (by rw [ha]; simp)
  have hnot : ∀ x, fmB vars d x = 0 → ∃ T, (∀ t f, (gT D (notX x) t f).length ≤ T + 1) ∧ Cnt T (szB d x) := fun x hx => by
   cases D with
   | zero => exact ⟨0, fun t f => by simp [gT], by
     unfold Cnt
     have := pow_le3 (szB d x - 1)
     omega⟩
   | succ D =>
    obtain ⟨T, q1, q2⟩ := ih D (by omega) d x hx
    exact ⟨T, fun t f => by rw [gT_not, List.length_append]; have := q1 t f; simp; exact this, q2⟩
  obtain ⟨A, h1, h2⟩ := hnot a hfa'
  obtain ⟨B, h3, h4⟩ := hnot b hfb'
  refine ⟨2 * (A + 1 + (B + 1)) + 2, fun t f => ?_, ?_⟩
  ·rw [hT, gK, if_neg (by decide), if_neg (by decide), if_neg (by decide), if_neg (by decide), if_neg (by decide), if_pos rfl, List.length_append, gBoth_len, ha]
   have := inG_two (f := f) h1 h3
   simp only [List.map_cons, List.map_nil, List.length_singleton]
   omega
  ·rw [szB, ha]; simp only [List.map_cons, List.map_nil, List.sum_cons, List.sum_nil, Nat.add_zero]
   exact cnt_two (k := 0) h2 h4 (szB_pos' hfa') (szB_pos' hfb') (by omega)
 ·exact ⟨0, fun t f => by rw [hT]; exact Nat.le_refl _, hzero⟩
 ·refine ⟨1, fun t f => by rw [hT]; exact Nat.le_refl _, ?_⟩
  have : e.args = [] := List.length_eq_zero_iff.1 hkl
  rw [szB, this]; show (1 + 8) * 2 ^ (1 - 1) ≤ 9 * 3 ^ (1 - 1); decide
theorem pow_table : ∀ s < 24, 9 * 3 ^ s < 200008 * 2 ^ s := by decide +kernel
theorem gT_len {vars : Int} {D d t f : Nat} {e : BX} (h : fmB vars d e = 0) (hs : szB d e ≤ 24) : (gT D e t f).length ≤ 200000 := by
 obtain ⟨T, h1, h2⟩ := cnt_gT D d e h
 have h3 := pow_table (szB d e - 1) (by have := szB_pos' h; omega)
 unfold Cnt at h2
 have h4 : T + 8 < 200008 := Nat.lt_of_mul_lt_mul_right (Nat.lt_of_le_of_lt h2 h3)
 have := h1 t f
 omega
end Go.AM

/-! R26 -/
namespace Go.AM
open Go.Proofs
section
variable {P : Program} {n : Nat} {ρ : Env} {m m' : Mem} {K : List Ent → Env → Mem → Prop} {ops : Array Oper} {l : List Oper} {log : List Ent}
  {d : Option Nat} {i : Nat} {op : Op} {ty t tz : TypeId} {pos : String} {af : Array Edge} {v : Value} {x y : Operand}
theorem readLdP {m : Mem} {bl o s : Nat} {rw_ : Bool} {c : Array Value} (ht : isAggT P t = some true) (hs : szOf P t = some s) (hx : evR ρ x = .pointer (some ⟨bl, o, none⟩)) (hb : Mem.get m bl = .cells rw_ c) (hc : o + s ≤ c.size) : aRead P m (evR ρ) (.load t x) = some (.agg (c.extract o (o + s))) := by
 simp only [aRead, aLoad, hx, hb, ht, hs]
 rw [if_pos hc]
theorem lStepLdP {bl o s : Nat} {rw_ : Bool} {c : Array Value} (ht : isAggT P t = some true) (hs : szOf P t = some s) (hx : evR ρ x = .pointer (some ⟨bl, o, none⟩)) (hb : Mem.get m bl = .cells rw_ c) (hc : o + s ≤ c.size)
  (hk : ∀ e : Ent, e.m = m → e.v = .agg (c.extract o (o + s)) → (∀ M r, Mem.get M bl = .cells r c → aRead P M (evR e.ρ) (.load t x) = some (.agg (c.extract o (o + s)))) → wpLog P ops K l (log ++ [e]) (updO ρ d (.agg (c.extract o (o + s)))) m) :
  wpLog P ops K (⟨d, .load t x, ty, pos, af, none⟩ :: l) log ρ m := by
 refine ⟨fun hw => ?_, fun hn => absurd trivial hn⟩
 refine wpOp_opF (v := .agg (c.extract o (o + s))) (m' := m) (opF_read rfl (readLdP ht hs hx hb hc)) ?_
 exact hk ⟨ρ, m, .agg (c.extract o (o + s))⟩ rfl rfl fun M r h1 => readLdP ht hs hx h1 hc
end
theorem BAt.all {P : Nat → Prop} {m : Mem} {d : Nat} {k x : Value} {q : Option Addr} {n cap : Nat} {e : BX} (h : BAt P m (d + 1) (.agg #[k, x, .slice q n cap]) e) (hne : e.args ≠ []) :
  ∃ b o r c, q = some ⟨b, o, some 3⟩ ∧ n = e.args.length ∧ P b ∧ Mem.get m b = .cells r c ∧ ∀ (i : Nat) (a : BX), e.args[i]? = some a → o + i * 3 + 3 ≤ c.size ∧ BAt P m d (.agg (c.extract (o + i * 3) (o + i * 3 + 3))) a := by
 obtain ⟨w, h1, h2⟩ := h
 rcases h2 with ⟨h2, _⟩ | ⟨b, o, cap, r, c, rfl, g2, g3, g4⟩
 ·exact absurd h2 hne
 ·simp at h1
  obtain ⟨_, _, h1, h3, h4⟩ := h1
  exact ⟨b, o, r, c, h1, h3, g2, g3, g4⟩
theorem not_at {P : Nat → Prop} {m : Mem} {d b : Nat} {a : BX} {k x w : Value} (hb : P b) (hg : Mem.get m b = .cells true #[k, x, w]) (h : BAt P m d (.agg #[k, x, w]) a) : BAt P m (d + 1) (.agg #[nv 2, nv 0, .slice (some ⟨b, 0, some 3⟩) 1 1]) (notX a) := by
 refine ⟨.slice (some ⟨b, 0, some 3⟩) 1 1, rfl, .inr ⟨b, 0, 1, true, _, rfl, hb, hg, fun i a' hi => ?_⟩⟩
 have h1 := (List.getElem?_eq_some_iff.1 hi).1
 have hi0 : i = 0 := by have : (notX a).args.length = 1 := rfl; omega
 subst hi0
 obtain rfl : a = a' := by injection hi
 exact ⟨by simp, h⟩
theorem fill66b {q q' : Option Addr} {n c n' c' : Nat} : Instr.fill (fun i => some (i * 3, 3)) (if 2 * 3 = 0 then #[] else (Array.range (2 * 3)).map ((Value.agg #[nv 0, nv 0, .slice none 0 0]).cells[· % (Value.agg #[nv 0, nv 0, .slice none 0 0]).cells.size]!)) [(0, .agg #[nv 2, nv 0, .slice q n c]), (1, .agg #[nv 2, nv 0, .slice q' n' c'])] = some #[nv 2, nv 0, .slice q n c, nv 2, nv 0, .slice q' n' c'] := by kernel_rfl
def H113r : Nat → List (Nat × Nat) := fun id => if id = 15 then [(7, 0), (9, 0)] else []
theorem okf113 : okF Tryd.prog H113r 113 90 = true := by kernel_rfl
theorem spec_to (vars : Int) (D : Nat) : ToSpec vars D := by
 induction D
 ·intro P m d N bb W t f Gs bv v e hB hN h hf hn
  exfalso
  cases d with
  | zero => exact h.elim
  | succ d => have := nf_pos (vars := vars) (e := e) (show 0 < d + 1 by omega); omega
 rename_i D ih
 intro P m d N bb W t f Gs bv v e hB hN h hf hn hfr hlen
 obtain ⟨d, q, cap, rfl, rfl⟩ := h.agg
 obtain ⟨kn, hk, hk1, hk7, hkl, hv0, hv1, hfa⟩ := fm_right hf
 have hgT : gT (D + 1) e t f = gK (gT D) kn e t f := by rw [gT, hk]; rfl
 have huT : uT (D + 1) e f = uK (uT D) kn e f := by rw [uT, hk]; rfl
 rw [hgT] at hlen
 rw [hgT, huT]
 rw [hk] at h ⊢
 have hPm : ∀ b, P b → b < m.size := fun b hb => hB.lt hb
 have hbbm := live hB.1
 have hbbN := hB.2.1
 refine wpF (args := [_, _, _, _]) mixed okf113 (fn := Tryd.f113) rfl rfl rfl (by simp) ?_
 refine cSR ?_
 refine sBox (v := .agg _) rfl ?_
 change wpOps _ _ _ _ _ (m.push (.cells true #[nv kn, .int .i64 e.var, .slice q e.args.length cap]))
 have e1 : Ext m (m.push (.cells true #[nv kn, .int .i64 e.var, .slice q e.args.length cap])) := .push _ _
 have g1 : Mem.get (m.push (.cells true #[nv kn, .int .i64 e.var, .slice q e.args.length cap])) m.size = .cells true #[nv kn, .int .i64 e.var, .slice q e.args.length cap] := gP rfl
 have z1 : (m.push (.cells true #[nv kn, .int .i64 e.var, .slice q e.args.length cap])).size = m.size + 1 := by simp
 have hB1 : BldP (fun b => P b ∨ b = m.size) N bb (m.push (.cells true #[nv kn, .int .i64 e.var, .slice q e.args.length cap])) W Gs bv := hB.move e1.1 (fun b hb _ => e1.2 b hb) fun b hb => by
  rcases hb with hb | hb
  ·exact ⟨by have := hPm b hb; omega, .inl hb⟩
  ·exact ⟨by omega, .inr (by omega)⟩
 generalize m.push (.cells true #[nv kn, .int .i64 e.var, .slice q e.args.length cap]) = m1 at *
 have hat1 : BAt (fun b => P b ∨ b = m.size) m1 (d + 1) (.agg #[nv kn, .int .i64 e.var, .slice q e.args.length cap]) e := h.frame fun b hb hl => ⟨.inl hb, e1.2 b hl⟩
 have hfin : ∀ {m' : Mem} {W' : Nat} {Gs' : List Gt} {bv' : Value}, m1.size ≤ m'.size → (∀ b, P b ∨ b = m.size → Mem.get m' b = Mem.get m1 b) → BldP (fun b => P b ∨ b = m.size) N bb m' W' Gs' bv' → m.size ≤ m'.size ∧ (∀ b, P b → Mem.get m' b = Mem.get m b) ∧ BldP P N bb m' W' Gs' bv' := fun h1 h2 h3 =>
  ⟨by omega, fun b hb => (h2 b (.inl hb)).trans (e1.2 b (hPm b hb)), h3.move (Nat.le_refl _) (fun _ _ _ => rfl) fun b hb => ⟨by have := hPm b hb; omega, .inl (.inl hb)⟩⟩
 have hone : ∀ {m2 m3 : Mem} {W' gk : Nat} {Gs' : List Gt} {bv2 ws : Value} {w : List Nat}, BldP (fun b => P b ∨ b = m.size) N bb m2 W' Gs' bv2 → m1.size ≤ m2.size → Ext m2 m3 → OwnF (m2.size + 1) m3 ws (ofs w) → Gs'.length ≤ 200000 → ∃ r m4, ACalls Tryd.prog 75 #[.pointer (some ⟨bb, 0, none⟩), .slice (some ⟨m3.size, 0, some 4⟩) 1 1] (m3.push (.cells true #[nv gk, ws, nv 0, nv 0])) r m4 ∧ ∃ bv', BldP (fun b => P b ∨ b = m.size) N bb m4 W' (Gs' ++ [(gk, w)]) bv' ∧ m2.size ≤ m4.size ∧ (∀ b, P b ∨ b = m.size → Mem.get m4 b = Mem.get m2 b) := fun h1 h2 h3 h4 h5 => by
  obtain ⟨r, m4, k1, bv', k2, k3, k4⟩ := add_one h1 h3 (by omega) (h4.mono (Nat.le_succ _)) h5
  have hb1 := live h1.1
  exact ⟨r, m4, k1, bv', k2, by have := h3.1; omega, fun b hb => k4 b (h1.lt hb) (h1.2.2.1 b hb).2.1 (h1.2.2.1 b hb).2.2⟩
 refine sN ?_
 refine cSR ?_
 refine sFA F66_0 rfl ?_
 refine sLd (v := nv kn) A3 rfl g1 rfl ?_
 refine sN ?_
 refine cBlock (cSR ?_)
 refine sBin (a := kn) (b := 7) rfl rfl aInt_eql ?_
 refine sAb rfl ?_
 refine sN ?_
 refine cCond (p := kn = 7) rfl (fun c0 => ?_) (fun c0 => ?_)
 ·
  have hg : gK (gT D) kn e t f = [turnG t []] := by rw [gK, if_pos c0]
  have hu : uK (uT D) kn e f = 0 := by rw [uK, if_pos c0]
  rw [hg] at hlen
  rw [hg, hu, Nat.max_zero]
  simp only [List.length_singleton] at hlen
  refine cRegion ?_
  refine sMv (v := .pointer _) rfl ?_
  refine sMn rfl ?_
  obtain ⟨v14, m14, h14, w14, rfl, o14, e14⟩ := spec_turn (m := m1) (k := t) (a := .slice none 0 0) (l := []) (.inl ⟨rfl, .inl rfl⟩) (by simp)
  obtain ⟨q14, c14, rfl⟩ := o14.ints.lenN
  refine sCall2 rfl call78 rfl rfl h14 ?_
  refine sBuildS T28 S49 Z49 (by decide) (by decide) (by decide) (by kernel_rfl) fillA4 rfl ?_
  obtain ⟨r16, m16, h16, bv16, hB16, z16, k16⟩ := hone (gk := kindM [].length) hB1 (Nat.le_refl _) e14 o14 (by omega)
  refine sCall2 rfl call75 rfl rfl h16 ?_
  refine sNil (kBlkN ?_)
  obtain ⟨q1, q2, q3⟩ := hfin z16 k16 hB16
  exact ⟨.inl rfl, _, rfl, q1, q2, bv16, q3⟩
 ·
  refine cSR ?_
  refine sBin (a := kn) (b := 1) rfl rfl aInt_eql ?_
  refine sAb rfl ?_
  refine sN ?_
  refine cCond (p := kn = 1) rfl (fun c1 => ?_) (fun c1 => ?_)
  ·
   have hg : gK (gT D) kn e t f = [turnG t [e.var.toNat]] := by rw [gK, if_neg c0, if_pos c1]
   have hu : uK (uT D) kn e f = 0 := by rw [uK, if_neg c0, if_pos c1]
   rw [hg] at hlen
   rw [hg, hu, Nat.max_zero]
   simp only [List.length_singleton] at hlen
   obtain ⟨w1, w2⟩ := hv1 c1
   obtain ⟨vn, hvn⟩ : ∃ vn : Nat, e.var = Int.ofNat vn := ⟨e.var.toNat, by simp; omega⟩
   rw [hvn] at g1
   rw [show e.var.toNat = vn by rw [hvn]; rfl]
   refine cRegion ?_
   refine sMv (v := .pointer _) rfl ?_
   refine sMn rfl ?_
   refine sFA F66_1 rfl ?_
   refine sLd (v := nv vn) A3 rfl g1 rfl ?_
   refine sBuildS T22 S3 Z3 (by decide) (by decide) (by decide) (by kernel_rfl) fill1 rfl ?_
   obtain ⟨v14, m14, h14, w14, rfl, o14, e14⟩ := spec_turn (m := m1.push (.cells true #[nv vn])) (k := t) (l := [vn]) (show IntsAt (m1.push (.cells true #[nv vn])) (.slice (some ⟨m1.size, 0, some 1⟩) 1 1) (ofs [vn]) from one_ints) (by simp)
   obtain ⟨q14, c14, rfl⟩ := o14.ints.lenN
   refine sCall2 rfl call78 rfl rfl h14 ?_
   refine sBuildS T28 S49 Z49 (by decide) (by decide) (by decide) (by kernel_rfl) fillA4 rfl ?_
   obtain ⟨r16, m16, h16, bv16, hB16, z16, k16⟩ := hone (gk := kindM [vn].length) (hB1.ext (.push _ (.cells true #[nv vn]))) (by simp) e14 o14 (by omega)
   simp only [Array.size_push] at z16
   refine sCall2 rfl call75 rfl rfl h16 ?_
   refine sNil (kBlkN ?_)
   obtain ⟨q1, q2, q3⟩ := hfin (by omega) (fun b hb => (k16 b hb).trans (gPn (by have := hB1.lt hb; omega))) hB16
   exact ⟨.inl rfl, _, rfl, q1, q2, bv16, q3⟩
  ·
   refine cSR ?_
   refine sBin (a := kn) (b := 2) rfl rfl aInt_eql ?_
   refine sAb rfl ?_
   refine sN ?_
   refine cCond (p := kn = 2) rfl (fun c2 => ?_) (fun c2 => ?_)
   ·
    obtain ⟨a0, ha⟩ := one_arg (show e.args.length = 1 by rw [hkl, c2]; rfl)
    have hg : gK (gT D) kn e t f = gT D a0 t f ++ [turnG t []] := by rw [gK, if_neg c0, if_neg c1, if_pos c2, ha]; rfl
    have hu : uK (uT D) kn e f = uT D a0 f := by rw [uK, if_neg c0, if_neg c1, if_pos c2, ha]; rfl
    rw [hg] at hlen
    rw [hg, hu]
    simp only [List.length_append, List.length_singleton] at hlen
    have hm0 : a0 ∈ e.args := by rw [ha]; simp
    have hi0 : e.args[0]? = some a0 := by rw [ha]; rfl
    have hnf := nf_arg (d := d) hm0
    obtain ⟨b, o, r, c, rfl, _, hPb, hgb, hsz, hata⟩ := hat1.arg hi0
    refine cSR ?_
    refine sMv (v := .pointer _) rfl ?_
    refine sFA F66_2 rfl ?_
    refine sLd (v := .slice (some ⟨b, o, some 3⟩) e.args.length cap) A64 rfl g1 rfl ?_
    refine sIx T64 S66 rfl rfl (show 0 < e.args.length by rw [ha]; simp) ?_
    refine sLdA A66 S66 rfl hgb hsz ?_
    refine sMn rfl ?_
    refine sMn rfl ?_
    obtain ⟨r36, m36, h36, z36, k36, bv36, hB36⟩ := ih (t := t) (f := f) hB1 (by omega) hata (hfa a0 hm0) (by omega) (by omega) (by omega)
    refine sCall4 rfl call113 rfl rfl rfl rfl h36 ?_
    refine sN ?_
    refine cRegion ?_
    refine sMv (v := .pointer _) rfl ?_
    refine sMn rfl ?_
    obtain ⟨v14, m14, h14, w14, rfl, o14, e14⟩ := spec_turn (m := m36) (k := t) (a := .slice none 0 0) (l := []) (.inl ⟨rfl, .inl rfl⟩) (by simp)
    obtain ⟨q14, c14, rfl⟩ := o14.ints.lenN
    refine sCall2 rfl call78 rfl rfl h14 ?_
    refine sBuildS T28 S49 Z49 (by decide) (by decide) (by decide) (by kernel_rfl) fillA4 rfl ?_
    obtain ⟨r16, m16, h16, bv16, hB16, z16, k16⟩ := hone (gk := kindM [].length) hB36 z36 e14 o14 (by simp only [List.length_append]; omega)
    refine sCall2 rfl call75 rfl rfl h16 ?_
    refine sNil (kBlkN ?_)
    obtain ⟨q1, q2, q3⟩ := hfin (by omega) (fun b hb => (k16 b hb).trans (k36 b hb)) hB16
    exact ⟨.inl rfl, _, rfl, q1, q2, bv16, by rw [← List.append_assoc]; exact q3⟩
   ·
    refine cSR ?_
    refine sBin (a := kn) (b := 4) rfl rfl aInt_eql ?_
    refine sAb rfl ?_
    refine sN ?_
    refine cCond (p := kn = 4) rfl (fun c3 => ?_) (fun c3 => ?_)
    ·
     obtain ⟨a0, a1, ha⟩ := two_args (show e.args.length = 2 by rw [hkl, c3]; rfl)
     have hg : gK (gT D) kn e t f = gT D a0 t f ++ gT D a1 t f := by rw [gK, if_neg c0, if_neg c1, if_neg c2, if_pos c3, ha]; rfl
     have hu : uK (uT D) kn e f = max (uT D a0 f) (uT D a1 f) := by rw [uK, if_neg c0, if_neg c1, if_neg c2, if_pos c3, ha]; rfl
     rw [hg] at hlen
     rw [hg, hu]
     simp only [List.length_append] at hlen
     have hm0 : a0 ∈ e.args := by rw [ha]; simp
     have hm1 : a1 ∈ e.args := by rw [ha]; simp
     have hi0 : e.args[0]? = some a0 := by rw [ha]; rfl
     have hi1 : e.args[1]? = some a1 := by rw [ha]; rfl
     have hnf := nf_arg (d := d) hm0
     have hnf1 := nf_arg (d := d) hm1
     obtain ⟨b, o, r, c, rfl, _, hPb, hgb, hall⟩ := hat1.all (by rw [ha]; simp)
     obtain ⟨hsz, hata⟩ := hall 0 a0 hi0
     obtain ⟨hsz1, hata1⟩ := hall 1 a1 hi1
     refine cSR ?_
     refine sMv (v := .pointer _) rfl ?_
     refine sFA F66_2 rfl ?_
     refine sLd (v := .slice (some ⟨b, o, some 3⟩) e.args.length cap) A64 rfl g1 rfl ?_
     refine sIx T64 S66 rfl rfl (show 0 < e.args.length by rw [ha]; simp) ?_
     refine sLdA A66 S66 rfl hgb hsz ?_
     refine sMn rfl ?_
     refine sMn rfl ?_
     obtain ⟨r36, m36, h36, z36, k36, bv36, hB36⟩ := ih (t := t) (f := f) hB1 (by omega) hata (hfa a0 hm0) (by omega) (by omega) (by omega)
     refine sCall4 rfl call113 rfl rfl rfl rfl h36 ?_
     refine sN ?_
     refine cRegion ?_
     refine sMv (v := .pointer _) rfl ?_
     refine sFA F66_2 rfl ?_
     refine sLd (v := .slice (some ⟨b, o, some 3⟩) e.args.length cap) A64 rfl ((k36 _ (.inr rfl)).trans g1) rfl ?_
     refine sIx T64 S66 rfl rfl (show 1 < e.args.length by rw [ha]; simp) ?_
     refine sLdA A66 S66 rfl ((k36 _ hPb).trans hgb) hsz1 ?_
     refine sMn rfl ?_
     refine sMn rfl ?_
     obtain ⟨r37, m37, h37, z37, k37, bv37, hB37⟩ := ih (t := t) (f := f) hB36 (by omega) (hata1.frame fun b hb _ => ⟨hb, k36 b hb⟩) (hfa a1 hm1) (by omega) (by omega) (by simp only [List.length_append]; omega)
     refine sCall4 rfl call113 rfl rfl rfl rfl h37 ?_
     refine sNil (kBlkN ?_)
     obtain ⟨q1, q2, q3⟩ := hfin (by omega) (fun b hb => (k37 b hb).trans (k36 b hb)) hB37
     exact ⟨.inl rfl, _, rfl, q1, q2, bv37, by rw [← List.append_assoc, ← Nat.max_assoc]; exact q3⟩
    ·
     refine cSR ?_
     refine sBin (a := kn) (b := 3) rfl rfl aInt_eql ?_
     refine sAb rfl ?_
     refine sN ?_
     refine cCond (p := kn = 3) rfl (fun c4 => ?_) (fun c4 => ?_)
     ·
      have hal : e.args.length = 2 := by rw [hkl, c4]; rfl
      have hg : gK (gT D) kn e t f = gBoth (gT D) e.args t f := by rw [gK, if_neg c0, if_neg c1, if_neg c2, if_neg c3, if_pos c4]
      have hu : uK (uT D) kn e f = inU (uT D) e.args f := by rw [uK, if_neg c0, if_neg c1, if_neg c2, if_neg c3, if_pos c4]
      rw [hg] at hlen
      rw [hg, hu]
      have hnf : ∀ a ∈ e.args, nfB d a ≤ D := fun a ha => by have := nf_arg (d := d) ha; omega
      obtain ⟨b, o, r, c, rfl, _, hPb, hgb, hall⟩ := hat1.all (by intro h; rw [h] at hal; cases hal)
      refine cRegion ?_
      refine sMv (v := .pointer _) rfl ?_
      refine sFA F66_2 rfl ?_
      refine sLd (v := .slice (some ⟨b, o, some 3⟩) e.args.length cap) A64 rfl g1 rfl ?_
      rw [hal]
      refine sMn rfl ?_
      refine sMn rfl ?_
      obtain ⟨r67, m67, h67, z67, k67, bv67, hB67⟩ := spec_both (cp0 := cap) ih (t := t) (f := f) hB1 (by omega) hPb hgb hall hal (fun a ha => hfa a ha) hnf (by omega) hlen
      refine sCall4 rfl call139 rfl rfl rfl rfl h67 ?_
      refine sNil (kBlkN ?_)
      obtain ⟨q1, q2, q3⟩ := hfin z67 k67 hB67
      exact ⟨.inl rfl, _, rfl, q1, q2, bv67, q3⟩
     ·
      refine cSR ?_
      refine sBin (a := kn) (b := 5) rfl rfl aInt_eql ?_
      refine sAb rfl ?_
      refine sN ?_
      refine cCond (p := kn = 5) rfl (fun c5 => ?_) (fun c5 => ?_)
      ·
       obtain ⟨a0, a1, ha⟩ := two_args (show e.args.length = 2 by rw [hkl, c5]; rfl)
       have hk5 : e.kind = 5 := by rw [hk, c5]; rfl
       have hg : gK (gT D) kn e t f = gBoth (gT D) [notX a0, notX a1] t f ++ [turnG t []] := by rw [gK, if_neg c0, if_neg c1, if_neg c2, if_neg c3, if_neg c4, if_pos c5, ha]; rfl
       have hu : uK (uT D) kn e f = inU (uT D) [notX a0, notX a1] f := by rw [uK, if_neg c0, if_neg c1, if_neg c2, if_neg c3, if_neg c4, if_pos c5, ha]; rfl
       rw [hg] at hlen
       rw [hg, hu]
       simp only [List.length_append, List.length_singleton] at hlen
       have hma0 : a0 ∈ e.args := by rw [ha]; simp
       have hma1 : a1 ∈ e.args := by rw [ha]; simp
       have hi0 : e.args[0]? = some a0 := by rw [ha]; rfl
       have hi1 : e.args[1]? = some a1 := by rw [ha]; rfl
       have hnf := nf_arg5 (d := d) hma0 hk5
       have hnf1 := nf_arg5 (d := d) hma1 hk5
       obtain ⟨b, o, r, c, rfl, _, hPb, hgb, hall⟩ := hat1.all (by rw [ha]; simp)
       obtain ⟨hsz, hata⟩ := hall 0 a0 hi0
       obtain ⟨hsz1, hata1⟩ := hall 1 a1 hi1
       obtain ⟨_, qa0, ca0, _, hca0⟩ := hata.agg
       obtain ⟨_, qa1, ca1, _, hca1⟩ := hata1.agg
       refine cSeq ?_
       refine cDrawH (hs := [(7, 0), (9, 0)]) rfl (by decide) ?_
       refine lStepO (sMv (v := .pointer _) rfl (sNil fun e0 hm0 => ?_))
       refine lStepO (sFA F66_2 rfl (sNil fun e1 hm1 => ?_))
       refine lStepLd (v := .slice (some ⟨b, o, some 3⟩) e.args.length cap) A64 rfl g1 rfl fun e2 hm2 hv2 hr2 => ?_
       refine lStepO (sIx T64 S66 rfl rfl (show 0 < e.args.length by rw [ha]; simp) (sNil fun e3 hm3 => ?_))
       refine lStepLdP A66 S66 rfl hgb hsz fun e4 hm4 hv4 hr4 => ?_
       obtain ⟨v75, m75, h75, rfl, g75, e75, z75⟩ := spec_not (m := m1) (k := a0.kind) (x := a0.var) (q := qa0) (n := a0.args.length) (cap := ca0)
       refine lStepO (sCall1 rfl call140 hca0 h75 (sNil fun e5 hm5 => ?_))
       refine lStepO (sFA F66_2 rfl (sNil fun e6 hm6 => ?_))
       refine lStepLd (v := .slice (some ⟨b, o, some 3⟩) e.args.length cap) A64 rfl (e75.cells g1) rfl fun e7 hm7 hv7 hr7 => ?_
       refine lStepO (sIx T64 S66 rfl rfl (show 1 < e.args.length by rw [ha]; simp) (sNil fun e8 hm8 => ?_))
       refine lStepLdP A66 S66 rfl (e75.cells hgb) hsz1 fun e9 hm9 hv9 hr9 => ?_
       obtain ⟨v80, m80, h80, rfl, g80, e80, z80⟩ := spec_not (m := m75) (k := a1.kind) (x := a1.var) (q := qa1) (n := a1.args.length) (cap := ca1)
       refine lStepO (sCall1 rfl call140 hca1 h80 (sNil fun e10 hm10 => ?_))
       refine lStepO (sBuildS T64 S66 Z66 (by decide) (by decide) (by decide) (by kernel_rfl) fill66b rfl (sNil fun e11 hm11 => ?_))
       refine lStepO (sMv (v := nv _) rfl (sNil fun e12 hm12 => ?_))
       refine lStepO (sMv (v := nv _) rfl (sNil fun e13 hm13 => ?_))
       have hX : Ext m1 (m80.push (.cells true #[nv 2, nv 0, .slice (some ⟨m1.size + 2, 0, some 3⟩) 1 1, nv 2, nv 0, .slice (some ⟨m75.size + 2, 0, some 3⟩) 1 1])) := (e75.trans e80).trans (.push _ _)
       have z80' := e80.1
       have hgA : Mem.get (m80.push (.cells true #[nv 2, nv 0, .slice (some ⟨m1.size + 2, 0, some 3⟩) 1 1, nv 2, nv 0, .slice (some ⟨m75.size + 2, 0, some 3⟩) 1 1])) (m1.size + 2) = .cells true #[.int .i64 a0.kind, .int .i64 a0.var, .slice qa0 a0.args.length ca0] := (gPn (by omega)).trans (e80.cells g75)
       have hgB : Mem.get (m80.push (.cells true #[nv 2, nv 0, .slice (some ⟨m1.size + 2, 0, some 3⟩) 1 1, nv 2, nv 0, .slice (some ⟨m75.size + 2, 0, some 3⟩) 1 1])) (m75.size + 2) = .cells true #[.int .i64 a1.kind, .int .i64 a1.var, .slice qa1 a1.args.length ca1] := (gPn (by omega)).trans g80
       have hgC : Mem.get (m80.push (.cells true #[nv 2, nv 0, .slice (some ⟨m1.size + 2, 0, some 3⟩) 1 1, nv 2, nv 0, .slice (some ⟨m75.size + 2, 0, some 3⟩) 1 1])) m80.size = .cells true #[nv 2, nv 0, .slice (some ⟨m1.size + 2, 0, some 3⟩) 1 1, nv 2, nv 0, .slice (some ⟨m75.size + 2, 0, some 3⟩) 1 1] := gP rfl
       have z81 : (m80.push (.cells true #[nv 2, nv 0, .slice (some ⟨m1.size + 2, 0, some 3⟩) 1 1, nv 2, nv 0, .slice (some ⟨m75.size + 2, 0, some 3⟩) 1 1])).size = m80.size + 1 := by simp
       generalize m80.push (.cells true #[nv 2, nv 0, .slice (some ⟨m1.size + 2, 0, some 3⟩) 1 1, nv 2, nv 0, .slice (some ⟨m75.size + 2, 0, some 3⟩) 1 1]) = m81 at *
       have hB81 : BldP (fun b => (P b ∨ b = m.size) ∨ (m1.size ≤ b ∧ b < m81.size)) N bb m81 W Gs bv := hB1.move hX.1 (fun b hb _ => hX.2 b hb) fun b hb => by
        rcases hb with hb | hb
        ·exact ⟨by have := hB1.lt hb; have := hX.1; omega, .inl hb⟩
        ·exact ⟨hb.2, .inr hb.1⟩
       have hat0 : BAt (fun b => (P b ∨ b = m.size) ∨ (m1.size ≤ b ∧ b < m81.size)) m81 (d + 1) (.agg #[nv 2, nv 0, .slice (some ⟨m1.size + 2, 0, some 3⟩) 1 1]) (notX a0) := not_at (.inr ⟨by omega, by omega⟩) hgA (by rw [← hca0]; exact hata.frame fun b hb hl => ⟨.inl hb, hX.2 b hl⟩)
       have hat1' : BAt (fun b => (P b ∨ b = m.size) ∨ (m1.size ≤ b ∧ b < m81.size)) m81 (d + 1) (.agg #[nv 2, nv 0, .slice (some ⟨m75.size + 2, 0, some 3⟩) 1 1]) (notX a1) := not_at (.inr ⟨by omega, by omega⟩) hgB (by rw [← hca1]; exact hata1.frame fun b hb hl => ⟨.inl hb, hX.2 b hl⟩)
       obtain ⟨r67, m67, h67, z67, k67, bv67, hB67⟩ := spec_both (cp0 := 2) (o0 := 0) ih (l := [notX a0, notX a1]) (d := d + 1) (t := t) (f := f) hB81 (by have := hX.1; omega) (.inr ⟨by omega, by omega⟩) hgC (fun i a hi => by
        have h1 := (List.getElem?_eq_some_iff.1 hi).1
        have hi' : i = 0 ∨ i = 1 := by simp at h1; omega
        rcases hi' with rfl | rfl
        ·obtain rfl : notX a0 = a := by injection hi
         exact ⟨by simp, hat0⟩
        ·obtain rfl : notX a1 = a := by injection hi
         exact ⟨by simp, hat1'⟩) rfl (fun a ha' => by
        rcases List.mem_cons.1 ha' with rfl | ha'
        ·exact fm_not (hfa a0 hma0)
        ·rcases List.mem_cons.1 ha' with rfl | ha'
         ·exact fm_not (hfa a1 hma1)
         ·cases ha') (fun a ha' => by
        rcases List.mem_cons.1 ha' with rfl | ha'
        ·rw [nf_not]; omega
        ·rcases List.mem_cons.1 ha' with rfl | ha'
         ·rw [nf_not]; omega
         ·cases ha') (by omega) (by omega)
       refine lStepO (sCall4 rfl call139 rfl rfl rfl rfl h67 (sNil fun e14 hm14 => ?_))
       refine ⟨?_, (kSeqN ?_)⟩
       ·
        refine obl_atE (e := e7) (e' := e0) (by simp) (by rfl) (by simp) ((hr7 e0.m _ _ (by rw [hm0]; exact g1) (by rfl)).trans (congrArg some hv7.symm)) ?_
        refine obl_atE (e := e9) (e' := e0) (by simp) (by rfl) (by simp) ((hr9 e0.m _ (by rw [hm0]; exact hgb)).trans (congrArg some hv9.symm)) ?_
        trivial
       refine cRegion ?_
       refine sMv (v := .pointer _) rfl ?_
       refine sMn rfl ?_
       have hB67' : BldP (fun b => P b ∨ b = m.size) N bb m67 (max W (inU (uT D) [notX a0, notX a1] f)) (Gs ++ gBoth (gT D) [notX a0, notX a1] t f) bv67 := hB67.move (Nat.le_refl _) (fun _ _ _ => rfl) fun b hb => ⟨by have := hB67.lt (.inl hb); omega, .inl (.inl hb)⟩
       obtain ⟨v14, m14, h14, w14, rfl, o14, e14⟩ := spec_turn (m := m67) (k := t) (a := .slice none 0 0) (l := []) (.inl ⟨rfl, .inl rfl⟩) (by simp)
       obtain ⟨q14, c14, rfl⟩ := o14.ints.lenN
       refine sCall2 rfl call78 rfl rfl h14 ?_
       refine sBuildS T28 S49 Z49 (by decide) (by decide) (by decide) (by kernel_rfl) fillA4 rfl ?_
       obtain ⟨r16, m16, h16, bv16, hB16, z16, k16⟩ := hone (gk := kindM [].length) hB67' (by have := hX.1; omega) e14 o14 (by simp only [List.length_append]; omega)
       refine sCall2 rfl call75 rfl rfl h16 ?_
       refine sNil (kBlkN ?_)
       obtain ⟨q1, q2, q3⟩ := hfin (by have := hX.1; omega) (fun b hb => (k16 b hb).trans ((k67 b (.inl hb)).trans (hX.2 b (hB1.lt hb)))) hB16
       exact ⟨.inl rfl, _, rfl, q1, q2, bv16, by rw [← List.append_assoc]; exact q3⟩
      ·
       have hg : gK (gT D) kn e t f = [] := by rw [gK, if_neg c0, if_neg c1, if_neg c2, if_neg c3, if_neg c4, if_neg c5]
       have hu : uK (uT D) kn e f = 0 := by rw [uK, if_neg c0, if_neg c1, if_neg c2, if_neg c3, if_neg c4, if_neg c5]
       rw [hg, hu, Nat.max_zero, List.append_nil]
       refine cSkip (kBlkN ?_)
       obtain ⟨q1, q2, q3⟩ := hfin (Nat.le_refl _) (fun b _ => rfl) hB1
       exact ⟨.inl rfl, _, rfl, q1, q2, bv, q3⟩
end Go.AM

/-! R27 -/
namespace Go.AM
open Go.Proofs
def cpG0 (n d : Nat) (e : BX) : List Gt := gT (nfB d e) e n (n + 1)
def cpW0 (n d : Nat) (e : BX) : Nat := max (n + 1) (uT (nfB d e) e (n + 1))
def cpE (vars : Int) (d : Nat) (e : BX) : Nat := if goodB vars d e ≠ 0 then goodB vars d e else if 12 < cpW0 vars.toNat d e then 12 else if 120 < (cpG0 vars.toNat d e).length then 2 else 0
def cpN (vars : Int) (d : Nat) (e : BX) : Nat := if cpE vars d e = 0 then cpW0 vars.toNat d e else 0
def cpG (vars : Int) (d : Nat) (e : BX) : List Gt := if cpE vars d e = 0 then cpG0 vars.toNat d e else []
theorem sCallB3 {ρ : Env} {m m' : Mem} {K : Env → Mem → Prop} {ops : Array Oper} {l : List Oper} {d : Option Nat} {ty : TypeId} {pos : String} {af : Array Edge} {v : Value} {f x y z : Operand} {tys : Array TypeId} {g : FuncId} {a b c e : Value}
  (hv : evR ρ f = .func (.func g) #[a] #[]) (hk : callable Tryd.prog g = true) (h1 : evR ρ x = b) (h2 : evR ρ y = c) (h3 : evR ρ z = e) (h : ACalls Tryd.prog g #[a, b, c, e] m v m') (hK : wpOps Tryd.prog ops K l (updO ρ d v) m') :
  wpOps Tryd.prog ops K (⟨d, .call ⟨.value f, ⟨[x, y, z]⟩, tys⟩, ty, pos, af, none⟩ :: l) ρ m := sCall hv hk (by simpa [h1, h2, h3] using h) hK
theorem okf55 : okF Tryd.prog H0 55 42 = true := by kernel_rfl
theorem spec_Compile (vars : Int) (d : Nat) {m : Mem} {v : Value} {e : BX} (hG : GlobW m) (h : BAt (fun b => b < m.size) m d v e) (hs : szB d e ≤ 1000000) : ∃ v' m', ACalls Tryd.prog 55 #[v, .int .i64 vars] m v' m' ∧ (∃ s cs, v' = .tuple #[.agg #[nv (cpN vars d e), nv 0, s], nv (cpE vars d e)] ∧ OwnG m.size m' s cs (cpG vars d e) ∧ Ext m m') := by
 obtain ⟨d', q, cap, hd, rfl⟩ := h.agg
 refine wpF (args := [_, _]) mixed okf55 (fn := Tryd.f55) rfl rfl rfl (by simp) ?_
 refine cSR ?_
 refine sBox (v := .agg _) rfl ?_
 change wpOps _ _ _ _ _ (m.push (.cells true #[.int .i64 e.kind, .int .i64 e.var, .slice q e.args.length cap]))
 refine sAllocB (bl := m.size + 1) (by simp) Z30 (by kernel_rfl) ?_
 change wpOps _ _ _ _ _ ((m.push (.cells true #[.int .i64 e.kind, .int .i64 e.var, .slice q e.args.length cap])).push (.cells true #[nv 0, nv 0, .slice none 0 0]))
 have e1 : Ext m ((m.push (.cells true #[.int .i64 e.kind, .int .i64 e.var, .slice q e.args.length cap])).push (.cells true #[nv 0, nv 0, .slice none 0 0])) := (Ext.push _ _).trans (.push _ _)
 have g1 : Mem.get ((m.push (.cells true #[.int .i64 e.kind, .int .i64 e.var, .slice q e.args.length cap])).push (.cells true #[nv 0, nv 0, .slice none 0 0])) m.size = .cells true #[.int .i64 e.kind, .int .i64 e.var, .slice q e.args.length cap] := (gPn (by simp)).trans (gP rfl)
 have g2 : Mem.get ((m.push (.cells true #[.int .i64 e.kind, .int .i64 e.var, .slice q e.args.length cap])).push (.cells true #[nv 0, nv 0, .slice none 0 0])) (m.size + 1) = .cells true #[nv 0, nv 0, .slice none 0 0] := gP (by simp)
 have z1 : ((m.push (.cells true #[.int .i64 e.kind, .int .i64 e.var, .slice q e.args.length cap])).push (.cells true #[nv 0, nv 0, .slice none 0 0])).size = m.size + 2 := by simp
 generalize (m.push (.cells true #[.int .i64 e.kind, .int .i64 e.var, .slice q e.args.length cap])).push (.cells true #[nv 0, nv 0, .slice none 0 0]) = m1 at *
 refine sAn rfl ?_
 refine sN ?_
 refine cSeq (cSR ?_)
 refine sLdAll A66 S66 rfl g1 rfl ?_
 refine sMv (v := .int .i64 vars) rfl ?_
 obtain ⟨v11, m11, h11, rfl, e11⟩ := spec_Good vars d (hG.ext e1) (h.ext e1) hs
 refine sCall2 rfl call57 rfl rfl h11 ?_
 have g211 := e11.cells g2
 have z11 := e11.1
 have hfail : ∀ (er : Nat) (M : Mem), cpE vars d e = er → er ≠ 0 → Ext m M → m.size + 1 < M.size → ∃ s cs, (Value.tuple #[.agg #[nv 0, nv 0, .slice none 0 0], nv er] : Value) = .tuple #[.agg #[nv (cpN vars d e), nv 0, s], nv (cpE vars d e)] ∧ OwnG m.size (M.setIfInBounds (m.size + 1) (.cells true #[nv 0, nv 0, .slice none 0 0])) s cs (cpG vars d e) ∧ Ext m (M.setIfInBounds (m.size + 1) (.cells true #[nv 0, nv 0, .slice none 0 0])) := by
  intro er M h1 h2 h3 h4
  refine ⟨.slice none 0 0, #[], ?_, ?_, h3.set (by omega) _⟩
  ·rw [h1, cpN, h1, if_neg h2]
  ·rw [cpG, h1, if_neg h2]; exact .nil _ _
 refine sAn rfl ?_
 refine sN ?_
 refine cSR ?_
 refine sMn rfl ?_
 refine sBin (a := goodB vars d e) (b := 0) rfl rfl aInt_neq ?_
 refine sN ?_
 refine cCond (p := goodB vars d e ≠ 0) rfl (fun c0 => ?_) (fun c0 => ?_)
 ·
  refine cSR ?_
  refine sBuild B57_0 ?_
  refine sMn rfl ?_
  refine sStAll S30 rfl rfl g211 rfl rfl (by kernel_rfl) ?_
  refine sAn rfl ?_
  refine sN ?_
  refine cRet (kSeqR ?_)
  exact ⟨.inr rfl, _, resRs_agg2 A30 S30 rfl (gS rfl (by omega)) rfl, hfail _ m11 (by rw [cpE, if_pos c0]) c0 (e1.trans e11) (by omega)⟩
 ·
  have hgv : ¬ (vars < 1 ∨ 8 < vars) := fun hh => c0 (by rw [goodB, if_pos hh]; decide)
  have h00 := Decidable.not_not.1 c0
  rw [goodB, if_neg hgv] at h00
  have hs24 : ¬ 24 < szB d e := fun hh => by rw [if_pos hh] at h00; cases h00
  rw [if_neg hs24] at h00
  obtain ⟨n, rfl⟩ : ∃ n : Nat, vars = Int.ofNat n := ⟨vars.toNat, by simp; omega⟩
  have hn8 : n ≤ 8 := by
   have h8 : Int.ofNat n ≤ 8 := by omega
   exact Int.ofNat_le.1 h8
  have hnf := nf_sz d e
  have hE : cpE (Int.ofNat n) d e = if 12 < cpW0 n d e then 12 else if 120 < (cpG0 n d e).length then 2 else 0 := by rw [cpE, if_neg c0]; rfl
  have hlen : (cpG0 n d e).length ≤ 200000 := gT_len h00 (by omega)
  refine cSkip (kSeqN ?_)
  refine cSR ?_
  refine sMn rfl ?_
  refine sBin (a := n) (b := 1) rfl rfl (aInt_add (by omega)) ?_
  refine sBuild B57_1 ?_
  refine sBuild B96 ?_
  refine sAllocB (bl := m11.size) rfl Z96 (by kernel_rfl) ?_
  refine sStNAB rfl S96 rfl rfl rfl rfl (by kernel_rfl) ?_
  have e7 : Ext m11 (m11.push (.cells true #[nv (n + 1), nv 0, .slice none 0 0])) := .push _ _
  have hB0 : BldP (fun b => b < m11.size) (m11.size + 1) m11.size (m11.push (.cells true #[nv (n + 1), nv 0, .slice none 0 0])) (n + 1) [] (.slice none 0 0) := ⟨gP rfl, by omega, fun b hb => ⟨by simp; omega, by omega, fun e => by cases e⟩, #[], .nil _ _, fun i s hi => by simp at hi⟩
  have z7 : (m11.push (.cells true #[nv (n + 1), nv 0, .slice none 0 0])).size = m11.size + 1 := by simp
  generalize m11.push (.cells true #[nv (n + 1), nv 0, .slice none 0 0]) = m7 at *
  refine sN ?_
  refine cSR ?_
  refine sMFf rfl ?_
  refine sAs (v := .func _ _ _) rfl ?_
  refine sN ?_
  refine cSR ?_
  refine sMv (v := .func _ _ _) rfl ?_
  refine sLdAll A66 S66 rfl (e7.cells (e11.cells g1)) rfl ?_
  refine sMv (v := nv n) rfl ?_
  refine sMv (v := nv n) rfl ?_
  refine sBin (a := n) (b := 1) rfl rfl (aInt_add (by omega)) ?_
  obtain ⟨r26, m26, h26, z26, k26, bv, hB26⟩ := spec_to (Int.ofNat n) (nfB d e) (t := n) (f := n + 1) hB0 (by omega) (((h.ext e1).ext e11).frame (P' := fun b => b < m11.size) fun b hb hl => ⟨by omega, e7.2 b hl⟩) h00 (Nat.le_refl _) (by omega) (by simp only [List.length_nil, Nat.zero_add]; exact hlen)
  refine sCallB3 rfl call113 rfl rfl rfl h26 ?_
  have hx26 : Ext m m26 := ⟨by omega, fun b hb => by rw [k26 b (by omega), e7.2 b (by omega), e11.2 b (by omega)]; exact e1.2 b hb⟩
  have g226 : Mem.get m26 (m.size + 1) = .cells true #[nv 0, nv 0, .slice none 0 0] := by rw [k26 _ (by omega), e7.2 _ (by omega)]; exact g211
  rw [List.nil_append] at hB26
  obtain ⟨qb, cpb, rfl⟩ := hB26.len
  change BldP _ _ _ _ (cpW0 n d e) (cpG0 n d e) (.slice qb (cpG0 n d e).length cpb) at hB26
  refine sN ?_
  refine cSeq (cBlock (cSR ?_))
  refine sFA F96_0 rfl ?_
  refine sFA F30_0 rfl ?_
  refine sLd (v := nv (cpW0 n d e)) A3 rfl hB26.1 rfl ?_
  refine sBin (a := cpW0 n d e) (b := 12) rfl rfl aInt_gtr ?_
  refine sAb rfl ?_
  refine sN ?_
  refine cCond (p := 12 < cpW0 n d e) rfl (fun c1 => ?_) (fun c1 => ?_)
  ·
   refine cSR ?_
   refine sBuild B57_0 ?_
   refine sStAll S30 rfl rfl g226 rfl rfl (by kernel_rfl) ?_
   refine sAs (v := nv 12) rfl ?_
   refine sN ?_
   refine cRet (kBlkR (kSeqR ?_))
   exact ⟨.inr rfl, _, resRs_agg2 A30 S30 rfl (gS rfl (by omega)) rfl, hfail 12 m26 (by rw [hE, if_pos c1]) (by decide) hx26 (by omega)⟩
  ·
   refine cSR ?_
   refine sFA F96_0 rfl ?_
   refine sFA F30_2 rfl ?_
   refine sLd (v := .slice qb (cpG0 n d e).length cpb) A28 rfl hB26.1 rfl ?_
   refine sLen T28 rfl ?_
   refine sBin (a := (cpG0 n d e).length) (b := 120) rfl rfl aInt_gtr ?_
   refine sAb rfl ?_
   refine sN ?_
   refine cCond (p := 120 < (cpG0 n d e).length) rfl (fun c2 => ?_) (fun c2 => ?_)
   ·
    refine cSR ?_
    refine sBuild B57_0 ?_
    refine sStAll S30 rfl rfl g226 rfl rfl (by kernel_rfl) ?_
    refine sAs (v := nv 2) rfl ?_
    refine sN ?_
    refine cRet (kBlkR (kSeqR ?_))
    exact ⟨.inr rfl, _, resRs_agg2 A30 S30 rfl (gS rfl (by omega)) rfl, hfail 2 m26 (by rw [hE, if_neg c1, if_pos c2]) (by decide) hx26 (by omega)⟩
   ·
    refine cSkip (kBlkN (kSeqN ?_))
    refine cSR ?_
    refine sFA F96_0 rfl ?_
    refine sLdAll A30 S30 rfl hB26.1 rfl ?_
    refine sStAll S30 rfl rfl g226 rfl rfl (by kernel_rfl) ?_
    refine sAn rfl ?_
    refine sN ?_
    refine cRet ?_
    have hE0 : cpE (Int.ofNat n) d e = 0 := by rw [hE, if_neg c1, if_neg c2]
    obtain ⟨_, _, _, cs, hO, _⟩ := hB26
    refine ⟨.inr rfl, _, resRs_agg2 A30 S30 rfl (gS rfl (by omega)) rfl, .slice qb (cpG0 n d e).length cpb, cs, ?_, ?_, hx26.set (by omega) _⟩
    ·rw [cpN, hE0, if_pos rfl]; rfl
    ·rw [cpG, hE0, if_pos rfl]
     exact (hO.only (.set (m.size + 1) m26 _) (by omega)).mono (by omega)
end Go.AM

/-! R28 -/
namespace Go.AM
open Go.Proofs
def firstS (n : Nat) (so : Nat → Bool) : Option Nat := (List.range (2 ^ n)).find? so
def foundN (n : Nat) (so : Nat → Bool) : Nat := (firstS n so).getD 0
def foundE (n : Nat) (so : Nat → Bool) : Nat := if (firstS n so).isSome then 0 else 6
theorem firstS_none {n : Nat} {so : Nat → Bool} (h : ∀ x, x < 2 ^ n → so x = false) : firstS n so = none := by
 unfold firstS
 rw [List.find?_eq_none]
 intro x hx
 rw [h x (List.mem_range.1 hx)]; decide
theorem firstS_some {n i : Nat} {so : Nat → Bool} (hi : i < 2 ^ n) (h : so i = true) (h0 : ∀ x, x < i → so x = false) : firstS n so = some i := by
 unfold firstS
 rw [List.find?_range_eq_some]
 exact ⟨h, List.mem_range.2 hi, fun x hx => by rw [h0 x hx]; rfl⟩
theorem spec_statesX {m : Mem} {lp p n : Nat} {J E : Nat → Mem → Prop} (hn : n ≤ 12)
  (hview : ∀ i m', J i m' → ∃ r, Mem.get m' p = .cells r #[nv n])
  (hJ : ∀ i m', i < 2 ^ n → J i m' → ∃ c m'', ARound Tryd.prog lp #[nv i] m' (.bool c) m'' ∧ (c = true ∧ J (i + 1) m'' ∨ c = false ∧ E i m''))
  (h0 : J 0 m) : ∃ v m', ACalls Tryd.prog 149 #[.func (.yield lp) #[] #[], .pointer (some ⟨p, 0, none⟩)] m v m' ∧ (J (2 ^ n) m' ∨ ∃ i, i < 2 ^ n ∧ E i m') := by
 obtain ⟨r, g1⟩ := hview 0 m h0
 have hp10 : 2 ^ n ≤ 2 ^ 12 := Nat.pow_le_pow_right (by omega) hn
 refine wpF (args := [_, _]) mixed okf149 (fn := Tryd.f149) rfl rfl rfl (by simp) ?_
 refine cSR ?_
 refine sLd (v := nv n) A3 rfl g1 rfl ?_
 refine sBin rfl rfl (aInt_shl (a := 1) (by omega)) ?_
 rw [Nat.shiftLeft_eq, Nat.one_mul]
 refine sMv (v := nv 0) rfl ?_
 refine sN ?_
 refine cBlock ?_
 refine wpC_loop (fun k' ρ m' => ∃ i, k' = 2 ^ n - i ∧ i ≤ 2 ^ n ∧ J i m' ∧ Has ρ [(0, .func (.yield lp) #[] #[]), (5, nv (2 ^ n)), (6, nv i)]) ⟨0, rfl, Nat.zero_le _, h0, rfl, rfl, rfl, trivial⟩ ?_
 clear g1
 rintro k' ρ m' ⟨i, rfl, hi, hJi, hh⟩
 rw [hh.env]; clear hh
 refine cSR ?_
 refine sBin rfl rfl (aInt_lss) ?_
 refine sN ?_
 refine cSeq ?_
 refine cCond rfl (fun c0 => ?_) (fun c0 => ?_)
 ·
  refine cSkip (kSeqN ?_)
  refine cSeq (cBlock (cSR ?_))
  refine sMn rfl ?_
  refine sAn rfl ?_
  refine sN ?_
  refine cSR ?_
  refine sMv (v := .func _ _ _) rfl ?_
  refine sMn rfl ?_
  obtain ⟨c, m11, hR, hc⟩ := hJ i m' c0 hJi
  refine sYield1 rfl rfl hR ?_
  refine sP (v := .bool (!c)) rfl ?_
  refine sN ?_
  refine cCond (p := c = false) (by cases c <;> rfl) (fun c1 => ?_) (fun c1 => ?_)
  ·
   refine cRet (kBlkR (kSeqR (kSeqR (kBlkR ?_))))
   rcases hc with ⟨h, _⟩ | ⟨_, h⟩
   ·rw [h] at c1; cases c1
   ·exact ⟨.inr rfl, _, rfl, .inr ⟨i, c0, h⟩⟩
  ·
   refine cSkip (kBlkN (kSeqN ?_))
   refine cRegion ?_
   refine sBin rfl rfl (aInt_add (b := 1) (by omega)) ?_
   refine sMn rfl ?_
   refine sN ?_
   rcases hc with ⟨_, h⟩ | ⟨h, _⟩
   ·exact ⟨_, (by omega), i + 1, rfl, by omega, h, rfl, rfl, rfl, trivial⟩
   ·exact absurd h c1
 ·
  refine cExit (kSeqE (kSeqE (kBlkS ?_)))
  obtain rfl : i = 2 ^ n := by omega
  exact ⟨.inl rfl, _, rfl, .inl hJi⟩
theorem spec_foundX {m : Mem} {n fid : Nat} {c1 c2 : Value} {so : Nat → Bool} (hn : n ≤ 12) (hcall : callable Tryd.prog fid = true) (hso : ∀ x, x < 2 ^ n → ∀ m', Ext m m' → ∃ v m'', ACalls Tryd.prog fid #[nv x, c1, c2] m' v m'' ∧ (v = .bool (so x) ∧ Ext m' m'')) : ∃ v m', ACalls Tryd.prog 103 #[nv n, .func (.func fid) #[] #[c1, c2]] m v m' ∧ (v = .tuple #[nv (foundN n so), nv (foundE n so)] ∧ Ext m m') := by
 refine wpF (args := [_, _]) mixed okf103 (fn := Tryd.f103) rfl rfl rfl (by simp) ?_
 refine cSR ?_
 refine sBox (v := .func (.func fid) #[] #[c1, c2]) rfl ?_
 change wpOps _ _ _ _ _ (m.push (.cells true #[.func (.func fid) #[] #[c1, c2]]))
 refine sAllocB (bl := m.size + 1) (by simp) Z3 (by kernel_rfl) ?_
 refine sAllocB (bl := m.size + 2) (by simp) Z25 (by kernel_rfl) ?_
 change wpOps _ _ _ _ _ (((m.push (.cells true #[.func (.func fid) #[] #[c1, c2]])).push (.cells true #[nv 0])).push (.cells true #[nv 0]))
 have e1 : Ext m (((m.push (.cells true #[.func (.func fid) #[] #[c1, c2]])).push (.cells true #[nv 0])).push (.cells true #[nv 0])) := ((Ext.push _ _).trans (.push _ _)).trans (.push _ _)
 have hz : (((m.push (.cells true #[.func (.func fid) #[] #[c1, c2]])).push (.cells true #[nv 0])).push (.cells true #[nv 0])).size = m.size + 3 := by simp
 have g3 : Mem.get (((m.push (.cells true #[.func (.func fid) #[] #[c1, c2]])).push (.cells true #[nv 0])).push (.cells true #[nv 0])) m.size = .cells true #[.func (.func fid) #[] #[c1, c2]] := by rw [gPn (by simp; omega), gPn (by simp), gP rfl]
 have g4 : Mem.get (((m.push (.cells true #[.func (.func fid) #[] #[c1, c2]])).push (.cells true #[nv 0])).push (.cells true #[nv 0])) (m.size + 1) = .cells true #[nv 0] := by rw [gPn (by simp), gP (by simp)]
 have g5 : Mem.get (((m.push (.cells true #[.func (.func fid) #[] #[c1, c2]])).push (.cells true #[nv 0])).push (.cells true #[nv 0])) (m.size + 2) = .cells true #[nv 0] := gP (by simp)
 generalize ((m.push (.cells true #[.func (.func fid) #[] #[c1, c2]])).push (.cells true #[nv 0])).push (.cells true #[nv 0]) = M at *
 refine sN ?_
 refine cScope (cSeq ?_)
 refine cLabel (kSeqN ?_)
 refine cSeq (cSR ?_)
 refine sMn rfl ?_
 obtain ⟨v8, m8, h8, rfl, rfl⟩ := spec_states (m := M) (n := n)
 refine sCall1 rfl call130 rfl h8 ?_
 have e2 : Ext M (M.push (.cells true #[nv n])) := .push _ _
 have g8 : Mem.get (M.push (.cells true #[nv n])) M.size = .cells true #[nv n] := gP rfl
 have hz2 : (M.push (.cells true #[nv n])).size = m.size + 4 := by simp [hz]
 generalize M.push (.cells true #[nv n]) = M2 at *
 refine sN ?_
 refine cBlock ?_
 refine cRangeX (by kernel_rfl) mixed (by kernel_rfl) rfl call149 ?_
 intro R B D hD hround
 have hJ : ∀ i m1, i < 2 ^ n → ((∀ x, x < i → so x = false) ∧ Low M2.size M2 m1 ∧ Mem.get m1 M2.size = .loop R) → ∃ c m3, ARound Tryd.prog M2.size #[nv i] m1 (.bool c) m3 ∧ (c = true ∧ ((∀ x, x < i + 1 → so x = false) ∧ Low M2.size M2 m3 ∧ Mem.get m3 M2.size = .loop R) ∨ c = false ∧ (so i = true ∧ (∀ x, x < i → so x = false) ∧ (∀ b, b < M2.size → b ≠ m.size + 1 → b ≠ m.size + 2 → Mem.get m3 b = Mem.get M2 b) ∧ Mem.get m3 (m.size + 1) = .cells true #[nv i] ∧ Mem.get m3 (m.size + 2) = .cells true #[nv 0] ∧ M2.size < m3.size ∧ Mem.get m3 M2.size = .loop (D .ret))) := by
  rintro i m1 hi ⟨hno, hlo, hlp⟩
  have hlt := Mem.lt_of_live (show (Mem.get m1 M2.size).live = true by rw [hlp]; rfl)
  have hgo : (∃ e m3, ARound Tryd.prog M2.size #[nv i] m1 (.bool (AExit.jump e).isNone) m3 ∧ (e = .normal ∧ ((∀ x, x < i + 1 → so x = false) ∧ Low M2.size M2 m3 ∧ Mem.get m3 M2.size = .loop R) ∨ e = .ret ∧ (so i = true ∧ (∀ x, x < i → so x = false) ∧ (∀ b, b < M2.size → b ≠ m.size + 1 → b ≠ m.size + 2 → Mem.get m3 b = Mem.get M2 b) ∧ Mem.get m3 (m.size + 1) = .cells true #[nv i] ∧ Mem.get m3 (m.size + 2) = .cells true #[nv 0] ∧ M2.size < m3.size ∧ Mem.get m3 M2.size = .loop (D .ret)))) → ∃ c m3, ARound Tryd.prog M2.size #[nv i] m1 (.bool c) m3 ∧ (c = true ∧ ((∀ x, x < i + 1 → so x = false) ∧ Low M2.size M2 m3 ∧ Mem.get m3 M2.size = .loop R) ∨ c = false ∧ (so i = true ∧ (∀ x, x < i → so x = false) ∧ (∀ b, b < M2.size → b ≠ m.size + 1 → b ≠ m.size + 2 → Mem.get m3 b = Mem.get M2 b) ∧ Mem.get m3 (m.size + 1) = .cells true #[nv i] ∧ Mem.get m3 (m.size + 2) = .cells true #[nv 0] ∧ M2.size < m3.size ∧ Mem.get m3 M2.size = .loop (D .ret))) := by
   rintro ⟨e, m3, hr, ⟨rfl, h⟩ | ⟨rfl, h⟩⟩
   ·exact ⟨true, m3, hr, .inl ⟨rfl, h⟩⟩
   ·exact ⟨false, m3, hr, .inr ⟨rfl, h⟩⟩
  refine hgo (hround m1 (nv i) _ hlp ?_)
  clear hgo
  have hlo2 : Low M2.size M2 (m1.setIfInBounds M2.size (.loop B)) := hlo.trans (.set (Nat.le_refl _) _)
  have E1 : Ext M2 (m1.setIfInBounds M2.size (.loop B)) := Low.to_ext (.refl _) hlo2 (Nat.le_refl _)
  have hlt2 : M2.size < (m1.setIfInBounds M2.size (.loop B)).size := by simpa using hlt
  have hBB : Mem.get (m1.setIfInBounds M2.size (.loop B)) M2.size = .loop B := gS rfl hlt
  refine cRegion ?_
  refine sAn rfl ?_
  refine sNil ?_
  refine ⟨rfl, hlp, ?_⟩
  generalize m1.setIfInBounds M2.size (.loop B) = m2 at *
  refine cBlock (cSeq (cSR ?_))
  refine sLd (v := .func (.func fid) #[] #[c1, c2]) A131 rfl ((e2.trans E1).cells g3) rfl ?_
  refine sMn rfl ?_
  obtain ⟨v12, m12, h12, rfl, e12⟩ := hso i hi _ (e1.trans (e2.trans E1))
  refine sCall rfl hcall (by simpa [evR, updO] using h12) ?_
  have z12 := e12.1
  refine sP (v := .bool (!so i)) rfl ?_
  refine sN ?_
  refine cCond (p := so i = false) (by cases so i <;> rfl) (fun c0 => ?_) (fun c0 => ?_)
  ·
   refine cExit (kSeqE (kBlkS ?_))
   refine ⟨(e12.2 _ hlt2).trans hBB, .inl ⟨rfl, fun x hx => ?_, (hlo2.trans_ext e12 (by omega)).trans (.set (Nat.le_refl _) _), ?_⟩⟩
   ·by_cases h : x = i
    ·subst h; exact c0
    ·exact hno x (by omega)
   ·rw [hD]; exact gS rfl (by omega)
  ·
   have hsi : so i = true := by simpa using c0
   have g412 := e12.cells ((e2.trans E1).cells g4)
   have g512 := e12.cells ((e2.trans E1).cells g5)
   refine cSkip (kSeqN ?_)
   refine cSR ?_
   refine sMn rfl ?_
   refine sSt (v := nv _) S3 rfl rfl g412 (by simp) rfl rfl ?_
   refine sSt (v := nv 0) S25 rfl rfl ((gSn (by omega)).trans g512) (by simp) rfl rfl ?_
   refine sN ?_
   refine cRet (kBlkR ?_)
   refine ⟨?_, .inr ⟨rfl, hsi, hno, fun b h1 h2 h3 => ?_, ?_, ?_, by simp; omega, gS rfl (by simp; omega)⟩⟩
   ·rw [gSn (by omega), gSn (by omega), e12.2 _ hlt2]; exact hBB
   ·rw [gSn (by omega), gSn (by omega), gSn (by omega), e12.2 b (by omega)]; exact E1.2 b h1
   ·rw [gSn (by omega), gSn (by omega)]; exact gS rfl (live g412)
   ·rw [gSn (by omega)]; exact gS rfl (by simp; exact live g512)
 obtain ⟨v2, m2, h2, hout⟩ := spec_statesX (m := M2.push (.loop R)) (lp := M2.size) (p := M.size) (n := n) (J := fun i m1 => (∀ x, x < i → so x = false) ∧ Low M2.size M2 m1 ∧ Mem.get m1 M2.size = .loop R) (E := fun i m3 => so i = true ∧ (∀ x, x < i → so x = false) ∧ (∀ b, b < M2.size → b ≠ m.size + 1 → b ≠ m.size + 2 → Mem.get m3 b = Mem.get M2 b) ∧ Mem.get m3 (m.size + 1) = .cells true #[nv i] ∧ Mem.get m3 (m.size + 2) = .cells true #[nv 0] ∧ M2.size < m3.size ∧ Mem.get m3 M2.size = .loop (D .ret)) hn (fun i m' h => ⟨true, (Low.to_ext (.refl _) h.2.1 (Nat.le_refl _)).cells g8⟩) hJ ⟨fun x hx => by omega, .push _ (Nat.le_refl _) _, gP rfl⟩
 rcases hout with ⟨hno, hlo, hlp⟩ | ⟨i, hi, hsi, hno, k1, k2, k3, k4, k5⟩
 rotate_left
 ·refine ⟨v2, m2, .ret, h2, k5, (kBlkR (kSeqR ?_))⟩
  refine ⟨.inr rfl, _, resRs_cell2 A3 rfl (by rw [gSn (by omega)]; exact k2) rfl A25 rfl ((gSn (by omega)).trans k3) rfl, ?_, ⟨by simp; omega, fun b hb => ?_⟩⟩
  ·rw [foundN, foundE, firstS_some hi hsi hno]; rfl
  ·rw [gSn (by omega), k1 b (by omega) (by omega) (by omega), e2.2 b (by omega)]; exact e1.2 b hb
 have E2 : Ext M2 (m2.setIfInBounds M2.size .dead) := Low.to_ext (.refl _) (hlo.trans (.set (Nat.le_refl _) _)) (Nat.le_refl _)
 replace g4 := (e2.trans E2).cells g4
 replace g5 := (e2.trans E2).cells g5
 refine ⟨v2, m2, .normal, h2, (by rw [hD]; exact hlp), (kBlkN (kSeqN ?_))⟩
 refine cSR ?_
 refine sSt (v := nv 0) S3 rfl rfl g4 (by simp) rfl rfl ?_
 refine sSt (v := nv 6) S25 rfl rfl (by rw [gSn (by omega)]; exact g5) (by simp) rfl rfl ?_
 refine sN ?_
 refine cRet ?_
 have hz2' := E2.1
 refine ⟨.inr rfl, _, resRs_cell2 A3 rfl (by rw [gSn (by omega)]; exact gS rfl (live g4)) rfl A25 rfl (gS rfl (by simp; have := live g5; simpa using this)) rfl, ?_, ?_⟩
 ·rw [foundN, foundE, firstS_none hno]; rfl
 ·have e9 : Ext m (m2.setIfInBounds M2.size .dead) := e1.trans (e2.trans E2)
  exact (e9.set (b := m.size + 1) (by omega) _).set (b := m.size + 2) (by omega) _
end Go.AM

/-! R29 -/
namespace Go.AM
open Go.Proofs
def cleanS (Gs : List (Nat × List Nat)) (mk x : Nat) : Bool := decide (x &&& mk = 0) && decide (runM Gs x &&& mk ≠ 0)
def borrS (Gs : List (Nat × List Nat)) (mk x : Nat) : Bool := decide ((runM Gs x ^^^ x) &&& mk ≠ 0) || decide (offM (runM Gs x ^^^ runM Gs (offM x mk)) mk ≠ 0)
end Go.AM

/-! R30 -/
namespace Go.AM
open Go.Proofs
/-- A row of given numbers. -/
theorem sRow {ρ : Env} {m : Mem} {K : Env → Mem → Prop} {ops : Array Oper} {l : List Oper} {d : Option Nat} {ty : TypeId} {pos : String} {af : Array Edge} {len : Nat} {ps : Array (Nat × Operand)} (r : List Nat) (hlen : len = r.length) (h1 : len * 1 ≤ 16777216)
  (hf : Instr.fill (fun i => some (i * 1, 1)) (if len * 1 = 0 then #[] else (Array.range (len * 1)).map ((nv 0).cells[· % (nv 0).cells.size]!)) (ps.toList.map fun p => (p.1, evR ρ p.2)) = some (cellsN r))
  (hk : ∀ q m', OwnF 0 m' (.slice q r.length r.length) (ofs r) → Ext m m' → wpOps Tryd.prog ops K l (updO ρ d (.slice q r.length r.length)) m') : wpOps Tryd.prog ops K (⟨d, .buildSlice 22 len ps, ty, pos, af, none⟩ :: l) ρ m := by
 subst hlen
 refine sBuildS T22 S3 Z3 (by decide) h1 (by decide) (by kernel_rfl) hf (by simp) ?_
 refine hk (some ⟨m.size, 0, some 1⟩) _ ?_ (.push _ _)
 have := OwnF.ofCells (N := 0) (m := m.push (.cells true (cellsN r))) (b := m.size) (l := r) (r := []) (Nat.zero_le _) (by rw [List.append_nil]; exact gP rfl)
 rw [List.append_nil] at this
 exact this
def quadsC (l : List (Nat × Value × List Nat)) : Array Value := (l.flatMap fun t => [nv t.1, t.2.1, nv 0, nv 0]).toArray
theorem quads_len (l : List (Nat × Value × List Nat)) : (l.flatMap fun t => [nv t.1, t.2.1, nv 0, nv 0]).length = l.length * 4 := by
 induction l with
 | nil => rfl
 | cons t l ih => rw [List.flatMap_cons, List.length_append, ih, List.length_cons]; simp; omega
theorem quadsC_size (l : List (Nat × Value × List Nat)) : (quadsC l).size = l.length * 4 := by unfold quadsC; rw [List.size_toArray, quads_len]
theorem CircOk.of {n : Nat} {Gs : List (Nat × List Nat)} (h : 1 ≤ n ∧ n ≤ 12 ∧ Gs.length ≤ 120 ∧ ∀ g ∈ Gs, ((g.1 = 1 ∧ g.2.length = 1) ∨ (g.1 = 9 ∧ g.2.length = 2) ∨ (g.1 = 12 ∧ g.2.length = 3)) ∧ (∀ w ∈ g.2, w < n) ∧ g.2.Nodup) : CircOk n Gs :=
 ⟨h.1, h.2.1, h.2.2.1, fun g hg => ⟨(h.2.2.2 g hg).1, (h.2.2.2 g hg).2.1, (h.2.2.2 g hg).2.2⟩⟩
theorem quads_get : ∀ (l : List (Nat × Value × List Nat)) (i : Nat) (t : Nat × Value × List Nat), l[i]? = some t → ∀ j, j < 4 → (l.flatMap fun t => [nv t.1, t.2.1, nv 0, nv 0])[i * 4 + j]? = [nv t.1, t.2.1, nv 0, nv 0][j]?
 | [], i, t, h, j, hj => by simp at h
 | a :: l, 0, t, h, j, hj => by
  obtain rfl : a = t := by simpa using h
  rw [List.flatMap_cons, List.getElem?_append_left (by simp; omega), Nat.zero_mul, Nat.zero_add]
 | a :: l, i + 1, t, h, j, hj => by
  rw [List.flatMap_cons, List.getElem?_append_right (by simp; omega)]
  have := quads_get l i t (by simpa using h) j hj
  rw [← this]; congr 1; simp; omega
theorem ownG_build {m : Mem} (l : List (Nat × Value × List Nat)) (h : ∀ t ∈ l, OwnF 0 m t.2.1 (ofs t.2.2)) : OwnG 0 (m.push (.cells true (quadsC l))) (.slice (some ⟨m.size, 0, some 4⟩) l.length l.length) (quadsC l) (l.map fun t => (t.1, t.2.2)) := by
 refine ⟨.inr ⟨m.size, l.length, quadsC l, by rw [List.length_map], Nat.zero_le _, gP rfl, by rw [List.length_map]; exact Nat.le_refl _, quadsC_size l, by rw [quadsC_size, List.length_map], fun i _ => rfl⟩, fun i g hi => ?_⟩
 rw [List.getElem?_map] at hi
 obtain ⟨t, ht, rfl⟩ := Option.map_eq_some_iff.1 hi
 have hq := quads_get l i t ht
 have ho := h t (List.mem_of_getElem? ht)
 refine ⟨t.2.1, ?_, ?_, ?_, ?_, ho.ext (.push _ _), fun b hb e => ?_⟩
 ·have := hq 0 (by omega); simp [quadsC] at this ⊢; exact this
 ·have := hq 1 (by omega); simp [quadsC] at this ⊢; exact this
 ·have := hq 2 (by omega); simp [quadsC] at this ⊢; exact this
 ·have := hq 3 (by omega); simp [quadsC] at this ⊢; exact this
 ·have h1 := (ho.lt hb).2
  have e' : m.size = b := Option.some.inj e
  omega
/-- Gates that have been made. -/
theorem sGates {ρ : Env} {m : Mem} {K : Env → Mem → Prop} {ops : Array Oper} {l : List Oper} {d : Option Nat} {ty : TypeId} {pos : String} {af : Array Edge} {len : Nat} {ps : Array (Nat × Operand)} (r : List (Nat × Value × List Nat)) (hr : ∀ t ∈ r, OwnF 0 m t.2.1 (ofs t.2.2)) (hlen : len = r.length) (h1 : len * 4 ≤ 16777216)
  (hf : Instr.fill (fun i => some (i * 4, 4)) (if len * 4 = 0 then #[] else (Array.range (len * 4)).map ((Value.agg #[nv 0, .slice none 0 0, nv 0, nv 0]).cells[· % (Value.agg #[nv 0, .slice none 0 0, nv 0, nv 0]).cells.size]!)) (ps.toList.map fun p => (p.1, evR ρ p.2)) = some (quadsC r))
  (hk : ∀ q m' cs, OwnG 0 m' (.slice q r.length r.length) cs (r.map fun t => (t.1, t.2.2)) → Ext m m' → wpOps Tryd.prog ops K l (updO ρ d (.slice q r.length r.length)) m') : wpOps Tryd.prog ops K (⟨d, .buildSlice 28 len ps, ty, pos, af, none⟩ :: l) ρ m := by
 subst hlen
 refine sBuildS T28 S49 Z49 (by decide) h1 (by decide) (by kernel_rfl) hf (quadsC_size r) ?_
 exact hk (some ⟨m.size, 0, some 4⟩) _ _ (ownG_build r hr) (.push _ _)
theorem B49k {k : Nat} {q : Option Addr} {n c : Nat} : aBuild Tryd.prog 49 [(0, nv k), (1, .slice q n c)] = some (.agg #[nv k, .slice q n c, nv 0, nv 0]) := by kernel_rfl
theorem B30k {k : Nat} {q : Option Addr} {n c : Nat} : aBuild Tryd.prog 30 [(0, nv k), (2, .slice q n c)] = some (.agg #[nv k, nv 0, .slice q n c]) := by kernel_rfl
theorem B66k {k : Nat} {q : Option Addr} {n c : Nat} : aBuild Tryd.prog 66 [(0, nv k), (2, .slice q n c)] = some (.agg #[nv k, nv 0, .slice q n c]) := by kernel_rfl
theorem B66v {k : Nat} : aBuild Tryd.prog 66 [(0, nv 1), (1, nv k)] = some (.agg #[nv 1, nv k, .slice none 0 0]) := by kernel_rfl
theorem okf69 : okF Tryd.prog H0 69 8 = true := by kernel_rfl
theorem spec_lgate {m : Mem} {k n c : Nat} {q : Option Addr} : ∃ v m', ACalls Tryd.prog 69 #[nv k, .slice q n c] m v m' ∧ (v = .agg #[nv k, .slice q n c, nv 0, nv 0] ∧ Ext m m') := by
 refine wpF (args := [_, _]) mixed okf69 (fn := Tryd.f69) rfl rfl rfl (by simp) ?_
 refine cSR ?_
 refine sAlloc Z49 (by kernel_rfl) ?_
 refine sN ?_
 refine cSR ?_
 refine sMn rfl ?_
 refine sMs rfl ?_
 refine sBuild B49k ?_
 refine sStAll S49 rfl rfl (gP rfl) rfl rfl (by kernel_rfl) ?_
 refine sN ?_
 refine cRet ?_
 exact ⟨.inr rfl, _, resRs_agg A49 S49 rfl (gS rfl (by simp)) rfl, rfl, (Ext.push _ _).set (Nat.le_refl _) _⟩
theorem okf68 : okF Tryd.prog H0 68 8 = true := by kernel_rfl
theorem spec_lof {m : Mem} {k n c : Nat} {q : Option Addr} : ∃ v m', ACalls Tryd.prog 68 #[nv k, .slice q n c] m v m' ∧ (v = .agg #[nv k, nv 0, .slice q n c] ∧ Ext m m') := by
 refine wpF (args := [_, _]) mixed okf68 (fn := Tryd.f68) rfl rfl rfl (by simp) ?_
 refine cSR ?_
 refine sAlloc Z30 (by kernel_rfl) ?_
 refine sN ?_
 refine cSR ?_
 refine sMn rfl ?_
 refine sMs rfl ?_
 refine sBuild B30k ?_
 refine sStAll S30 rfl rfl (gP rfl) rfl rfl (by kernel_rfl) ?_
 refine sN ?_
 refine cRet ?_
 exact ⟨.inr rfl, _, resRs_agg A30 S30 rfl (gS rfl (by simp)) rfl, rfl, (Ext.push _ _).set (Nat.le_refl _) _⟩
theorem okf71 : okF Tryd.prog H0 71 8 = true := by kernel_rfl
theorem spec_lmade {m : Mem} {k n c : Nat} {q : Option Addr} : ∃ v m', ACalls Tryd.prog 71 #[nv k, .slice q n c] m v m' ∧ (v = .agg #[nv k, nv 0, .slice q n c] ∧ Ext m m') := by
 refine wpF (args := [_, _]) mixed okf71 (fn := Tryd.f71) rfl rfl rfl (by simp) ?_
 refine cSR ?_
 refine sAlloc Z66 (by kernel_rfl) ?_
 refine sN ?_
 refine cSR ?_
 refine sMn rfl ?_
 refine sMs rfl ?_
 refine sBuild B66k ?_
 refine sStAll S66 rfl rfl (gP rfl) rfl rfl (by kernel_rfl) ?_
 refine sN ?_
 refine cRet ?_
 exact ⟨.inr rfl, _, resRs_agg A66 S66 rfl (gS rfl (by simp)) rfl, rfl, (Ext.push _ _).set (Nat.le_refl _) _⟩
theorem okf72 : okF Tryd.prog H0 72 5 = true := by kernel_rfl
theorem spec_lvar {m : Mem} {k : Nat} : ∃ v m', ACalls Tryd.prog 72 #[nv k] m v m' ∧ (v = .agg #[nv 1, nv k, .slice none 0 0] ∧ Ext m m') := by
 refine wpF (args := [_]) mixed okf72 (fn := Tryd.f72) rfl rfl rfl (by simp) ?_
 refine cSR ?_
 refine sAlloc Z66 (by kernel_rfl) ?_
 refine sN ?_
 refine cSR ?_
 refine sMn rfl ?_
 refine sBuild B66v ?_
 refine sStAll S66 rfl rfl (gP rfl) rfl rfl (by kernel_rfl) ?_
 refine sN ?_
 refine cRet ?_
 exact ⟨.inr rfl, _, resRs_agg A66 S66 rfl (gS rfl (by simp)) rfl, rfl, (Ext.push _ _).set (Nat.le_refl _) _⟩
theorem okf70 : okF Tryd.prog H0 70 14 = true := by kernel_rfl
theorem spec_known {m : Mem} {a b : Value} {W B W' B' er : Nat} {l r : List GateV} (ha : GatesAt m a l) (hb : GatesAt m b r) (hl : l.length < 4611686018427387904) (hw : ∀ g ∈ l, g.2.1.length < 4611686018427387904) : ∃ v m', ACalls Tryd.prog 70 #[.agg #[nv W, nv B, a], nv er, .agg #[nv W', nv B', b]] m v m' ∧ (v = .bool (decide (er = 0) && decide (W = W' ∧ B = B' ∧ l = r)) ∧ Ext m m') := by
 obtain ⟨q, cap, rfl⟩ := ha.len
 obtain ⟨q', cap', rfl⟩ := hb.len
 refine wpF (args := [_, _, _]) mixed okf70 (fn := Tryd.f70) rfl rfl rfl (by simp) ?_
 refine cSR ?_
 refine sBox (v := .agg _) rfl ?_
 change wpOps _ _ _ _ _ (m.push (.cells true #[nv W, nv B, .slice q l.length cap]))
 refine sBoxB (bl := m.size + 1) (v := .agg _) (by simp) rfl ?_
 change wpOps _ _ _ _ _ ((m.push (.cells true #[nv W, nv B, .slice q l.length cap])).push (.cells true #[nv W', nv B', .slice q' r.length cap']))
 refine sAb rfl ?_
 refine sN ?_
 refine cSR ?_
 refine sMn rfl ?_
 refine sBin (a := er) (b := 0) rfl rfl aInt_eql ?_
 refine sMb rfl ?_
 by_cases h0 : er = 0
 ·
  rw [decide_eq_true h0]
  refine sG rfl rfl ?_
  refine sLdAll A30 S30 rfl ((gPn (by simp)).trans (gP rfl)) rfl ?_
  refine sG rfl rfl ?_
  refine sLdAll A30 S30 rfl (gP (by simp)) rfl ?_
  refine sG rfl rfl ?_
  obtain ⟨v12, m12, h12, rfl, e12⟩ := spec_Same (W := W) (B := B) (W' := W') (B' := B') (m := (m.push (.cells true #[nv W, nv B, .slice q l.length cap])).push (.cells true #[nv W', nv B', .slice q' r.length cap'])) ((ha.ext (.push _ _)).ext (.push _ _)) ((hb.ext (.push _ _)).ext (.push _ _)) hl hw
  refine sCall2 rfl call20 rfl rfl h12 ?_
  refine sPb rfl ?_
  refine sAb rfl ?_
  refine sN ?_
  refine cRet ?_
  exact ⟨.inr rfl, _, rfl, rfl, ((Ext.push _ _).trans (.push _ _)).trans e12⟩
 ·
  rw [decide_eq_false h0]
  refine sGF rfl rfl ?_
  refine sGF rfl rfl ?_
  refine sGF rfl rfl ?_
  refine sPb rfl ?_
  refine sAb rfl ?_
  refine sN ?_
  refine cRet ?_
  exact ⟨.inr rfl, _, rfl, rfl, (Ext.push _ _).trans (.push _ _)⟩
end Go.AM

/-! R31 -/
namespace Go.AM
open Go.Proofs
theorem awT : rtabM 2 [(9, [0, 1])] = [0, 3, 2, 1] := by decide +kernel
theorem awA : runM [(12, [0, 1, 2])] 3 = 7 := by decide +kernel
theorem awC : circP (ofs [0, 2, 1, 3]) = [(9, [1, 0]), (9, [0, 1]), (9, [1, 0])] := by decide +kernel
theorem awY : cyclesP (ofs [0, 2, 1, 3]) = [[1, 2]] := by decide +kernel
theorem awEv : evenP (ofs [0, 2, 1, 3]) = false := by decide +kernel
theorem awWE : wideE (ofs [0, 2, 1, 3]) = 0 := by decide +kernel
theorem awWN : wideN (ofs [0, 2, 1, 3]) = 2 := by decide +kernel
theorem awCn : countV 3 2 = 102 ∧ countE 3 2 = 0 := by decide +kernel
theorem awS2 : shortE (ofs [0, 2, 1, 3]) 2 = 6 := by decide +kernel
theorem awS2n : shortN (ofs [0, 2, 1, 3]) 2 = 0 := by decide +kernel
theorem awS3 : shortE (ofs [0, 2, 1, 3]) 3 = 0 := by decide +kernel
theorem awS3n : shortN (ofs [0, 2, 1, 3]) 3 = 2 := by decide +kernel
theorem awS3l : (shortP (ofs [0, 2, 1, 3]) 3).length = 3 := by decide +kernel
theorem awF1n : foundN 2 (cleanS [(9, [0, 1])] (posM [1])) = 1 := by decide +kernel
theorem awF1e : foundE 2 (cleanS [(9, [0, 1])] (posM [1])) = 0 := by decide +kernel
theorem awF2n : foundN 2 (borrS [(9, [0, 1])] (posM [0])) = 1 := by decide +kernel
theorem awF2e : foundE 2 (borrS [(9, [0, 1])] (posM [0])) = 0 := by decide +kernel
theorem awF3n : foundN 2 (borrS [(9, [0, 1]), (9, [0, 1])] (posM [0])) = 0 := by decide +kernel
theorem awF3e : foundE 2 (borrS [(9, [0, 1]), (9, [0, 1])] (posM [0])) = 6 := by decide +kernel
def orX : BX := .mk 5 0 [.mk 1 0 [], .mk 1 1 []]
theorem awPE : cpE 2 2 orX = 0 := by decide +kernel
theorem awPN : cpN 2 2 orX = 5 := by decide +kernel
theorem awPG : cpG 2 2 orX = [(9, [0, 3]), (1, [3]), (9, [1, 4]), (1, [4]), (12, [3, 4, 2]), (1, [4]), (9, [1, 4]), (1, [3]), (9, [0, 3]), (1, [2])] := by decide +kernel
theorem c21 : CircOk 2 [(9, [0, 1])] := .of (by decide)
theorem c31 : CircOk 3 [(12, [0, 1, 2])] := .of (by decide)
theorem c174 : CircOk 2 [(9, [0, 1]), (9, [0, 1])] := .of (by decide)
theorem allS {α : Type} {p : α → Prop} {a : α} {l : List α} (hl : ∀ t ∈ l, p t) (h : p a) : ∀ t ∈ l ++ [a], p t := fun t ht => by
 rcases List.mem_append.1 ht with ht | ht
 ·exact hl t ht
 ·rw [List.mem_singleton.1 ht]; exact h
theorem obl3 {P : Program} {l : List Oper} {log : List Ent} {m' m0 : Mem} {hs : List (Nat × Nat)} {e17 e36 e42 : Ent} {o17 o36 o42 : Oper} (hE : ∀ e ∈ log, Ext m0 e.m) (hE' : Ext m0 m')
  (h17 : log[17]? = some e17) (l17 : l[17]? = some o17) (h36 : log[36]? = some e36) (l36 : l[36]? = some o36) (h42 : log[42]? = some e42) (l42 : l[42]? = some o42)
  (f17 : ∀ M, Ext m0 M → aRead P M (evR e17.ρ) o17.op = some e17.v) (f36 : aPure P (evR e36.ρ) o36.op = some e36.v) (f42 : ∀ M, Ext m0 M → aRead P M (evR e42.ρ) o42.op = some e42.v)
  (hh : ∀ p ∈ hs, p.1 = 17 ∨ p.1 = 36 ∨ p.1 = 42) : obl P ⟨l⟩ log m' hs := by
 refine obl_ext hE hE' fun p hp e o he ho M hM => ?_
 rcases hh p hp with h | h | h <;> rw [h] at he ho
 ·rw [h17] at he; rw [l17] at ho; cases he; cases ho; exact .inl (f17 M hM)
 ·rw [h36] at he; rw [l36] at ho; cases he; cases ho; exact .inr f36
 ·rw [h42] at he; rw [l42] at ho; cases he; cases ho; exact .inl (f42 M hM)
theorem mem_nil {α : Type} {p : α → Prop} : ∀ t ∈ ([] : List α), p t := fun t h => by cases h
theorem mem_cons {α : Type} {p : α → Prop} {a : α} {l : List α} (h : p a) (hl : ∀ t ∈ l, p t) : ∀ t ∈ a :: l, p t := fun t ht => by
 rcases List.mem_cons.1 ht with rfl | ht
 ·exact h
 ·exact hl t ht
theorem orAt {m : Mem} {b : Nat} (hg : Mem.get m b = .cells true #[nv 1, nv 0, .slice none 0 0, nv 1, nv 1, .slice none 0 0]) : BAt (fun b => b < m.size) m 2 (.agg #[nv 5, nv 0, .slice (some ⟨b, 0, some 3⟩) 2 2]) orX := by
 refine ⟨_, rfl, .inr ⟨b, 0, 2, true, _, rfl, live hg, hg, fun i a hi => ?_⟩⟩
 have h1 := (List.getElem?_eq_some_iff.1 hi).1
 have hi' : i = 0 ∨ i = 1 := by have : orX.args.length = 2 := rfl; omega
 rcases hi' with rfl | rfl
 ·obtain rfl : BX.mk 1 0 [] = a := by injection hi
  exact ⟨by simp, _, rfl, .inl ⟨rfl, _, _, rfl⟩⟩
 ·obtain rfl : BX.mk 1 1 [] = a := by injection hi
  exact ⟨by simp, _, rfl, .inl ⟨rfl, _, _, rfl⟩⟩
end Go.AM

/-! N11 -/
namespace Go.AM
open Go.Proofs
end Go.AM

/-! N12 -/
namespace Go.AM
open Go.Proofs
/-! ### What the gates do -/
def Sem (T : BX → Nat → Nat → List Gt) (V : Nat) (val : Nat → BX → Bool) (a : BX) : Prop := ∀ t X, V ≤ t → (∀ j, t + 1 ≤ j → X.testBit j = false) → runM (T a t (t + 1)) X = if val X a then X ^^^ 2 ^ t else X
end Go.AM

/-! R32 -/
namespace Go.AM
open Go.Proofs
/-- A slice is no longer than its capacity. -/
def CapOk (a : Value) : Prop := ∀ q n c, a = .slice q n c → n ≤ c
theorem okf80 : okF Tryd.prog H0 80 9 = true := by kernel_rfl
theorem spec_bit {m : Mem} {x k : Nat} (hx : x < 9223372036854775808) : ∃ v m', ACalls Tryd.prog 80 #[nv x, nv k] m v m' ∧ (v = nv (x >>> k &&& 1) ∧ m = m') := by
 refine wpF (args := [_, _]) mixed okf80 (fn := Tryd.f80) rfl rfl rfl (by simp) ?_
 refine cSR ?_
 refine sAn rfl ?_
 refine sN ?_
 refine cSR ?_
 refine sMn rfl ?_
 refine sMn rfl ?_
 refine sBin (a := x) (b := k) rfl rfl (aInt_shr (by omega)) ?_
 have hsh := Nat.shiftRight_le x k
 refine sBin (b := 1) rfl rfl (aInt_and (by omega)) ?_
 refine sAn rfl ?_
 refine sN ?_
 refine cRet ?_
 exact ⟨.inr rfl, _, rfl, rfl, rfl⟩
end Go.AM

/-! R33 -/
namespace Go.AM
open Go.Proofs
end Go.AM

/-! N7 -/
namespace Go.AM
open Go.Proofs
section
variable {n i : Nat}
end
end Go.AM

/-! R34 -/
namespace Go.AM
open Go.Proofs
/-- A gate ahead of others. -/
theorem OwnG.cons {N : Nat} {m : Mem} {bl kd : Nat} {ws : Value} {w : List Nat} (hg : Mem.get m bl = .cells true #[nv kd, ws, nv 0, nv 0]) (hN : N ≤ bl) (hw : OwnF N m ws (ofs w)) (hb : ∀ b, blkOf ws = some b → b ≠ bl) :
  OwnG N m (.slice (some ⟨bl, 0, some 4⟩) 1 1) #[nv kd, ws, nv 0, nv 0] [(kd, w)] := by
 refine ⟨.inr ⟨bl, 1, _, rfl, hN, hg, Nat.le_refl _, rfl, rfl, fun i _ => rfl⟩, fun i g hi => ?_⟩
 have h1 := (List.getElem?_eq_some_iff.1 hi).1
 obtain rfl : i = 0 := by simp at h1; exact h1
 obtain rfl : (kd, w) = g := by simpa using hi
 exact ⟨ws, rfl, rfl, rfl, rfl, hw, fun b h e => by injection e with e; exact hb b h e.symm⟩
end Go.AM

/-! R35 -/
namespace Go.AM
open Go.Proofs
/-- What was met, in a row of truths. -/
def MetB (m : Mem) (b n : Nat) (met : List Nat) : Prop := ∃ B, Mem.get m b = .cells true B ∧ B.size = n ∧ ∀ y, y < n → B[y]? = some (.bool (decide (y ∈ met)))
theorem MetB.keep {m m' : Mem} {b n : Nat} {met : List Nat} (h : MetB m b n met) (he : Mem.get m' b = Mem.get m b) : MetB m' b n met := by
 obtain ⟨B, h1, h2⟩ := h; exact ⟨B, he.trans h1, h2⟩
end Go.AM

/-! R36 -/
namespace Go.AM
open Go.Proofs
theorem sClrK {P : Program} {ρ : Env} {m : Mem} {K : Env → Mem → Prop} {ops : Array Oper} {l : List Oper} {d : Option Nat} {ty t e : TypeId} {pos : String} {af : Array Edge} {x : Operand} {s z : Value} {N w n : Nat}
  (ht : undOf P t = some (.slice e)) (hz : zeroOf P e = some z) (h0 : z.cells.size = w) (hw : w ≠ 0) (h2 : z.cells.all flat0 = true) (h3 : z.cells.all Value.oneCell' = true) (hx : evR ρ x = s) (hs : WrC N m s w n)
  (hk : ∀ m', m'.size = m.size → (∀ b, blkOf s ≠ some b → Mem.get m' b = Mem.get m b) → wpOps P ops K l (updO ρ d (.tuple #[])) m') : wpOps P ops K (⟨d, .call ⟨.builtin .clear, ⟨[x]⟩, ⟨[t]⟩⟩, ty, pos, af, none⟩ :: l) ρ m := by
 subst h0
 rcases hs with ⟨rfl, _⟩ | ⟨b, cap, c, rfl, hN, hb, hn⟩
 ·refine sO (opF_eff rfl rfl ?_) (hk m rfl fun _ _ => rfl)
  simp only [aEff, hx, aClear, ht]
 ·by_cases h0 : n = 0
  ·refine sO (opF_eff rfl rfl ?_) (hk m rfl fun _ _ => rfl)
   simp only [aEff, hx, aClear, ht, h0, if_true]
  ·refine sO (opF_eff rfl rfl ?_) (hk (m.setIfInBounds b (.cells true (lay c 0 (Builtin.zeroCells z.cells n)))) (by simp) fun i hi => gSn fun e => hi (by rw [← e]; rfl))
   simp only [aEff, hx, aClear, ht, if_neg h0, hz, hb]
   rw [if_pos ⟨hw, h2, by omega, zeroCells_all h3 hw⟩]
/-- What holds while gates are spoiled. -/
def SpJ (N M : Nat) (v : Value) (m m' : Mem) : Prop := (m.size + 1 ≤ m'.size ∧ ∀ b, b < m.size → b < N ∨ M ≤ b → Mem.get m' b = Mem.get m b) ∧ (∀ b, blkOf v = some b → Mem.get m' b = Mem.get m b) ∧ ∀ b c, b < m.size → Mem.get m b = .cells true c → ∃ c', Mem.get m' b = .cells true c' ∧ c'.size = c.size
theorem SpJ.next {N M : Nat} {v : Value} {m m' m2 : Mem} {o : AObj} (h : SpJ N M v m m') (hN : N ≤ m.size) (hv : ∀ b, blkOf v = some b → b < m.size) (hw : Wipe N M (m'.push o) m2) (hk : ∀ b, blkOf v = some b → Mem.get m2 b = Mem.get (m'.push o) b) : SpJ N M v m m2 := by
 obtain ⟨⟨h1, h2⟩, h3, h4⟩ := h
 refine ⟨⟨by rw [hw.1]; simp; omega, fun b hb hb' => ?_⟩, fun b hb => ?_, fun b c hb hc => ?_⟩
 ·rw [hw.2.1 b hb', gPn (by omega)]; exact h2 b hb hb'
 ·have := hv b hb
  rw [hk b hb, gPn (by omega)]; exact h3 b hb
 ·obtain ⟨c1, hc1, e1⟩ := h4 b c hb hc
  obtain ⟨c2, hc2, e2⟩ := hw.2.2 b c1 ((gPn (by omega)).trans hc1)
  exact ⟨c2, hc2, e2.trans e1⟩
theorem spec_SpoilW {mM m : Mem} {N W B : Nat} {v : Value} {cs : Array Value} {Gs : List (Nat × List Nat)} (hOM : OwnG N mM v cs Gs) (hE : Ext mM m) (hN : N ≤ mM.size) (hl : Gs.length < 1000000) : ∃ w m', ACalls Tryd.prog 26 #[.agg #[nv W, nv B, v]] m w m' ∧ (m.size ≤ m'.size ∧ ∀ b, b < m.size → b < N ∨ mM.size ≤ b → Mem.get m' b = Mem.get m b) := by
 have hO := hOM.ext hE
 have hzM := hE.1
 obtain ⟨q, cap, rfl⟩ := hO.1.len
 have hvl : ∀ b, blkOf (.slice q Gs.length cap) = some b → b < m.size := fun b hb => (hO.1.lt hb).2
 refine wpF (args := [_]) mixed okf26 (fn := Tryd.f26) rfl rfl rfl (by simp) ?_
 refine cSR ?_
 refine sBox (v := .agg _) rfl ?_
 refine sN ?_
 refine cSeq (cSR ?_)
 refine sFA F30_2 rfl ?_
 refine sLd A28 rfl (by simp (disch := first | omega | (simp only [Array.size_push, Array.size_setIfInBounds]; done) | (simp only [Array.size_push, Array.size_setIfInBounds]; omega)) only [gP, gPn, gS, gSn]; try rfl) rfl ?_
 refine sLen T28 rfl ?_
 refine sMv (v := nv 0) rfl ?_
 refine sN ?_
 refine cBlock ?_
 refine wpC_loop (fun k ρ m' => ∃ i, k = Gs.length - i ∧ i ≤ Gs.length ∧ SpJ N mM.size (.slice q Gs.length cap) m m' ∧ Mem.get m' m.size = .cells true #[nv W, nv B, .slice q Gs.length cap] ∧ Has ρ [(1, .pointer (some ⟨m.size, 0, none⟩)), (5, .slice q Gs.length cap), (6, nv Gs.length), (7, nv i)]) ⟨0, rfl, Nat.zero_le _, ⟨⟨by simp, fun b hb _ => gPn hb⟩, fun b hb => gPn (by have := hvl b hb; omega), fun b c hb hc => ⟨c, (gPn hb).trans hc, rfl⟩⟩, gP rfl, rfl, rfl, rfl, rfl, trivial⟩ ?_
 rintro k ρ m' ⟨i, rfl, hi, hS, gB, hh⟩
 rw [hh.env]; clear hh
 have hz := hS.1.1
 refine cSR ?_
 refine sBin rfl rfl (aInt_lss) ?_
 refine sN ?_
 refine cSeq ?_
 refine cCond rfl (fun c0 => ?_) (fun c0 => ?_)
 ·
  obtain ⟨b1, p1, cc, e1, hb1, g1, hc1, x1⟩ := hO.1.at (by omega)
  cases e1
  obtain ⟨s, hs0, hs1, hs2, hs3, hso, hsb⟩ := hO.2 i Gs[i] (List.getElem?_eq_getElem c0)
  obtain ⟨s', _, hs1', _, _, hso', _⟩ := hOM.2 i Gs[i] (List.getElem?_eq_getElem c0)
  rw [hs1] at hs1'
  obtain rfl := Option.some.inj hs1'
  have hsM := hso.wr (M := mM.size) fun b hb => (hso'.lt hb).2
  obtain ⟨qs, c', rfl⟩ := hso.ints.len
  have hex : cc.extract (0 + i * 4) (0 + i * 4 + 4) = #[nv Gs[i].1, .slice qs (ofs Gs[i].2).length c', nv 0, nv 0] := quad_atD (by rw [x1 _ (by omega)]; exact hs0) (by rw [x1 _ (by omega)]; exact hs1) (by rw [x1 _ (by omega)]; exact hs2) (by rw [x1 _ (by omega)]; exact hs3)
  have gb' := (hS.2.1 b1 rfl).trans g1
  have hsW : Wr N mM.size (m'.push (.cells true #[nv Gs[i].1, .slice qs (ofs Gs[i].2).length c', nv 0, nv 0])) (.slice qs (ofs Gs[i].2).length c') (ofs Gs[i].2).length := by
   rcases hsM with ⟨h1, h2⟩ | ⟨b, cp, c, h1, h2, h3, h4⟩
   ·exact .inl ⟨h1, h2⟩
   ·obtain ⟨d, hd, e⟩ := hS.2.2 b c (by omega) h3
    exact .inr ⟨b, cp, d, h1, h2, (gPn (by omega)).trans hd, by omega⟩
  refine cSkip (kSeqN ?_)
  refine cSeq (cBlock (cSR ?_))
  refine sIx T28 S49 rfl rfl c0 ?_
  refine sLdA A49 S49 rfl gb' (by omega) ?_
  rw [hex]
  refine sAlloc Z49 (by kernel_rfl) ?_
  refine sStNA S49 rfl rfl rfl rfl (by kernel_rfl) ?_
  refine sN ?_
  refine cRegion ?_
  refine sFA F49_1 rfl ?_
  refine sLd (v := .slice _ _ _) A22 rfl (gP rfl) rfl ?_
  refine sClrW (N := N) (M := mM.size) T22 Z3 rfl rfl rfl rfl hsW fun m2 hw2 hk2 => ?_
  have hS2 := hS.next (by omega) hvl hw2 fun b hb => hk2 b fun e => hsb b e hb
  have gB2 : Mem.get m2 m.size = .cells true #[nv W, nv B, .slice (some ⟨b1, 0, some 4⟩) Gs.length cap] := by
   rw [hw2.2.1 m.size (.inr hzM), gPn (by omega)]; exact gB
  refine sNil (kBlkN (kSeqN ?_))
  refine cRegion ?_
  refine sBin rfl rfl (aInt_add (b := 1) (by omega)) ?_
  refine sMn rfl ?_
  refine sN ?_
  refine ⟨_, ?_, i + 1, rfl, by omega, hS2, gB2, rfl, rfl, rfl, rfl, trivial⟩
  omega
 ·
  have hWC : WrC N m' (.slice q Gs.length cap) 4 Gs.length := by
   rcases hO.1 with ⟨h1, h2, _⟩ | ⟨b, cp, c, h1, h2, h3, h4, h5, _⟩
   ·exact .inl ⟨h1, h2⟩
   ·exact .inr ⟨b, cp, c, h1, h2, (hS.2.1 b (by rw [h1]; rfl)).trans h3, by rw [h5]; exact Nat.mul_le_mul_right 4 h4⟩
  refine cExit (kSeqE (kSeqE (kBlkS (kSeqN ?_))))
  refine cRegion ?_
  refine sFA F30_2 rfl ?_
  refine sLd (v := .slice _ _ _) A28 rfl gB rfl ?_
  refine sClrK (N := N) (w := 4) T28 Z49 rfl (by decide) (by kernel_rfl) (by kernel_rfl) rfl hWC fun m2 hz2 hk2 => ?_
  refine sNil ?_
  refine ⟨.inl rfl, _, rfl, by rw [hz2]; omega, fun b hb hb' => (hk2 b fun e => ?_).trans (hS.1.2 b hb hb')⟩
  have := hOM.1.lt e
  omega
end Go.AM

/-! R38 -/
namespace Go.AM
open Go.Proofs
end Go.AM

/-! N8 -/
namespace Go.AM
open Go.Proofs
/-- A table of n wires. -/
def PermT (n : Nat) (p : List Nat) : Prop := p.length = 2 ^ n ∧ ∀ x ∈ p, x < 2 ^ n
theorem PermT.range (n : Nat) : PermT n (List.range (2 ^ n)) := ⟨by simp, fun x hx => by simpa using hx⟩
/-- The list of what was met, and the levels. -/
structure Cor (n d a b : Nat) (L : List Met) (K : List (List Nat)) : Prop where
  tab : L.map (·.tab) = K.map tab8
  per : ∀ p ∈ K, PermT n p
  lo : ∀ (j : Nat) e, L[j]? = some e → j < a → e.many < d
  mid : ∀ (j : Nat) e, L[j]? = some e → a ≤ j → j < b → e.many = d
  hi : ∀ (j : Nat) e, L[j]? = some e → b ≤ j → e.many = d + 1
  le : a ≤ b ∧ b ≤ L.length
theorem Cor.len {n d a b : Nat} {L : List Met} {K : List (List Nat)} (h : Cor n d a b L K) : L.length = K.length := by
 have := congrArg List.length h.tab
 simpa using this
theorem Cor.at {n d a b : Nat} {L : List Met} {K : List (List Nat)} (h : Cor n d a b L K) {i : Nat} (hi : i < L.length) : ∃ e, L[i]? = some e ∧ e.tab = tab8 (K.getD i []) ∧ PermT n (K.getD i []) := by
 have hk : i < K.length := by rw [← h.len]; exact hi
 refine ⟨L[i], List.getElem?_eq_getElem hi, ?_, ?_⟩
 ·have := congrArg (·[i]?) h.tab
  simp only [List.getElem?_map, List.getElem?_eq_getElem hi, List.getElem?_eq_getElem hk, Option.map_some, Option.some.injEq] at this
  rw [this, List.getD_eq_getElem?_getD, List.getElem?_eq_getElem hk]; rfl
 ·rw [List.getD_eq_getElem?_getD, List.getElem?_eq_getElem hk]; exact h.per _ (List.getElem_mem _)
end Go.AM

/-! R39 -/
namespace Go.AM
open Go.Proofs
/-- Rows that may be read, and stay so while a map's place and a list's place are written. -/
def SupR (mb : Nat) (v : Value) (m : Mem) (s : Value) (G : List (List Int)) : Prop := ∃ S : Nat → Prop, (∀ b, S b → b < m.size ∧ b ≠ mb ∧ blkOf v ≠ some b) ∧ (∀ m', (∀ b, S b → Mem.get m' b = Mem.get m b) → RowsAt m' s G) ∧
  ∀ (i : Nat) g, G[i]? = some g → ∃ b cap r c t, s = .slice (some ⟨b, 0, some 1⟩) G.length cap ∧ S b ∧ Mem.get m b = .cells r c ∧ c[i]? = some t ∧ ∀ m', (∀ b, S b → Mem.get m' b = Mem.get m b) → IntsAt m' t g
theorem SupR.keep {mb : Nat} {v s : Value} {m m' : Mem} {G : List (List Int)} (h : SupR mb v m s G) (hz : m.size ≤ m'.size) (hk : ∀ b, b < m.size → b ≠ mb → Mem.get m' b = Mem.get m b) : SupR mb v m' s G := by
 obtain ⟨S, h1, h2, h3⟩ := h
 have hS : ∀ b, S b → Mem.get m' b = Mem.get m b := fun b hb => hk b (h1 b hb).1 (h1 b hb).2.1
 exact ⟨S, fun b hb => ⟨by have := (h1 b hb).1; omega, (h1 b hb).2⟩, fun m2 hm => h2 m2 fun b hb => (hm b hb).trans (hS b hb), fun i g hi => by
  obtain ⟨b, cap, r, c, t, e, hb, hg, ht, hI⟩ := h3 i g hi
  exact ⟨b, cap, r, c, t, e, hb, (hS b hb).trans hg, ht, fun m2 hm => hI m2 fun b hb => (hm b hb).trans (hS b hb)⟩⟩
/-- Lists of rows. -/
def Lv3 (N mb : Nat) (m : Mem) (v : Value) (cs : Array Value) (D : List (List (List Nat))) : Prop := OwnC N m v 1 D.length cs ∧ ∀ (d : Nat) l, D[d]? = some l → ∃ s, cs[d]? = some s ∧ SupR mb v m s (ofs2 l)
theorem Lv3.keep {N mb : Nat} {m m' : Mem} {v : Value} {cs : Array Value} {D : List (List (List Nat))} (h : Lv3 N mb m v cs D) (hN : mb < N) (hz : m.size ≤ m'.size) (hk : ∀ b, b < m.size → b ≠ mb → Mem.get m' b = Mem.get m b) : Lv3 N mb m' v cs D :=
 ⟨h.1.up fun b h1 h2 => hk b h2 (by omega), fun d l hd => by obtain ⟨s, a1, a2⟩ := h.2 d l hd; exact ⟨s, a1, a2.keep hz hk⟩⟩
end Go.AM

/-! R41 -/
namespace Go.AM
open Go.Proofs
theorem nodup_take_not {w : List Nat} {i : Nat} (h : w.Nodup) (hi : i < w.length) : ¬ w[i] ∈ w.take i := fun hm => by
 obtain ⟨j, hj, e⟩ := List.getElem_of_mem hm
 rw [List.length_take] at hj
 rw [List.getElem_take] at e
 have e2 : w[j]? = w[i]? := by
  rw [List.getElem?_eq_getElem (show j < w.length by omega), List.getElem?_eq_getElem hi]; exact congrArg some e
 have := (List.getElem?_inj (show j < w.length by omega) h).1 e2
 omega
theorem okf151 : okF Tryd.prog H0 151 18 = true := by kernel_rfl
theorem spec_rHas {m : Mem} {a : Value} {L : List Nat} {x : Nat} (ha : IntsAt m a (ofs L)) (hl : L.length < 1000000) : ∃ v m', ACalls Tryd.prog 151 #[a, nv x] m v m' ∧ (v = .bool (decide (x ∈ L)) ∧ m = m') := by
 obtain ⟨q, cap, rfl⟩ := ha.lenN
 refine wpF (args := [_, _]) mixed okf151 (fn := Tryd.f151) rfl rfl rfl (by simp) ?_
 refine cSR ?_
 refine sAb rfl ?_
 refine sN ?_
 refine cSeq (cSR ?_)
 refine sAn rfl ?_
 refine sN ?_
 refine cBlock ?_
 refine wpC_loop (fun k ρ m' => ∃ i, k = L.length - i ∧ i ≤ L.length ∧ (∀ j, j < i → L[j]? ≠ some x) ∧ m = m' ∧ Has ρ [(0, .slice q L.length cap), (1, nv x), (5, nv i)]) ⟨0, rfl, by omega, by omega, rfl, rfl, rfl, rfl, trivial⟩ ?_
 rintro k ρ _ ⟨i, rfl, hi, hr, rfl, hh⟩
 rw [hh.env]; clear hh
 refine cSeq (cSR ?_)
 refine sMn rfl ?_
 refine sMs rfl ?_
 refine sLen T22 rfl ?_
 refine sBin rfl rfl (aInt_lss) ?_
 refine sN ?_
 refine cCond rfl (fun c0 => ?_) (fun c0 => ?_)
 ·
  obtain ⟨b1, o1, p1, r1, cc, e1, g1, x1⟩ := ha.atN (by omega)
  cases e1
  refine cSkip (kSeqN ?_)
  refine cSeq (cBlock (cSR ?_))
  refine sMs rfl ?_
  refine sMn rfl ?_
  refine sIx T22 S3 rfl rfl (by omega) ?_
  refine sLd (v := nv L[i]) A3 rfl g1 (x1 i L[i] (by simp)) ?_
  refine sMn rfl ?_
  refine sBin (a := L[i]) (b := x) rfl rfl aInt_eql ?_
  refine sN ?_
  refine cCond rfl (fun c1 => ?_) (fun c1 => ?_)
  ·
   refine cSR ?_
   refine sAb rfl ?_
   refine sN ?_
   refine cRet (kBlkR (kSeqR (kSeqR (kBlkR (kSeqR ?_)))))
   have hm : x ∈ L := by rw [← c1]; exact List.getElem_mem _
   exact ⟨.inr rfl, _, rfl, by rw [decide_eq_true hm]; rfl, rfl⟩
  ·
   refine cSkip (kBlkN (kSeqN ?_))
   refine cRegion ?_
   refine sMn rfl ?_
   refine sBin rfl rfl (aInt_add (b := 1) (by omega)) ?_
   refine sAn rfl ?_
   refine sN ?_
   refine ⟨_, ?_, i + 1, rfl, by omega, fun j hj e => ?_, rfl, rfl, rfl, rfl, trivial⟩
   ·omega
   ·by_cases h : j = i
    ·subst h
     rw [List.getElem?_eq_getElem c0] at e
     exact c1 (Option.some.inj e)
    ·exact hr j (by omega) e
 ·
  refine cExit (kSeqE (kSeqE (kBlkS (kSeqN ?_))))
  refine cSR ?_
  refine sAb rfl ?_
  refine sN ?_
  refine cRet ?_
  have hm : ¬ x ∈ L := fun h => by
   obtain ⟨j, hj, e⟩ := List.getElem_of_mem h
   exact hr j (by omega) (by rw [List.getElem?_eq_getElem hj, e])
  exact ⟨.inr rfl, _, rfl, by rw [decide_eq_false hm]; rfl, rfl⟩
end Go.AM

/-! R42 -/
namespace Go.AM
open Go.Proofs
end Go.AM

/-! N9 -/
namespace Go.AM
open Go.Proofs
end Go.AM

/-! R37 -/
namespace Go.AM
open Go.Proofs
end Go.AM

/-! N10 -/
namespace Go.AM
open Go.Proofs
/-! ### The cycles of a permutation -/
/-- A list goes along a permutation, and on to x. -/
def Chain (p : List Nat) (l : List Nat) (x : Nat) : Prop := (∀ (k a b : Nat), l[k]? = some a → l[k + 1]? = some b → p.getD a 0 = b) ∧ ∀ a, l[l.length - 1]? = some a → 0 < l.length → p.getD a 0 = x
/-- What was met is closed. -/
structure ClosedM (p met : List Nat) : Prop where
  nd : met.Nodup
  lt : ∀ y ∈ met, y < p.length
  pre : ∀ y, y < p.length → p.getD y 0 ∈ met → y ∈ met
/-- What a list of cycles is like. -/
structure CycOk (p : List Nat) (i : Nat) (met : List Nat) (out : List (List Nat)) : Prop where
  cl : ClosedM p met
  all : ∀ j, j < i → j ∈ met
  sub : ∀ c ∈ out, ∀ y ∈ c, y ∈ met
  fix : ∀ y ∈ met, y ∉ out.flatten → p.getD y 0 = y
  nd : out.flatten.Nodup
  ch : ∀ c ∈ out, ∃ a, c[0]? = some a ∧ Chain p c a ∧ ∀ y ∈ c, a ≤ y
  inc : ∀ (k a b : Nat), (out[k]?.bind (·[0]?)) = some a → (out[k + 1]?.bind (·[0]?)) = some b → a < b
  hd : ∀ (k a : Nat), (out[k]?.bind (·[0]?)) = some a → a < i
end Go.AM

/-! N13 -/
namespace Go.AM
open Go.Proofs
end Go.AM

/-! R49 -/
namespace Go.AM
open Go.Proofs
end Go.AM

/-! R46 -/
namespace Go.AM
open Go.Proofs
end Go.AM

/-! R47 -/
namespace Go.AM
open Go.Proofs
end Go.AM

/-! R48 -/
namespace Go.AM
open Go.Proofs
end Go.AM

/-! R50 -/
namespace Go.AM
open Go.Proofs
end Go.AM

/-! R51 -/
namespace Go.AM
open Go.Proofs
end Go.AM

/-! R52 -/
namespace Go.AM
open Go.Proofs
end Go.AM

/-! R53 -/
namespace Go.AM
open Go.Proofs
end Go.AM

/-! R54 -/
namespace Go.AM
open Go.Proofs
theorem okf109 : okF Tryd.prog H0 109 8 = true := by kernel_rfl
theorem spec_rgate {m : Mem} {k n c : Nat} {q : Option Addr} : ∃ v m', ACalls Tryd.prog 109 #[nv k, .slice q n c] m v m' ∧ (v = .agg #[nv k, .slice q n c, nv 0, nv 0] ∧ Ext m m') := by
 refine wpF (args := [_, _]) mixed okf109 (fn := Tryd.f109) rfl rfl rfl (by simp) ?_
 refine cSR ?_
 refine sAlloc Z49 (by kernel_rfl) ?_
 refine sN ?_
 refine cSR ?_
 refine sMn rfl ?_
 refine sMs rfl ?_
 refine sBuild B49k ?_
 refine sStAll S49 rfl rfl (gP rfl) rfl rfl (by kernel_rfl) ?_
 refine sN ?_
 refine cRet ?_
 exact ⟨.inr rfl, _, resRs_agg A49 S49 rfl (gS rfl (by simp)) rfl, rfl, (Ext.push _ _).set (Nat.le_refl _) _⟩
end Go.AM

/-! R55 -/
namespace Go.AM
open Go.Proofs
theorem pred_geq {j : Nat} : aInt .geq .i64 (Int.ofNat j - 1) (Int.ofNat 0) = some (.bool (decide (1 ≤ j))) := by
 rw [aInt_geqI]
 by_cases h : 1 ≤ j
 ·rw [decide_eq_true h, decide_eq_true (show (Int.ofNat 0 : Int) ≤ Int.ofNat j - 1 by have : (1 : Int) ≤ Int.ofNat j := Int.ofNat_le.2 h; have h0 : (Int.ofNat 0 : Int) = 0 := rfl; omega)]
 ·obtain rfl : j = 0 := by omega
  rfl
theorem pred_succ {j : Nat} : Int.ofNat (j + 1) - 1 = Int.ofNat j := by simp
end Go.AM

/-! R56 -/
namespace Go.AM
open Go.Proofs
end Go.AM

/-! R57 -/
namespace Go.AM
open Go.Proofs
end Go.AM

/-! R58 -/
namespace Go.AM
open Go.Proofs
end Go.AM

/-! N14 -/
namespace Go.AM
open Go.Proofs
/-- How many wires a kind has. -/
def arI (k : Int) : Nat := if k = 12 then 3 else if 9 ≤ k ∧ k ≤ 11 then 2 else if 1 ≤ k ∧ k ≤ 14 then 1 else 0
/-- The error of a gate on n wires and b bits. -/
def gateE (n b : Int) (g : GateV) : Nat :=
  if arI g.1 = 0 then 3 else if g.2.1.length ≠ arI g.1 then 2 else if ¬ (∀ w ∈ g.2.1, 0 ≤ w ∧ w < n) then 1 else if ¬ g.2.1.Nodup then 5 else
  if g.2.2.2 < 0 ∨ b < g.2.2.2 ∨ (g.1 = 13 ∧ (g.2.2.1 < 0 ∨ b ≤ g.2.2.1)) then 1 else
  if ((g.1 = 13 ∨ g.1 = 14) ∧ g.2.2.2 ≠ 0) ∨ (g.1 ≠ 13 ∧ g.2.2.1 ≠ 0) then 7 else 0
def gatesE (n b : Int) : List GateV → Nat
  | [] => 0
  | g :: l => if gateE n b g ≠ 0 then gateE n b g else gatesE n b l
def circE (n b : Int) (Gs : List GateV) : Nat := if n < 1 ∨ 12 < n ∨ b < 0 ∨ 8 < b then 3 else if 120 < Gs.length then 2 else gatesE n b Gs
/-- A gate of a classical circuit. -/
def clI (g : GateV) : Bool := (decide (g.1 = 1) || decide (g.1 = 9) || decide (g.1 = 11) || decide (g.1 = 12)) && decide (g.2.2.2 = 0)
def circ8E (n b : Int) (Gs : List GateV) : Nat := if circE n b Gs ≠ 0 then circE n b Gs else if Gs.all clI then 0 else 7
theorem gatesE_all {n b : Int} : ∀ {Gs : List GateV}, gatesE n b Gs = 0 ↔ ∀ g ∈ Gs, gateE n b g = 0
 | [] => by simp [gatesE]
 | g :: l => by
  rw [gatesE]
  by_cases h : gateE n b g = 0
  ·rw [if_neg (by simpa using h), gatesE_all]; simp [h]
  ·rw [if_pos h]; simp [h]
theorem gatesE_up {n b : Int} : ∀ {Gs : List GateV} {i : Nat} {g : GateV}, (∀ (j : Nat) g', j < i → Gs[j]? = some g' → gateE n b g' = 0) → Gs[i]? = some g → gateE n b g ≠ 0 → gatesE n b Gs = gateE n b g
 | [], i, g, _, h, _ => by cases h
 | x :: l, 0, g, _, h, h2 => by simp at h; subst h; rw [gatesE, if_pos h2]
 | x :: l, i + 1, g, hn, h, h2 => by
  have h0 := hn 0 x (by omega) rfl
  rw [gatesE, if_neg (by simpa using h0)]
  exact gatesE_up (i := i) (fun j g' hj hg => hn (j + 1) g' (by omega) (by simpa using hg)) (by simpa using h) h2
structure GateS (n : Nat) (g : Nat × List Nat) : Prop where
  kind : (g.1 = 1 ∧ g.2.length = 1) ∨ (g.1 = 9 ∧ g.2.length = 2) ∨ (g.1 = 11 ∧ g.2.length = 2) ∨ (g.1 = 12 ∧ g.2.length = 3)
  lt : ∀ w ∈ g.2, w < n
  once : g.2.Nodup
structure CircS (n : Nat) (Gs : List (Nat × List Nat)) : Prop where
  one : 1 ≤ n
  ten : n ≤ 12
  few : Gs.length ≤ 120
  all : ∀ g ∈ Gs, GateS n g
def gnM (g : GateV) : Nat × List Nat := (g.1.toNat, g.2.1.map Int.toNat)
theorem ofs_toNat : ∀ {l : List Int}, (∀ w ∈ l, 0 ≤ w) → ofs (l.map Int.toNat) = l
 | [], _ => rfl
 | x :: l, h => by
  have h0 := h x (by simp)
  have := ofs_toNat (l := l) fun w hw => h w (by simp [hw])
  simp only [ofs, List.map_cons, List.map_map] at this ⊢
  rw [this]
  congr 1
  simp only [Int.ofNat_eq_natCast]; omega
theorem ofs_nodup {l : List Nat} : (ofs l).Nodup ↔ l.Nodup := by
 constructor
 ·intro h
  exact List.Pairwise.of_map _ (fun a b hab e => hab (by rw [e])) h
 ·intro h
  refine List.Pairwise.map _ (fun a b hab e => hab ?_) h
  exact Int.ofNat.inj e
theorem gate_nat {n : Nat} {b : Int} {g : GateV} (h : gateE (Int.ofNat n) b g = 0) (hc : clI g = true) : g = gvM (gnM g) ∧ GateS n (gnM g) := by
 obtain ⟨k, l, bt, cf⟩ := g
 simp only [clI, Bool.and_eq_true, Bool.or_eq_true, decide_eq_true_eq] at hc
 obtain ⟨hk, hcf⟩ := hc
 simp only [gateE] at h
 split at h
 ·cases h
 split at h
 ·cases h
 split at h
 ·cases h
 split at h
 ·cases h
 split at h
 ·cases h
 split at h
 ·cases h
 rename_i h1 h2 h3 h4 h5 h6
 have h2' : l.length = arI k := by omega
 have h3' : ∀ w ∈ l, 0 ≤ w ∧ w < Int.ofNat n := Classical.byContradiction h3
 have h4' : l.Nodup := Classical.byContradiction h4
 have hbt : bt = 0 := by
  refine Classical.byContradiction fun hb => h6 (.inr ⟨by omega, hb⟩)
 have hl := ofs_toNat (l := l) fun w hw => (h3' w hw).1
 have e1 : (k, l, bt, cf) = gvM (gnM (k, l, bt, cf)) := by
  simp only [gvM, gnM, hl, Int.ofNat_eq_natCast, hbt, hcf]
  congr 1
  omega
 refine ⟨e1, ⟨?_, fun w hw => ?_, ?_⟩⟩
 ·simp only [gnM, List.length_map, h2']
  rcases hk with ((rfl | rfl) | rfl) | rfl
  ·exact .inl ⟨rfl, rfl⟩
  ·exact .inr (.inl ⟨rfl, rfl⟩)
  ·exact .inr (.inr (.inl ⟨rfl, rfl⟩))
  ·exact .inr (.inr (.inr ⟨rfl, rfl⟩))
 ·simp only [gnM] at hw
  obtain ⟨y, hy, rfl⟩ := List.mem_map.1 hw
  have := h3' y hy
  simp only [Int.ofNat_eq_natCast] at this; omega
 ·show (l.map Int.toNat).Nodup
  rw [← ofs_nodup, hl]; exact h4'
theorem circ8_nat {n b : Int} {Gs : List GateV} (h : circ8E n b Gs = 0) : ∃ (n' b' : Nat) (Gs' : List (Nat × List Nat)), n = Int.ofNat n' ∧ b = Int.ofNat b' ∧ Gs = Gs'.map gvM ∧ CircS n' Gs' := by
 unfold circ8E at h
 split at h
 ·rename_i h1; exact absurd h h1
 rename_i h1
 have h1 : circE n b Gs = 0 := Classical.byContradiction h1
 split at h
 ·rename_i h2
  rw [List.all_eq_true] at h2
  unfold circE at h1
  split at h1
  ·cases h1
  rename_i h3
  split at h1
  ·cases h1
  rename_i h4
  rw [gatesE_all] at h1
  obtain ⟨n', rfl⟩ : ∃ n' : Nat, n = Int.ofNat n' := ⟨n.toNat, by simp only [Int.ofNat_eq_natCast]; omega⟩
  obtain ⟨b', rfl⟩ : ∃ b' : Nat, b = Int.ofNat b' := ⟨b.toNat, by simp only [Int.ofNat_eq_natCast]; omega⟩
  refine ⟨n', b', Gs.map gnM, rfl, rfl, ?_, ⟨?_, ?_, ?_, ?_⟩⟩
  ·rw [List.map_map]
   refine (List.map_id Gs).symm.trans (List.map_congr_left fun g hg => ?_)
   exact (gate_nat (h1 g hg) (h2 g hg)).1
  ·simp only [Int.ofNat_eq_natCast] at h3; omega
  ·simp only [Int.ofNat_eq_natCast] at h3; omega
  ·rw [List.length_map]; omega
  ·intro g hg
   obtain ⟨g', hg', rfl⟩ := List.mem_map.1 hg
   exact (gate_nat (h1 g' hg') (h2 g' hg')).2
 ·cases h
/-- Two wires change places. -/
def swapM (x : Nat) (w : List Nat) : Nat := if x.testBit (w.getD 0 0) = x.testBit (w.getD 1 0) then x else x ^^^ (2 ^ w.getD 0 0 ||| 2 ^ w.getD 1 0)
def doneS (g : Nat × List Nat) (x : Nat) : Nat := if g.1 = 11 then swapM x g.2 else turnM x g.2
def runS (Gs : List (Nat × List Nat)) (x : Nat) : Nat := Gs.foldl (fun x g => doneS g x) x
theorem runS_take {Gs : List (Nat × List Nat)} {i : Nat} {g : Nat × List Nat} (h : Gs[i]? = some g) (x : Nat) : runS (Gs.take (i + 1)) x = doneS g (runS (Gs.take i) x) := by
 rw [List.take_add_one, h, runS, List.foldl_append]; rfl
theorem doneS_lt {n x : Nat} {g : Nat × List Nat} (hx : x < 2 ^ n) (hg : GateS n g) : doneS g x < 2 ^ n := by
 unfold doneS
 have hk := hg.kind
 split
 ·unfold swapM
  split
  ·exact hx
  ·have h2 : g.2.length = 2 := by omega
   have a0 := hg.lt (g.2.getD 0 0) (by rw [List.getD_eq_getElem?_getD, List.getElem?_eq_getElem (by omega)]; exact List.getElem_mem _)
   have a1 := hg.lt (g.2.getD 1 0) (by rw [List.getD_eq_getElem?_getD, List.getElem?_eq_getElem (by omega)]; exact List.getElem_mem _)
   exact Nat.xor_lt_two_pow hx (Nat.or_lt_two_pow (Nat.pow_lt_pow_right (by omega) a0) (Nat.pow_lt_pow_right (by omega) a1))
 ·exact turnM_lt hx hg.lt (by omega)
theorem runS_lt {n x : Nat} {Gs : List (Nat × List Nat)} (hx : x < 2 ^ n) (hg : ∀ g ∈ Gs, GateS n g) : runS Gs x < 2 ^ n := by
 induction Gs generalizing x with
 | nil => exact hx
 | cons g Gs ih => exact ih (doneS_lt hx (hg g (by simp))) fun g' hg' => hg g' (by simp [hg'])
def rtabS (n : Nat) (Gs : List (Nat × List Nat)) : List Nat := (List.range (2 ^ n)).map (runS Gs)
end Go.AM

/-! R60 -/
namespace Go.AM
open Go.Proofs
section
variable {n b k : Int} {l : List Int} {bt cf : Int}
theorem gE1 (h1 : arI k = 0) : gateE n b (k, l, bt, cf) = 3 := by simp only [gateE]; rw [if_pos h1]
theorem gE2 (h1 : ¬ arI k = 0) (h2 : l.length ≠ arI k) : gateE n b (k, l, bt, cf) = 2 := by simp only [gateE]; rw [if_neg h1, if_pos h2]
theorem gE3 (h1 : ¬ arI k = 0) (h2 : ¬ l.length ≠ arI k) (h3 : ¬ ∀ w ∈ l, 0 ≤ w ∧ w < n) : gateE n b (k, l, bt, cf) = 1 := by simp only [gateE]; rw [if_neg h1, if_neg h2, if_pos h3]
theorem gE4 (h1 : ¬ arI k = 0) (h2 : ¬ l.length ≠ arI k) (h3 : ∀ w ∈ l, 0 ≤ w ∧ w < n) (h4 : ¬ l.Nodup) : gateE n b (k, l, bt, cf) = 5 := by simp only [gateE]; rw [if_neg h1, if_neg h2, if_neg (fun h => h h3), if_pos h4]
theorem gE5 (h1 : ¬ arI k = 0) (h2 : ¬ l.length ≠ arI k) (h3 : ∀ w ∈ l, 0 ≤ w ∧ w < n) (h4 : l.Nodup) (h5 : cf < 0 ∨ b < cf ∨ (k = 13 ∧ (bt < 0 ∨ b ≤ bt))) : gateE n b (k, l, bt, cf) = 1 := by
 simp only [gateE]; rw [if_neg h1, if_neg h2, if_neg (fun h => h h3), if_neg (fun h => h h4), if_pos h5]
theorem gE6 (h1 : ¬ arI k = 0) (h2 : ¬ l.length ≠ arI k) (h3 : ∀ w ∈ l, 0 ≤ w ∧ w < n) (h4 : l.Nodup) (h5 : ¬ (cf < 0 ∨ b < cf ∨ (k = 13 ∧ (bt < 0 ∨ b ≤ bt)))) (h6 : ((k = 13 ∨ k = 14) ∧ cf ≠ 0) ∨ (k ≠ 13 ∧ bt ≠ 0)) : gateE n b (k, l, bt, cf) = 7 := by
 simp only [gateE]; rw [if_neg h1, if_neg h2, if_neg (fun h => h h3), if_neg (fun h => h h4), if_neg h5, if_pos h6]
theorem gE7 (h1 : ¬ arI k = 0) (h2 : ¬ l.length ≠ arI k) (h3 : ∀ w ∈ l, 0 ≤ w ∧ w < n) (h4 : l.Nodup) (h5 : ¬ (cf < 0 ∨ b < cf ∨ (k = 13 ∧ (bt < 0 ∨ b ≤ bt)))) (h6 : ¬ (((k = 13 ∨ k = 14) ∧ cf ≠ 0) ∨ (k ≠ 13 ∧ bt ≠ 0))) : gateE n b (k, l, bt, cf) = 0 := by
 simp only [gateE]; rw [if_neg h1, if_neg h2, if_neg (fun h => h h3), if_neg (fun h => h h4), if_neg h5, if_neg h6]
end
theorem arI_le (k : Int) : arI k ≤ 3 := by
 unfold arI
 split
 ·omega
 split
 ·omega
 split <;> omega
theorem nodup_of_take : ∀ {w : List Nat}, (∀ (j : Nat) x, w[j]? = some x → x ∉ w.take j) → w.Nodup := by
 intro w
 induction w with
 | nil => intro _; exact List.nodup_nil
 | cons a w ih =>
  intro h
  refine List.nodup_cons.2 ⟨fun ha => ?_, ih fun j x hx hm => h (j + 1) x (by simpa using hx) (by simp [hm])⟩
  obtain ⟨j, hj⟩ := List.mem_iff_getElem?.1 ha
  exact h (j + 1) a (by simpa using hj) (by simp)
/-- Gates as they come, readable. -/
def GsAt (m : Mem) (v : Value) (Gs : List GateV) : Prop :=
  (Gs = [] ∧ (v = .slice none 0 0 ∨ ∃ b o, v = .slice (some ⟨b, o, none⟩) 0 0)) ∨ ∃ b cap r c, v = .slice (some ⟨b, 0, some 4⟩) Gs.length cap ∧ Mem.get m b = .cells r c ∧
    ∀ (i : Nat) (g : GateV), Gs[i]? = some g → ∃ s, i * 4 + 4 ≤ c.size ∧ c.extract (0 + i * 4) (0 + i * 4 + 4) = #[.int .i64 g.1, s, .int .i64 g.2.2.1, .int .i64 g.2.2.2] ∧ IntsAt m s g.2.1 ∧ CapOk s
theorem GsAt.ext {m m' : Mem} {v : Value} {Gs : List GateV} (h : GsAt m v Gs) (he : Ext m m') : GsAt m' v Gs := by
 rcases h with h | ⟨b, cap, rw_, c, h1, h2, h3⟩
 ·exact .inl h
 ·refine .inr ⟨b, cap, rw_, c, h1, he.cells h2, fun i g hi => ?_⟩
  obtain ⟨s, e1, e2, e3, e4⟩ := h3 i g hi
  exact ⟨s, e1, e2, e3.ext he, e4⟩
theorem GsAt.len {m : Mem} {v : Value} {Gs : List GateV} (h : GsAt m v Gs) : ∃ q cap, v = .slice q Gs.length cap := by
 rcases h with ⟨rfl, rfl | ⟨_, _, rfl⟩⟩ | ⟨b, cap, rw_, c, rfl, _⟩ <;> exact ⟨_, _, rfl⟩
theorem GsAt.gate {m : Mem} {v : Value} {Gs : List GateV} (h : GsAt m v Gs) {i : Nat} {g : GateV} (hi : Gs[i]? = some g) :
  ∃ b cap r c q cw, v = .slice (some ⟨b, 0, some 4⟩) Gs.length cap ∧ Mem.get m b = .cells r c ∧ i * 4 + 4 ≤ c.size ∧ c.extract (0 + i * 4) (0 + i * 4 + 4) = #[.int .i64 g.1, .slice q g.2.1.length cw, .int .i64 g.2.2.1, .int .i64 g.2.2.2] ∧ IntsAt m (.slice q g.2.1.length cw) g.2.1 ∧ CapOk (.slice q g.2.1.length cw) := by
 rcases h with ⟨rfl, _⟩ | ⟨b, cap, rw_, c, rfl, h2, h3⟩
 ·cases hi
 ·obtain ⟨s, e1, e2, e3, e4⟩ := h3 i g hi
  obtain ⟨q, cw, rfl⟩ := e3.len
  exact ⟨b, cap, rw_, c, q, cw, rfl, h2, e1, e2, e3, e4⟩
theorem OwnF.capOk {N : Nat} {m : Mem} {v : Value} {l : List Int} (h : OwnF N m v l) : CapOk v := by
 intro q k c e
 rcases h with ⟨rfl, rfl⟩ | ⟨b, cap, c', r, h1, h2, h3, h4, h5⟩
 ·cases e; exact Nat.le_refl _
 ·rw [r] at e; cases e; exact h3
/-- Part of readable numbers. -/
theorem cut_ints {m : Mem} {v : Value} {L : List Nat} {k : Nat} (h : IntsAt m v (ofs L)) (hc : CapOk v) (hk : k ≤ L.length) : ∃ v2, aSlice Tryd.prog m 22 v none (some (nv k)) none = some v2 ∧ IntsAt m v2 (ofs (L.take k)) ∧ (∃ q c, v2 = .slice q (L.take k).length c) := by
 rcases h with ⟨h1, rfl | ⟨b, o, rfl⟩⟩ | ⟨b, o, cap, r, c, rfl, h2, h3⟩
 ·obtain rfl : L = [] := by cases L with
   | nil => rfl
   | cons a r => simp [ofs] at h1
  obtain rfl : k = 0 := by simpa using hk
  exact ⟨.slice none 0 0, by simp only [aSlice, T22, S3, aBounds]; rfl, .inl ⟨rfl, .inl rfl⟩, _, _, rfl⟩
 ·obtain rfl : L = [] := by cases L with
   | nil => rfl
   | cons a r => simp [ofs] at h1
  obtain rfl : k = 0 := by simpa using hk
  exact ⟨_, by simp only [aSlice, T22, S3, aBounds]; rfl, .inl ⟨rfl, .inr ⟨_, _, rfl⟩⟩, _, _, rfl⟩
 ·have h4 := hc _ _ _ rfl
  rw [ofs_length] at h4
  have hkc : k ≤ cap := by omega
  refine ⟨_, aSlice_hi T22 S3 hkc, .inr ⟨b, o, cap, r, c, by rw [ofs_length, List.length_take, Nat.min_eq_left hk], h2, fun i x hx => h3 i x ?_⟩, _, _, by rw [List.length_take, Nat.min_eq_left hk]⟩
  simp only [ofs, List.map_take, List.getElem?_take] at hx
  split at hx
  ·exact hx
  ·cases hx
theorem spec_wireI {m : Mem} {p : Nat} {n x : Int} {r : Bool} {a b d : Value} (h : Mem.get m p = .cells r #[.int .i64 n, a, b, d]) : ACalls Tryd.prog 152 #[.int .i64 x, .pointer (some ⟨p, 0, none⟩)] m (.bool (decide (0 ≤ x) && decide (x < n))) m := by
 refine ACalls.callee ?_
 refine wpF (args := [_, _]) mixed okf152 (fn := Tryd.f152) rfl rfl rfl (by simp) ?_
 refine cSR ?_
 refine sAb rfl ?_
 refine sN ?_
 refine cSR ?_
 refine sMv (v := .int _ _) rfl ?_
 refine sBinI (v := .bool (decide (0 ≤ x))) (b := 0) rfl rfl aInt_geqI ?_
 refine sMb rfl ?_
 by_cases h1 : 0 ≤ x
 ·
  rw [decide_eq_true h1]
  refine sG rfl rfl ?_
  refine sMv (v := .int _ _) rfl ?_
  refine sG rfl rfl ?_
  refine sFA F157_0 rfl ?_
  refine sG rfl rfl ?_
  refine sFA F30_0 rfl ?_
  refine sG rfl rfl ?_
  refine sLd (v := .int .i64 n) A3 rfl h rfl ?_
  refine sG rfl rfl ?_
  refine sBinI (v := .bool (decide (x < n))) rfl rfl aInt_lssI ?_
  refine sPb rfl ?_
  refine sAb rfl ?_
  refine sN ?_
  refine cRet ?_
  exact ⟨.inr rfl, _, rfl, rfl, rfl⟩
 ·
  rw [decide_eq_false h1]
  refine sGF rfl rfl ?_
  refine sGF rfl rfl ?_
  refine sGF rfl rfl ?_
  refine sGF rfl rfl ?_
  refine sGF rfl rfl ?_
  refine sPb rfl ?_
  refine sAb rfl ?_
  refine sN ?_
  refine cRet ?_
  exact ⟨.inr rfl, _, rfl, rfl, rfl⟩
theorem spec_ArityI {m : Mem} {k : Int} : ACalls Tryd.prog 153 #[.int .i64 k] m (nv (arI k)) m := by
 refine ACalls.callee ?_
 refine wpF (args := [_]) mixed okf153 (fn := Tryd.f153) rfl rfl rfl (by simp) ?_
 refine cSR ?_
 refine sAn rfl ?_
 refine sN ?_
 refine cSeq (cBlock (cSR ?_))
 refine sMv (v := .int _ _) rfl ?_
 refine sBinI (v := .bool (decide (k = 12))) (b := 12) rfl rfl aInt_eqlI ?_
 refine sAb rfl ?_
 refine sN ?_
 refine cCond (p := k = 12) rfl (fun c0 => ?_) (fun c0 => ?_)
 ·
  refine cSR ?_
  refine sAs (v := nv 3) rfl ?_
  refine sN ?_
  refine cRet (kBlkR (kSeqR ?_))
  exact ⟨.inr rfl, _, rfl, by rw [arI, if_pos c0]; rfl, rfl⟩
 ·
  refine cSR ?_
  refine sMv (v := .int _ _) rfl ?_
  refine sBinI (v := .bool (decide (9 ≤ k))) (b := 9) rfl rfl aInt_geqI ?_
  refine sMb rfl ?_
  by_cases h9 : 9 ≤ k
  ·
   rw [decide_eq_true h9]
   refine sG rfl rfl ?_
   refine sMv (v := .int _ _) rfl ?_
   refine sG rfl rfl ?_
   refine sBinI (v := .bool (decide (k ≤ 11))) (b := 11) rfl rfl aInt_leqI ?_
   refine sPb rfl ?_
   refine sAb rfl ?_
   refine sN ?_
   refine cCond (p := k ≤ 11) rfl (fun c1 => ?_) (fun c1 => ?_)
   ·
    refine cSR ?_
    refine sAs (v := nv 2) rfl ?_
    refine sN ?_
    refine cRet (kBlkR (kSeqR ?_))
    exact ⟨.inr rfl, _, rfl, by rw [arI, if_neg c0, if_pos ⟨h9, c1⟩]; rfl, rfl⟩
   ·
    refine cSR ?_
    refine sMv (v := .int _ _) rfl ?_
    refine sBinI (v := .bool (decide (1 ≤ k))) (b := 1) rfl rfl aInt_geqI ?_
    refine sMb rfl ?_
    by_cases h1 : 1 ≤ k
    ·
     rw [decide_eq_true h1]
     refine sG rfl rfl ?_
     refine sMv (v := .int _ _) rfl ?_
     refine sG rfl rfl ?_
     refine sBinI (v := .bool (decide (k ≤ 14))) (b := 14) rfl rfl aInt_leqI ?_
     refine sPb rfl ?_
     refine sAb rfl ?_
     refine sN ?_
     refine cCond (p := k ≤ 14) rfl (fun c2 => ?_) (fun c2 => ?_)
     ·
      refine cSR ?_
      refine sAs (v := nv 1) rfl ?_
      refine sN ?_
      refine cRet (kBlkR (kSeqR ?_))
      exact ⟨.inr rfl, _, rfl, by rw [arI, if_neg c0, if_neg (fun h => c1 h.2), if_pos ⟨h1, c2⟩]; rfl, rfl⟩
     ·
      refine cSkip (kBlkN (kSeqN ?_))
      refine cSR ?_
      refine sAn rfl ?_
      refine sN ?_
      refine cRet ?_
      exact ⟨.inr rfl, _, rfl, by rw [arI, if_neg c0, if_neg (fun h => c1 h.2), if_neg (fun h => c2 h.2)]; rfl, rfl⟩
    ·
     rw [decide_eq_false h1]
     refine sGF rfl rfl ?_
     refine sGF rfl rfl ?_
     refine sPb rfl ?_
     refine sAb rfl ?_
     refine sN ?_
     refine cCondF rfl ?_
     refine cSkip (kBlkN (kSeqN ?_))
     refine cSR ?_
     refine sAn rfl ?_
     refine sN ?_
     refine cRet ?_
     exact ⟨.inr rfl, _, rfl, by rw [arI, if_neg c0, if_neg (fun h => c1 h.2), if_neg (fun h => h1 h.1)]; rfl, rfl⟩
  ·
   rw [decide_eq_false h9]
   refine sGF rfl rfl ?_
   refine sGF rfl rfl ?_
   refine sPb rfl ?_
   refine sAb rfl ?_
   refine sN ?_
   refine cCondF rfl ?_
   refine cSR ?_
   refine sMv (v := .int _ _) rfl ?_
   refine sBinI (v := .bool (decide (1 ≤ k))) (b := 1) rfl rfl aInt_geqI ?_
   refine sMb rfl ?_
   by_cases h1 : 1 ≤ k
   ·
    rw [decide_eq_true h1]
    refine sG rfl rfl ?_
    refine sMv (v := .int _ _) rfl ?_
    refine sG rfl rfl ?_
    refine sBinI (v := .bool (decide (k ≤ 14))) (b := 14) rfl rfl aInt_leqI ?_
    refine sPb rfl ?_
    refine sAb rfl ?_
    refine sN ?_
    refine cCond (p := k ≤ 14) rfl (fun c2 => ?_) (fun c2 => ?_)
    ·
     refine cSR ?_
     refine sAs (v := nv 1) rfl ?_
     refine sN ?_
     refine cRet (kBlkR (kSeqR ?_))
     exact ⟨.inr rfl, _, rfl, by rw [arI, if_neg c0, if_neg (fun h => h9 h.1), if_pos ⟨h1, c2⟩]; rfl, rfl⟩
    ·
     refine cSkip (kBlkN (kSeqN ?_))
     refine cSR ?_
     refine sAn rfl ?_
     refine sN ?_
     refine cRet ?_
     exact ⟨.inr rfl, _, rfl, by rw [arI, if_neg c0, if_neg (fun h => h9 h.1), if_neg (fun h => c2 h.2)]; rfl, rfl⟩
   ·
    rw [decide_eq_false h1]
    refine sGF rfl rfl ?_
    refine sGF rfl rfl ?_
    refine sPb rfl ?_
    refine sAb rfl ?_
    refine sN ?_
    refine cCondF rfl ?_
    refine cSkip (kBlkN (kSeqN ?_))
    refine cSR ?_
    refine sAn rfl ?_
    refine sN ?_
    refine cRet ?_
    exact ⟨.inr rfl, _, rfl, by rw [arI, if_neg c0, if_neg (fun h => h9 h.1), if_neg (fun h => h1 h.1)]; rfl, rfl⟩
def H136g : Nat → List (Nat × Nat) := fun id => if id = 4 then [(1, 6), (2, 6)] else []
theorem okf136g : okF Tryd.prog H136g 136 96 = true := by kernel_rfl
theorem spec_gateI {m : Mem} {n b : Int} {sl ws d : Value} {g : GateV} (hw : IntsAt m ws g.2.1) (hk : CapOk ws) : ∃ v m', ACalls Tryd.prog 136 #[.agg #[.int .i64 n, .int .i64 b, sl, d], .agg #[.int .i64 g.1, ws, .int .i64 g.2.2.1, .int .i64 g.2.2.2]] m v m' ∧ (v = nv (gateE n b g) ∧ Ext m m') := by
 obtain ⟨k, l, bt, cf⟩ := g
 simp only at hw ⊢
 obtain ⟨qw, cw, rfl⟩ := hw.len
 have ex : Ext m ((m.push (.cells true #[.int .i64 n, .int .i64 b, sl, d])).push (.cells true #[.int .i64 k, .slice qw l.length cw, .int .i64 bt, .int .i64 cf])) := (Ext.push _ _).trans (.push _ _)
 have g1 : Mem.get ((m.push (.cells true #[.int .i64 n, .int .i64 b, sl, d])).push (.cells true #[.int .i64 k, .slice qw l.length cw, .int .i64 bt, .int .i64 cf])) m.size = .cells true #[.int .i64 n, .int .i64 b, sl, d] := by rw [gPn (by simp), gP rfl]
 have g2 : Mem.get ((m.push (.cells true #[.int .i64 n, .int .i64 b, sl, d])).push (.cells true #[.int .i64 k, .slice qw l.length cw, .int .i64 bt, .int .i64 cf])) (m.size + 1) = .cells true #[.int .i64 k, .slice qw l.length cw, .int .i64 bt, .int .i64 cf] := gP (by simp)
 refine wpF (args := [_, _]) mixed okf136g (fn := Tryd.f136) rfl rfl rfl (by simp) ?_
 refine cSR ?_
 refine sBox (v := .agg _) rfl ?_
 refine sBoxB (bl := m.size + 1) (v := .agg _) (by simp) rfl ?_
 change wpOps _ _ _ _ _ ((m.push (.cells true #[.int .i64 n, .int .i64 b, sl, d])).push (.cells true #[.int .i64 k, .slice qw l.length cw, .int .i64 bt, .int .i64 cf]))
 generalize ((m.push (.cells true #[.int .i64 n, .int .i64 b, sl, d])).push (.cells true #[.int .i64 k, .slice qw l.length cw, .int .i64 bt, .int .i64 cf])) = M at *
 have hwM := hw.ext ex
 refine sAn rfl ?_
 refine sN ?_
 refine cSR ?_
 refine sMFc1 rfl ?_
 refine sAs (v := .func _ _ _) rfl ?_
 refine sN ?_
 refine cSeq (cBlock (cSR ?_))
 refine sFA F49_0 rfl ?_
 refine sLd (v := .int .i64 k) A3 rfl g2 rfl ?_
 refine sCall1 rfl call153 rfl spec_ArityI ?_
 refine sBin (a := arI k) (b := 0) rfl rfl aInt_eql ?_
 refine sAb rfl ?_
 refine sN ?_
 refine cCond (p := arI k = 0) rfl (fun c0 => ?_) (fun c0 => ?_)
 ·
  refine cSR ?_
  refine sAs (v := nv 3) rfl ?_
  refine sN ?_
  refine cRet (kBlkR (kSeqR ?_))
  exact ⟨.inr rfl, _, rfl, by rw [gE1 c0]; rfl, ex⟩
 ·
  refine cSeq ?_
  refine cDrawH (hs := [(1, 6), (2, 6)]) rfl (by decide) ?_
  refine lStepO (sFA F49_1 rfl (sNil fun e0 hm0 => ?_))
  refine lStepLd (v := .slice qw l.length cw) A22 rfl g2 rfl fun e1 hm1 hv1 hr1 => ?_
  refine lStepLen T22 rfl fun e2 hm2 hv2 hr2 => ?_
  refine lStepO (sFA F49_0 rfl (sNil fun e3 hm3 => ?_))
  refine lStepLd (v := .int .i64 k) A3 rfl g2 rfl fun e4 hm4 hv4 hr4 => ?_
  refine lStepO (sCall1 rfl call153 rfl spec_ArityI (sNil fun e5 hm5 => ?_))
  refine lStepO (sBin (a := l.length) (b := arI k) rfl rfl aInt_neq (sNil fun e6 hm6 => ?_))
  refine lStepO (sAs (v := .bool _) rfl (sNil fun e7 hm7 => ?_))
  refine ⟨?_, (kSeqN ?_)⟩
  ·
   refine obl_atE (e := e1) (e' := e6) (by simp) (by rfl) (by simp) ((hr1 e6.m _ _ (by rw [hm6]; exact g2) (by rfl)).trans (congrArg some hv1.symm)) ?_
   refine obl_pure (e := e2) (by simp) (by rfl) (hr2.trans (congrArg some hv2.symm)) ?_
   trivial
  refine cCond (p := l.length ≠ arI k) rfl (fun c1 => ?_) (fun c1 => ?_)
  ·
   refine cSR ?_
   refine sAs (v := nv 2) rfl ?_
   refine sN ?_
   refine cRet (kBlkR (kSeqR ?_))
   exact ⟨.inr rfl, _, rfl, by rw [gE2 c0 c1]; rfl, ex⟩
  ·
   have hl14 : l.length ≤ 3 := by
    have h1 : l.length = arI k := Classical.byContradiction c1
    have := arI_le k
    omega
   refine cSR ?_
   refine sFA F49_1 rfl ?_
   refine sLd (v := .slice qw l.length cw) A22 rfl g2 rfl ?_
   refine sMv (v := .func _ _ _) rfl ?_
   obtain ⟨v27, m27, h27, rfl, e27⟩ := spec_every (m := M) (p := fun x => decide (0 ≤ x) && decide (x < n)) (g := 152) (cp := #[.pointer (some ⟨m.size, 0, none⟩)]) hwM (by omega) call152 fun x _ m' he => spec_wireI (he.cells g1)
   refine sCall2 rfl call154 rfl rfl h27 ?_
   replace g1 := e27.cells g1
   replace g2 := e27.cells g2
   replace ex := ex.trans e27
   replace hwM := hwM.ext e27
   have hall : (l.all fun x => decide (0 ≤ x) && decide (x < n)) = true ↔ ∀ w ∈ l, 0 ≤ w ∧ w < n := by simp [List.all_eq_true]
   have hb3 : decide (¬ ∀ w ∈ l, 0 ≤ w ∧ w < n) = !(l.all fun x => decide (0 ≤ x) && decide (x < n)) := by
    by_cases h3 : ∀ w ∈ l, 0 ≤ w ∧ w < n
    ·rw [hall.2 h3, decide_eq_false (fun h => h h3)]; rfl
    ·rw [Bool.eq_false_iff.2 (fun h => h3 (hall.1 h)), decide_eq_true h3]; rfl
   refine sP (v := .bool (decide (¬ ∀ w ∈ l, 0 ≤ w ∧ w < n))) (by rw [hb3]; rfl) ?_
   refine sAb rfl ?_
   refine sN ?_
   refine cCond (p := ¬ ∀ w ∈ l, 0 ≤ w ∧ w < n) rfl (fun c2 => ?_) (fun c2 => ?_)
   ·
    refine cSR ?_
    refine sAs (v := nv 1) rfl ?_
    refine sN ?_
    refine cRet (kBlkR (kSeqR ?_))
    exact ⟨.inr rfl, _, rfl, by rw [gE3 c0 c1 c2]; rfl, ex⟩
   ·
    have h3 : ∀ w ∈ l, 0 ≤ w ∧ w < n := Classical.byContradiction c2
    obtain ⟨w, rfl⟩ : ∃ w : List Nat, l = ofs w := ⟨l.map Int.toNat, (ofs_toNat fun y hy => (h3 y hy).1).symm⟩
    have c1' : ¬ w.length ≠ arI k := by rw [ofs_length] at c1; exact c1
    have hl14' : w.length ≤ 3 := by rw [ofs_length] at hl14; exact hl14
    rw [ofs_length] at hwM hk g2
    refine cSkip (kBlkN (kSeqN ?_))
    refine cSeq (cSR ?_)
    refine sFA F49_1 rfl ?_
    refine sLd (v := .slice qw w.length cw) A22 rfl g2 rfl ?_
    refine sLen T22 rfl ?_
    refine sMv (v := nv 0) rfl ?_
    refine sN ?_
    refine cBlock ?_
    refine wpC_loop (fun k' ρ m' => ∃ i, k' = w.length - i ∧ i ≤ w.length ∧ (∀ (j : Nat) x, j < i → w[j]? = some x → x ∉ w.take j) ∧ m27 = m' ∧ Has ρ [(2, .pointer (some ⟨m.size, 0, none⟩)), (3, .pointer (some ⟨m.size + 1, 0, none⟩)), (30, .slice qw w.length cw), (31, nv w.length), (32, nv i)]) ⟨0, rfl, by omega, fun j x h => absurd h (by omega), rfl, rfl, rfl, rfl, rfl, rfl, trivial⟩ ?_
    rintro k' ρ _ ⟨i, rfl, hi, hr, rfl, hh⟩
    rw [hh.env]; clear hh
    refine cSR ?_
    refine sBin rfl rfl (aInt_lss) ?_
    refine sN ?_
    refine cSeq ?_
    refine cCond rfl (fun c3 => ?_) (fun c3 => ?_)
    ·
     obtain ⟨b1, o1, p1, r1, cc, ee1, gg, x1⟩ := hwM.atN (by omega)
     cases ee1
     refine cSkip (kSeqN ?_)
     refine cSeq (cBlock (cSR ?_))
     refine sMn rfl ?_
     refine sIx T22 S3 rfl rfl (by omega) ?_
     refine sLd (v := nv w[i]) A3 rfl gg (x1 i w[i] (by simp)) ?_
     refine sAn rfl ?_
     refine sAn rfl ?_
     refine sN ?_
     refine cSR ?_
     refine sFA F49_1 rfl ?_
     refine sLd (v := .slice _ _ _) A22 rfl g2 rfl ?_
     refine sMn rfl ?_
     obtain ⟨v40, h40, o40, q40, c40, rfl⟩ := cut_ints hwM hk (Nat.le_of_lt c3)
     refine sO (v := .slice q40 (w.take i).length c40) (m' := m27) (opF_read rfl h40) ?_
     refine sMn rfl ?_
     refine sCall2 rfl call155 rfl rfl (spec_Contains o40 (by simp; omega) (x := w[i])) ?_
     refine sN ?_
     refine cCond (p := w[i] ∈ w.take i) rfl (fun c4 => ?_) (fun c4 => ?_)
     ·
      refine cSR ?_
      refine sAs (v := nv 5) rfl ?_
      refine sN ?_
      refine cRet (kBlkR (kSeqR (kSeqR (kBlkR (kSeqR ?_)))))
      refine ⟨.inr rfl, _, rfl, ?_, ex⟩
      rw [gE4 c0 c1 h3 (fun hn => nodup_take_not (ofs_nodup.1 hn) c3 c4)]; rfl
     ·
      refine cSkip (kBlkN (kSeqN ?_))
      refine cRegion ?_
      refine sBin rfl rfl (aInt_add (b := 1) (by omega)) ?_
      refine sMn rfl ?_
      refine sN ?_
      refine ⟨_, ?_, i + 1, rfl, by omega, fun j x hj hx => ?_, rfl, rfl, rfl, rfl, rfl, rfl, trivial⟩
      ·omega
      ·by_cases e : j = i
       ·subst e
        rw [List.getElem?_eq_getElem c3] at hx
        cases hx; exact c4
       ·exact hr j x (by omega) hx
    ·
     have h4 : (ofs w).Nodup := ofs_nodup.2 (nodup_of_take fun j x hx => hr j x (by have := (List.getElem?_eq_some_iff.1 hx).1; omega) hx)
     refine cExit (kSeqE (kSeqE (kBlkS (kSeqN ?_))))
     refine cSR ?_
     refine sFA F49_0 rfl ?_
     refine sLd (v := .int .i64 k) A3 rfl g2 rfl ?_
     refine sBinI (v := .bool (decide (k = 13))) (b := 13) rfl rfl aInt_eqlI ?_
     refine sAb rfl ?_
     refine sN ?_
     refine cSeq (cBlock ?_)
     refine cCut (fun ρ M => m27 = M ∧ Has ρ [(2, .pointer (some ⟨m.size, 0, none⟩)), (3, .pointer (some ⟨m.size + 1, 0, none⟩)), (8, .bool (decide (k = 13))), (47, .bool (decide (cf < 0 ∨ b < cf ∨ (k = 13 ∧ (bt < 0 ∨ b ≤ bt)))))]) ?_ ?_
     ·
      refine cRegion ?_
      refine sFA F49_3 rfl ?_
      refine sLd (v := .int .i64 cf) A3 rfl g2 rfl ?_
      refine sBinI (v := .bool (decide (cf < 0))) (b := 0) rfl rfl aInt_lssI ?_
      refine sMb rfl ?_
      by_cases q1 : cf < 0
      ·
       rw [decide_eq_true q1]
       refine sGT rfl rfl ?_
       refine sGT rfl rfl ?_
       refine sGT rfl rfl ?_
       refine sGT rfl rfl ?_
       refine sGT rfl rfl ?_
       refine sGT rfl rfl ?_
       refine sPb rfl ?_
       refine sMb rfl ?_
       refine sGT rfl rfl ?_
       refine sGT rfl rfl ?_
       refine sGnoU rfl rfl ?_
       refine sGnoU rfl rfl ?_
       refine sGnoU rfl rfl ?_
       refine sGnoU rfl rfl ?_
       refine sGnoU rfl rfl ?_
       refine sGnoU rfl rfl ?_
       refine sGnoU rfl rfl ?_
       refine sGnoU rfl rfl ?_
       refine sGnoU rfl rfl ?_
       refine sGnoU rfl rfl ?_
       refine sGnoU rfl rfl ?_
       refine sGT rfl rfl ?_
       refine sPb rfl ?_
       refine sAb rfl ?_
       refine sN ?_
       exact ⟨rfl, rfl, rfl, rfl, by rw [decide_eq_true (p := cf < 0 ∨ b < cf ∨ (k = 13 ∧ (bt < 0 ∨ b ≤ bt))) (.inl q1)]; rfl, trivial⟩
      ·
       rw [decide_eq_false q1]
       refine sG rfl rfl ?_
       refine sFA F49_3 rfl ?_
       refine sG rfl rfl ?_
       refine sLd (v := .int .i64 cf) A3 rfl g2 rfl ?_
       refine sG rfl rfl ?_
       refine sFA F157_0 rfl ?_
       refine sG rfl rfl ?_
       refine sFA F30_1 rfl ?_
       refine sG rfl rfl ?_
       refine sLd (v := .int .i64 b) A3 rfl g1 rfl ?_
       refine sG rfl rfl ?_
       refine sBinI (v := .bool (decide (b < cf))) rfl rfl aInt_gtrI ?_
       refine sPb rfl ?_
       refine sMb rfl ?_
       by_cases q2 : b < cf
       ·
        rw [decide_eq_true q2]
        refine sGT rfl rfl ?_
        refine sGT rfl rfl ?_
        refine sGnoU rfl rfl ?_
        refine sGnoU rfl rfl ?_
        refine sGnoU rfl rfl ?_
        refine sGnoU rfl rfl ?_
        refine sGnoU rfl rfl ?_
        refine sGnoU rfl rfl ?_
        refine sGnoU rfl rfl ?_
        refine sGnoU rfl rfl ?_
        refine sGnoU rfl rfl ?_
        refine sGnoU rfl rfl ?_
        refine sGnoU rfl rfl ?_
        refine sGT rfl rfl ?_
        refine sPb rfl ?_
        refine sAb rfl ?_
        refine sN ?_
        exact ⟨rfl, rfl, rfl, rfl, by rw [decide_eq_true (p := cf < 0 ∨ b < cf ∨ (k = 13 ∧ (bt < 0 ∨ b ≤ bt))) (.inr (.inl q2))]; rfl, trivial⟩
       ·
        rw [decide_eq_false q2]
        refine sG rfl rfl ?_
        refine sMv (v := .bool (decide (k = 13))) rfl ?_
        refine sG rfl rfl ?_
        refine sMb rfl ?_
        by_cases q3 : k = 13
        ·
         rw [decide_eq_true q3]
         refine sG rfl rfl ?_
         refine sFA F49_2 rfl ?_
         refine sG rfl rfl ?_
         refine sLd (v := .int .i64 bt) A3 rfl g2 rfl ?_
         refine sG rfl rfl ?_
         refine sBinI (v := .bool (decide (bt < 0))) (b := 0) rfl rfl aInt_lssI ?_
         refine sG rfl rfl ?_
         refine sMb rfl ?_
         by_cases q4 : bt < 0
         ·
          rw [decide_eq_true q4]
          refine sGT rfl rfl ?_
          refine sGT rfl rfl ?_
          refine sGT rfl rfl ?_
          refine sGT rfl rfl ?_
          refine sGT rfl rfl ?_
          refine sGT rfl rfl ?_
          refine sG rfl rfl ?_
          refine sPb rfl ?_
          refine sG rfl rfl ?_
          refine sPb rfl ?_
          refine sPb rfl ?_
          refine sAb rfl ?_
          refine sN ?_
          exact ⟨rfl, rfl, rfl, (by first | rfl | (rw [decide_eq_true q3]; rfl)), by rw [decide_eq_true (p := cf < 0 ∨ b < cf ∨ (k = 13 ∧ (bt < 0 ∨ b ≤ bt))) (.inr (.inr ⟨q3, .inl q4⟩))]; rfl, trivial⟩
         ·
          rw [decide_eq_false q4]
          refine sG rfl rfl ?_
          refine sFA F49_2 rfl ?_
          refine sG rfl rfl ?_
          refine sLd (v := .int .i64 bt) A3 rfl g2 rfl ?_
          refine sG rfl rfl ?_
          refine sFA F157_0 rfl ?_
          refine sG rfl rfl ?_
          refine sFA F30_1 rfl ?_
          refine sG rfl rfl ?_
          refine sLd (v := .int .i64 b) A3 rfl g1 rfl ?_
          refine sG rfl rfl ?_
          refine sBinI (v := .bool (decide (b ≤ bt))) rfl rfl aInt_geqI ?_
          refine sG rfl rfl ?_
          refine sPb rfl ?_
          refine sG rfl rfl ?_
          refine sPb rfl ?_
          refine sPb rfl ?_
          refine sAb rfl ?_
          refine sN ?_
          exact ⟨rfl, rfl, rfl, (by first | rfl | (rw [decide_eq_true q3]; rfl)), by rw [show decide (cf < 0 ∨ b < cf ∨ (k = 13 ∧ (bt < 0 ∨ b ≤ bt))) = decide (b ≤ bt) from decide_eq_decide.2 ⟨fun h => by omega, fun h => by omega⟩]; rfl, trivial⟩
        ·
         rw [decide_eq_false q3]
         refine sGF rfl rfl ?_
         refine sGF rfl rfl ?_
         refine sGF rfl rfl ?_
         refine sGF rfl rfl ?_
         refine sGnoU rfl rfl ?_
         refine sGnoU rfl rfl ?_
         refine sGnoU rfl rfl ?_
         refine sGnoU rfl rfl ?_
         refine sGnoU rfl rfl ?_
         refine sGnoU rfl rfl ?_
         refine sGF rfl rfl ?_
         refine sG rfl rfl ?_
         refine sPb rfl ?_
         refine sPb rfl ?_
         refine sAb rfl ?_
         refine sN ?_
         exact ⟨rfl, rfl, rfl, (by first | rfl | (rw [decide_eq_false q3]; rfl)), by rw [decide_eq_false (p := cf < 0 ∨ b < cf ∨ (k = 13 ∧ (bt < 0 ∨ b ≤ bt))) (by omega)]; rfl, trivial⟩
     rintro ρ _ ⟨rfl, hh⟩
     rw [hh.env]; clear hh
     refine cCond (p := cf < 0 ∨ b < cf ∨ (k = 13 ∧ (bt < 0 ∨ b ≤ bt))) rfl (fun h5 => ?_) (fun h5 => ?_)
     ·
      refine cSR ?_
      refine sAs (v := nv 1) rfl ?_
      refine sN ?_
      refine cRet (kBlkR (kSeqR ?_))
      exact ⟨.inr rfl, _, rfl, by rw [gE5 c0 c1 h3 h4 h5]; rfl, ex⟩
     ·
      refine cSR ?_
      refine sMb rfl ?_
      refine sMb rfl ?_
      by_cases q3 : k = 13
      ·
       rw [decide_eq_true q3]
       refine sGT rfl rfl ?_
       refine sGT rfl rfl ?_
       refine sGT rfl rfl ?_
       refine sPb rfl ?_
       refine sMb rfl ?_
       refine sG rfl rfl ?_
       refine sFA F49_3 rfl ?_
       refine sG rfl rfl ?_
       refine sLd (v := .int .i64 cf) A3 rfl g2 rfl ?_
       refine sG rfl rfl ?_
       refine sBinI (v := .bool (decide (cf ≠ 0))) (b := 0) rfl rfl aInt_neqI ?_
       refine sPb rfl ?_
       refine sMb rfl ?_
       by_cases q6 : cf ≠ 0
       ·
        rw [decide_eq_true q6]
        refine sGT rfl rfl ?_
        refine sGT rfl rfl ?_
        refine sGT rfl rfl ?_
        refine sGnoU rfl rfl ?_
        refine sGnoU rfl rfl ?_
        refine sGnoU rfl rfl ?_
        refine sGT rfl rfl ?_
        refine sPb rfl ?_
        refine sAb rfl ?_
        refine sN ?_
        refine cCondT rfl ?_
        refine cSR ?_
        refine sAs (v := nv 7) rfl ?_
        refine sN ?_
        refine cRet (kBlkR (kSeqR ?_))
        exact ⟨.inr rfl, _, rfl, by rw [gE6 c0 c1 h3 h4 h5 (.inl ⟨.inl q3, q6⟩)]; rfl, ex⟩
       ·
        rw [decide_eq_false q6]
        refine sG rfl rfl ?_
        refine sMb rfl ?_
        refine sG rfl rfl ?_
        refine sPb rfl ?_
        refine sG rfl rfl ?_
        refine sMb rfl ?_
        refine sGF rfl rfl ?_
        refine sGF rfl rfl ?_
        refine sGF rfl rfl ?_
        refine sG rfl rfl ?_
        refine sPb rfl ?_
        refine sPb rfl ?_
        refine sAb rfl ?_
        refine sN ?_
        refine cCondF rfl ?_
        refine cSkip (kBlkN (kSeqN ?_))
        refine cSR ?_
        refine sAn rfl ?_
        refine sN ?_
        refine cRet ?_
        exact ⟨.inr rfl, _, rfl, by rw [gE7 c0 c1 h3 h4 h5 (by omega)]; rfl, ex⟩
      ·
       rw [decide_eq_false q3]
       refine sG rfl rfl ?_
       refine sFA F49_0 rfl ?_
       refine sG rfl rfl ?_
       refine sLd (v := .int .i64 k) A3 rfl g2 rfl ?_
       refine sG rfl rfl ?_
       refine sBinI (v := .bool (decide (k = 14))) (b := 14) rfl rfl aInt_eqlI ?_
       refine sPb rfl ?_
       refine sMb rfl ?_
       by_cases q5 : k = 14
       ·
        rw [decide_eq_true q5]
        refine sG rfl rfl ?_
        refine sFA F49_3 rfl ?_
        refine sG rfl rfl ?_
        refine sLd (v := .int .i64 cf) A3 rfl g2 rfl ?_
        refine sG rfl rfl ?_
        refine sBinI (v := .bool (decide (cf ≠ 0))) (b := 0) rfl rfl aInt_neqI ?_
        refine sPb rfl ?_
        refine sMb rfl ?_
        by_cases q6 : cf ≠ 0
        ·
         rw [decide_eq_true q6]
         refine sGT rfl rfl ?_
         refine sGT rfl rfl ?_
         refine sGT rfl rfl ?_
         refine sGnoU rfl rfl ?_
         refine sGnoU rfl rfl ?_
         refine sGnoU rfl rfl ?_
         refine sGT rfl rfl ?_
         refine sPb rfl ?_
         refine sAb rfl ?_
         refine sN ?_
         refine cCondT rfl ?_
         refine cSR ?_
         refine sAs (v := nv 7) rfl ?_
         refine sN ?_
         refine cRet (kBlkR (kSeqR ?_))
         exact ⟨.inr rfl, _, rfl, by rw [gE6 c0 c1 h3 h4 h5 (.inl ⟨.inr q5, q6⟩)]; rfl, ex⟩
        ·
         rw [decide_eq_false q6]
         refine sG rfl rfl ?_
         refine sMb rfl ?_
         refine sG rfl rfl ?_
         refine sPb rfl ?_
         refine sG rfl rfl ?_
         refine sMb rfl ?_
         refine sG rfl rfl ?_
         refine sFA F49_2 rfl ?_
         refine sG rfl rfl ?_
         refine sLd (v := .int .i64 bt) A3 rfl g2 rfl ?_
         refine sG rfl rfl ?_
         refine sBinI (v := .bool (decide (bt ≠ 0))) (b := 0) rfl rfl aInt_neqI ?_
         refine sG rfl rfl ?_
         refine sPb rfl ?_
         refine sPb rfl ?_
         refine sAb rfl ?_
         refine sN ?_
         refine cCond (p := bt ≠ 0) rfl (fun q7 => ?_) (fun q7 => ?_)
         ·
          refine cSR ?_
          refine sAs (v := nv 7) rfl ?_
          refine sN ?_
          refine cRet (kBlkR (kSeqR ?_))
          exact ⟨.inr rfl, _, rfl, by rw [gE6 c0 c1 h3 h4 h5 (.inr ⟨q3, q7⟩)]; rfl, ex⟩
         ·
          refine cSkip (kBlkN (kSeqN ?_))
          refine cSR ?_
          refine sAn rfl ?_
          refine sN ?_
          refine cRet ?_
          exact ⟨.inr rfl, _, rfl, by rw [gE7 c0 c1 h3 h4 h5 (by omega)]; rfl, ex⟩
       ·
        rw [decide_eq_false q5]
        refine sGF rfl rfl ?_
        refine sGF rfl rfl ?_
        refine sGF rfl rfl ?_
        refine sPb rfl ?_
        refine sMb rfl ?_
        refine sG rfl rfl ?_
        refine sMb rfl ?_
        refine sG rfl rfl ?_
        refine sPb rfl ?_
        refine sG rfl rfl ?_
        refine sMb rfl ?_
        refine sG rfl rfl ?_
        refine sFA F49_2 rfl ?_
        refine sG rfl rfl ?_
        refine sLd (v := .int .i64 bt) A3 rfl g2 rfl ?_
        refine sG rfl rfl ?_
        refine sBinI (v := .bool (decide (bt ≠ 0))) (b := 0) rfl rfl aInt_neqI ?_
        refine sG rfl rfl ?_
        refine sPb rfl ?_
        refine sPb rfl ?_
        refine sAb rfl ?_
        refine sN ?_
        refine cCond (p := bt ≠ 0) rfl (fun q7 => ?_) (fun q7 => ?_)
        ·
         refine cSR ?_
         refine sAs (v := nv 7) rfl ?_
         refine sN ?_
         refine cRet (kBlkR (kSeqR ?_))
         exact ⟨.inr rfl, _, rfl, by rw [gE6 c0 c1 h3 h4 h5 (.inr ⟨q3, q7⟩)]; rfl, ex⟩
        ·
         refine cSkip (kBlkN (kSeqN ?_))
         refine cSR ?_
         refine sAn rfl ?_
         refine sN ?_
         refine cRet ?_
         exact ⟨.inr rfl, _, rfl, by rw [gE7 c0 c1 h3 h4 h5 (by omega)]; rfl, ex⟩
end Go.AM

/-! R61 -/
namespace Go.AM
open Go.Proofs
theorem B157I {a b : Int} {c d : Nat} {q : Option Addr} : aBuild Tryd.prog 157 [(0, .agg #[.int .i64 a, .int .i64 b, .slice q c d])] = some (.agg #[.int .i64 a, .int .i64 b, .slice q c d, .nilFunc]) := by kernel_rfl
theorem okf100g : okF Tryd.prog H0 100 48 = true := by kernel_rfl
theorem spec_Check4I {m : Mem} {n b : Int} {s : Value} {Gs : List GateV} (hG : GsAt m s Gs) : ∃ v m', ACalls Tryd.prog 100 #[.agg #[.int .i64 n, .int .i64 b, s]] m v m' ∧ (v = nv (circE n b Gs) ∧ Ext m m') := by
 obtain ⟨q, cap, rfl⟩ := hG.len
 refine wpF (args := [_]) mixed okf100g (fn := Tryd.f100) rfl rfl rfl (by simp) ?_
 refine cSR ?_
 refine sBox (v := .agg _) rfl ?_
 change wpOps _ _ _ _ _ (m.push (.cells true #[.int .i64 n, .int .i64 b, .slice q Gs.length cap]))
 have e1 : Ext m (m.push (.cells true #[.int .i64 n, .int .i64 b, .slice q Gs.length cap])) := .push _ _
 have g1 : Mem.get (m.push (.cells true #[.int .i64 n, .int .i64 b, .slice q Gs.length cap])) m.size = .cells true #[.int .i64 n, .int .i64 b, .slice q Gs.length cap] := gP rfl
 generalize m.push (.cells true #[.int .i64 n, .int .i64 b, .slice q Gs.length cap]) = M at *
 refine sAn rfl ?_
 refine sN ?_
 refine cSeq (cBlock ?_)
 refine cCut (fun ρ m' => M = m' ∧ Has ρ [(1, .pointer (some ⟨m.size, 0, none⟩)), (7, .bool (decide (n < 1 ∨ 12 < n ∨ b < 0 ∨ 8 < b)))]) ?_ ?_
 ·
  refine cRegion ?_
  refine sFA F30_0 rfl ?_
  refine sLd (v := .int .i64 n) A3 rfl g1 rfl ?_
  refine sBinI (v := .bool (decide (n < 1))) (b := 1) rfl rfl aInt_lssI ?_
  refine sMb rfl ?_
  by_cases q1 : n < 1
  ·
   rw [decide_eq_true q1]
   refine sGT rfl rfl ?_
   refine sGT rfl rfl ?_
   refine sGT rfl rfl ?_
   refine sPb rfl ?_
   refine sMb rfl ?_
   refine sGT rfl rfl ?_
   refine sGT rfl rfl ?_
   refine sGT rfl rfl ?_
   refine sPb rfl ?_
   refine sMb rfl ?_
   refine sGT rfl rfl ?_
   refine sGT rfl rfl ?_
   refine sGT rfl rfl ?_
   refine sPb rfl ?_
   refine sAb rfl ?_
   refine sN ?_
   exact ⟨rfl, rfl, by rw [decide_eq_true (p := n < 1 ∨ 12 < n ∨ b < 0 ∨ 8 < b) (by omega)]; rfl, trivial⟩
  ·
   rw [decide_eq_false q1]
   refine sG rfl rfl ?_
   refine sFA F30_0 rfl ?_
   refine sG rfl rfl ?_
   refine sLd (v := .int .i64 n) A3 rfl g1 rfl ?_
   refine sG rfl rfl ?_
   refine sBinI (v := .bool (decide (12 < n))) (b := 12) rfl rfl aInt_gtrI ?_
   refine sPb rfl ?_
   refine sMb rfl ?_
   by_cases q2 : 12 < n
   ·
    rw [decide_eq_true q2]
    refine sGT rfl rfl ?_
    refine sGT rfl rfl ?_
    refine sGT rfl rfl ?_
    refine sPb rfl ?_
    refine sMb rfl ?_
    refine sGT rfl rfl ?_
    refine sGT rfl rfl ?_
    refine sGT rfl rfl ?_
    refine sPb rfl ?_
    refine sAb rfl ?_
    refine sN ?_
    exact ⟨rfl, rfl, by rw [decide_eq_true (p := n < 1 ∨ 12 < n ∨ b < 0 ∨ 8 < b) (by omega)]; rfl, trivial⟩
   ·
    rw [decide_eq_false q2]
    refine sG rfl rfl ?_
    refine sFA F30_1 rfl ?_
    refine sG rfl rfl ?_
    refine sLd (v := .int .i64 b) A3 rfl g1 rfl ?_
    refine sG rfl rfl ?_
    refine sBinI (v := .bool (decide (b < 0))) (b := 0) rfl rfl aInt_lssI ?_
    refine sPb rfl ?_
    refine sMb rfl ?_
    by_cases q3 : b < 0
    ·
     rw [decide_eq_true q3]
     refine sGT rfl rfl ?_
     refine sGT rfl rfl ?_
     refine sGT rfl rfl ?_
     refine sPb rfl ?_
     refine sAb rfl ?_
     refine sN ?_
     exact ⟨rfl, rfl, by rw [decide_eq_true (p := n < 1 ∨ 12 < n ∨ b < 0 ∨ 8 < b) (by omega)]; rfl, trivial⟩
    ·
     rw [decide_eq_false q3]
     refine sG rfl rfl ?_
     refine sFA F30_1 rfl ?_
     refine sG rfl rfl ?_
     refine sLd (v := .int .i64 b) A3 rfl g1 rfl ?_
     refine sG rfl rfl ?_
     refine sBinI (v := .bool (decide (8 < b))) (b := 8) rfl rfl aInt_gtrI ?_
     refine sPb rfl ?_
     refine sAb rfl ?_
     refine sN ?_
     exact ⟨rfl, rfl, by rw [show decide (n < 1 ∨ 12 < n ∨ b < 0 ∨ 8 < b) = decide (8 < b) from decide_eq_decide.2 ⟨fun h => by omega, fun h => by omega⟩]; rfl, trivial⟩
 rintro ρ _ ⟨rfl, hh⟩
 rw [hh.env]; clear hh
 refine cCond (p := n < 1 ∨ 12 < n ∨ b < 0 ∨ 8 < b) rfl (fun c0 => ?_) (fun c0 => ?_)
 ·
  refine cSR ?_
  refine sAs (v := nv 3) rfl ?_
  refine sN ?_
  refine cRet (kBlkR (kSeqR ?_))
  exact ⟨.inr rfl, _, rfl, by rw [circE, if_pos c0]; rfl, e1⟩
 ·
  refine cSR ?_
  refine sFA F30_2 rfl ?_
  refine sLd (v := .slice q Gs.length cap) A28 rfl g1 rfl ?_
  refine sLen T28 rfl ?_
  refine sBin (a := Gs.length) (b := 120) rfl rfl aInt_gtr ?_
  refine sAb rfl ?_
  refine sN ?_
  refine cCond (p := 120 < Gs.length) rfl (fun c1 => ?_) (fun c1 => ?_)
  ·
   refine cSR ?_
   refine sAs (v := nv 2) rfl ?_
   refine sN ?_
   refine cRet (kBlkR (kSeqR ?_))
   exact ⟨.inr rfl, _, rfl, by rw [circE, if_neg c0, if_pos c1]; rfl, e1⟩
  ·
   refine cSkip (kBlkN (kSeqN ?_))
   refine cSR ?_
   refine sLdAll A30 S30 rfl g1 rfl ?_
   refine sBuild B157I ?_
   refine sMFf rfl ?_
   refine sAs rfl ?_
   refine sN ?_
   refine cSeq (cSR ?_)
   refine sFA F30_2 rfl ?_
   refine sLd (v := .slice q Gs.length cap) A28 rfl g1 rfl ?_
   refine sLen T28 rfl ?_
   refine sMv (v := nv 0) rfl ?_
   refine sN ?_
   refine cBlock ?_
   refine wpC_loop (fun k' ρ m' => ∃ i, k' = Gs.length - i ∧ i ≤ Gs.length ∧ (∀ (j : Nat) g', j < i → Gs[j]? = some g' → gateE n b g' = 0) ∧ Ext M m' ∧ Has ρ [(1, .pointer (some ⟨m.size, 0, none⟩)), (3, .func (.func 136) #[.agg #[.int .i64 n, .int .i64 b, .slice q Gs.length cap, .nilFunc]] #[]), (35, .slice q Gs.length cap), (36, nv Gs.length), (37, nv i)]) ⟨0, rfl, by omega, fun j g h => absurd h (by omega), .refl _, rfl, rfl, rfl, rfl, rfl, trivial⟩ ?_
   rintro k' ρ m' ⟨i, rfl, hi, hr, X, hh⟩
   rw [hh.env]; clear hh
   refine cSR ?_
   refine sBin rfl rfl (aInt_lss) ?_
   refine sN ?_
   refine cSeq ?_
   refine cCond rfl (fun c2 => ?_) (fun c2 => ?_)
   ·
    obtain ⟨g, hgi⟩ : ∃ g, Gs[i]? = some g := ⟨_, List.getElem?_eq_getElem c2⟩
    obtain ⟨b2, cp2, r2, cc, qw, cw, ee, gb, hcs, hex, hws, hk⟩ := (hG.ext (e1.trans X)).gate hgi
    cases ee
    refine cSkip (kSeqN ?_)
    refine cSeq (cBlock (cSR ?_))
    refine sIx T28 S49 rfl rfl c2 ?_
    refine sLdA A49 S49 rfl gb (by omega) ?_
    rw [hex]
    refine sAllocB (bl := m'.size) rfl Z49 (by kernel_rfl) ?_
    refine sStNAB rfl S49 rfl rfl rfl rfl (by kernel_rfl) ?_
    refine sN ?_
    refine cSR ?_
    refine sMv rfl ?_
    refine sLdAll A49 S49 rfl (gP rfl) rfl ?_
    obtain ⟨v43, m43, h43, rfl, e43⟩ := spec_gateI (m := m'.push (.cells true #[.int .i64 g.1, .slice qw g.2.1.length cw, .int .i64 g.2.2.1, .int .i64 g.2.2.2])) (n := n) (b := b) (sl := .slice (some ⟨b2, 0, some 4⟩) Gs.length cap) (d := .nilFunc) (hws.ext (.push _ _)) hk
    refine sCallF1 rfl call136 rfl h43 ?_
    refine sAn rfl ?_
    refine sN ?_
    refine cSR ?_
    refine sMn rfl ?_
    refine sBin (a := gateE n b g) (b := 0) rfl rfl aInt_neq ?_
    refine sN ?_
    refine cCond (p := gateE n b g ≠ 0) rfl (fun c3 => ?_) (fun c3 => ?_)
    ·
     refine cSR ?_
     refine sMn rfl ?_
     refine sAn rfl ?_
     refine sN ?_
     refine cRet (kBlkR (kSeqR (kSeqR (kBlkR (kSeqR ?_)))))
     refine ⟨.inr rfl, _, rfl, ?_, (e1.trans X).trans ((Ext.push _ _).trans e43)⟩
     rw [circE, if_neg c0, if_neg c1, gatesE_up hr hgi c3]; rfl
    ·
     refine cSkip (kBlkN (kSeqN ?_))
     refine cRegion ?_
     refine sBin rfl rfl (aInt_add (b := 1) (by omega)) ?_
     refine sMn rfl ?_
     refine sN ?_
     refine ⟨_, ?_, i + 1, rfl, by omega, fun j g' hj hg => ?_, X.trans ((Ext.push _ _).trans e43), rfl, rfl, rfl, rfl, rfl, trivial⟩
     ·omega
     ·by_cases e : j = i
      ·subst e
       rw [hgi] at hg; cases hg
       exact Classical.byContradiction c3
      ·exact hr j g' (by omega) hg
   ·
    refine cExit (kSeqE (kSeqE (kBlkS (kSeqN ?_))))
    refine cSR ?_
    refine sAn rfl ?_
    refine sN ?_
    refine cRet ?_
    refine ⟨.inr rfl, _, rfl, ?_, e1.trans X⟩
    rw [circE, if_neg c0, if_neg c1, gatesE_all.2 fun g hg => ?_]; rfl
    obtain ⟨j, hj⟩ := List.mem_iff_getElem?.1 hg
    exact hr j g (by have := (List.getElem?_eq_some_iff.1 hj).1; omega) hj
/-- The table of kinds: X, CX, CCX turn, Swap swaps; no other kinds are there. -/
def GlobK (m : Mem) : Prop := ∃ r b r2 es, Mem.get m 1 = .cells r #[.map (some b)] ∧ Mem.get m b = .map r2 es ∧
  (∀ k : Int, (k = 1 ∨ k = 9 ∨ k = 12) → ∃ i c, aFindNow (.int .i64) (.int .i64 k) es 0 = some (some (i, .agg #[nv c, .func (.func 76) #[] #[]]))) ∧
  (∃ i c, aFindNow (.int .i64) (.int .i64 11) es 0 = some (some (i, .agg #[nv c, .func (.func 181) #[] #[]]))) ∧
  ∀ k : Int, ¬ (k = 1 ∨ k = 9 ∨ k = 11 ∨ k = 12) → aFindNow (.int .i64) (.int .i64 k) es 0 = some none
theorem GlobK.ext {m m' : Mem} (h : GlobK m) (he : Ext m m') : GlobK m' := by
 obtain ⟨r, b, r2, es, h1, h2, h3⟩ := h
 exact ⟨r, b, r2, es, he.cells h1, by rw [he.2 b (Mem.lt_of_live (by rw [h2]; rfl)), h2], h3⟩
def opK (k : Int) : Nat := if k = 11 then 181 else 76
def inK (k : Int) : Bool := decide (k = 1) || decide (k = 9) || decide (k = 11) || decide (k = 12)
theorem lookK {m : Mem} {b : Nat} {k : Int} {r2 : Bool} {es : List (Value × Value)} {ok : Bool} (h2 : Mem.get m b = .map r2 es)
  (h3 : (∀ k : Int, (k = 1 ∨ k = 9 ∨ k = 12) → ∃ i c, aFindNow (.int .i64) (.int .i64 k) es 0 = some (some (i, .agg #[nv c, .func (.func 76) #[] #[]]))) ∧
   (∃ i c, aFindNow (.int .i64) (.int .i64 11) es 0 = some (some (i, .agg #[nv c, .func (.func 181) #[] #[]]))) ∧
   ∀ k : Int, ¬ (k = 1 ∨ k = 9 ∨ k = 11 ∨ k = 12) → aFindNow (.int .i64) (.int .i64 k) es 0 = some none) :
  ∃ c f, aLookup Tryd.prog m 129 (.map (some b)) (.int .i64 k) ok = some (if ok then .tuple #[.agg #[nv c, f], .bool (inK k)] else .agg #[nv c, f]) ∧ (inK k = true → f = .func (.func (opK k)) #[] #[]) ∧ (f = .nilFunc ∨ ∃ g, f = .func (.func g) #[] #[]) := by
 have hf : (plainKey (.int .i64) && flat (.agg #[nv 0, .nilFunc])) = true := by kernel_rfl
 by_cases hk : k = 1 ∨ k = 9 ∨ k = 12
 ·obtain ⟨i, c, h⟩ := h3.1 k hk
  refine ⟨c, .func (.func 76) #[] #[], ?_, fun _ => ?_, .inr ⟨_, rfl⟩⟩
  ·have : inK k = true := by unfold inK; simp; omega
   simp only [aLookup, T129, U3, Z127, hf, if_true, h2, h, this]
  ·rw [opK, if_neg (by omega)]
 ·by_cases hk2 : k = 11
  ·subst hk2
   obtain ⟨i, c, h⟩ := h3.2.1
   refine ⟨c, .func (.func 181) #[] #[], ?_, fun _ => rfl, .inr ⟨_, rfl⟩⟩
   simp only [aLookup, T129, U3, Z127, hf, if_true, h2, h, show inK 11 = true from rfl]
  ·have h := h3.2.2 k (by omega)
   have hin : inK k = false := by unfold inK; simp; omega
   refine ⟨0, .nilFunc, ?_, (fun h => by rw [hin] at h; cases h), .inl rfl⟩
   simp only [aLookup, T129, U3, Z127, hf, if_true, h2, h, hin]
theorem clI_in (g : GateV) : clI g = (inK g.1 && decide (g.2.2.2 = 0)) := rfl
theorem okf101g : okF Tryd.prog H0 101 19 = true := by kernel_rfl
theorem spec_Check1I {m : Mem} {g : GateV} {q : Option Addr} {l c : Nat} (hC : GlobK m) : ∃ v m', ACalls Tryd.prog 101 #[.agg #[.int .i64 g.1, .slice q l c, .int .i64 g.2.2.1, .int .i64 g.2.2.2]] m v m' ∧ (v = .bool (!clI g) ∧ Ext m m') := by
 obtain ⟨k, ws, bt, cf⟩ := g
 simp only at *
 obtain ⟨r, bb, r2, es, h1, h2, h3⟩ := hC
 refine wpF (args := [_]) mixed okf101g (fn := Tryd.f101) rfl rfl rfl (by simp) ?_
 refine cSR ?_
 refine sBox (v := .agg _) rfl ?_
 change wpOps _ _ _ _ _ (m.push (.cells true #[.int .i64 k, .slice q l c, .int .i64 bt, .int .i64 cf]))
 have e1 : Ext m (m.push (.cells true #[.int .i64 k, .slice q l c, .int .i64 bt, .int .i64 cf])) := .push _ _
 have g1 : Mem.get (m.push (.cells true #[.int .i64 k, .slice q l c, .int .i64 bt, .int .i64 cf])) m.size = .cells true #[.int .i64 k, .slice q l c, .int .i64 bt, .int .i64 cf] := gP rfl
 have k1 := e1.cells h1
 have k2 : Mem.get (m.push (.cells true #[.int .i64 k, .slice q l c, .int .i64 bt, .int .i64 cf])) bb = .map r2 es := by rw [e1.2 bb (Mem.lt_of_live (by rw [h2]; rfl)), h2]
 generalize m.push (.cells true #[.int .i64 k, .slice q l c, .int .i64 bt, .int .i64 cf]) = M at *
 refine sAb rfl ?_
 refine sN ?_
 refine cSR ?_
 refine sLd (v := .map (some bb)) A129 rfl k1 rfl ?_
 refine sFA F49_0 rfl ?_
 refine sLd (v := .int .i64 k) A3 rfl g1 rfl ?_
 obtain ⟨c9, f9, h9, hf9, hg9⟩ := lookK (k := k) (ok := true) k2 h3
 refine sO (v := .tuple #[.agg #[nv c9, f9], .bool (inK k)]) (m' := M) (opF_read rfl (by exact h9)) ?_
 refine sMv (v := .tuple _) rfl ?_
 refine sP (v := .agg #[nv c9, f9]) rfl ?_
 refine sP (v := .bool (inK k)) rfl ?_
 refine sAllocB (bl := M.size) rfl Z127 (by kernel_rfl) ?_
 refine sStNAB rfl S127 rfl rfl rfl rfl (by rcases hg9 with rfl | ⟨g, rfl⟩ <;> kernel_rfl) ?_
 have eM : Ext M (M.push (.cells true #[nv c9, f9])) := .push _ _
 have gM := eM.cells g1
 change wpOps _ _ _ _ _ (M.push (.cells true #[nv c9, f9]))
 generalize M.push (.cells true #[nv c9, f9]) = M2 at *
 refine sAs (v := .bool (inK k)) rfl ?_
 refine sN ?_
 refine cSR ?_
 refine sMb rfl ?_
 refine sP (v := .bool (!inK k)) rfl ?_
 refine sMb rfl ?_
 by_cases q1 : inK k = false
 ·
  rw [q1]
  refine sGT rfl rfl ?_
  refine sGT rfl rfl ?_
  refine sGT rfl rfl ?_
  refine sPb rfl ?_
  refine sAb rfl ?_
  refine sN ?_
  refine cRet ?_
  exact ⟨.inr rfl, _, rfl, by rw [clI_in, q1]; rfl, e1.trans eM⟩
 ·
  rw [show inK k = true by cases h : inK k <;> simp_all]
  refine sG rfl rfl ?_
  refine sFA F49_3 rfl ?_
  refine sG rfl rfl ?_
  refine sLd (v := .int .i64 cf) A3 rfl gM rfl ?_
  refine sG rfl rfl ?_
  refine sBinI (v := .bool (decide (cf ≠ 0))) (b := 0) rfl rfl aInt_neqI ?_
  refine sPb rfl ?_
  refine sAb rfl ?_
  refine sN ?_
  refine cRet ?_
  refine ⟨.inr rfl, _, rfl, ?_, e1.trans eM⟩
  rw [clI_in, show inK k = true by cases h : inK k <;> simp_all, Bool.true_and]
  by_cases h0 : cf = 0
  ·rw [decide_eq_true h0]; subst h0; rfl
  ·rw [decide_eq_false h0, Bool.not_false, ← decide_eq_true (p := cf ≠ 0) h0]; rfl
theorem okf93g : okF Tryd.prog H0 93 19 = true := by kernel_rfl
theorem spec_IndexGI {m : Mem} {s : Value} {Gs : List GateV} {p : GateV → Bool} {fid : FuncId} (hG : GsAt m s Gs) (hl : Gs.length < 1000000) (hk : callable Tryd.prog fid = true)
  (hp : ∀ g ∈ Gs, ∀ m', Ext m m' → ∀ q cw, ∃ v m'', ACalls Tryd.prog fid #[.agg #[.int .i64 g.1, .slice q g.2.1.length cw, .int .i64 g.2.2.1, .int .i64 g.2.2.2]] m' v m'' ∧ (v = .bool (p g) ∧ Ext m' m'')) :
  ∃ v m', ACalls Tryd.prog 93 #[s, .func (.func fid) #[] #[]] m v m' ∧ ((∃ i : Int, v = .int .i64 i ∧ (0 ≤ i ↔ Gs.any p = true)) ∧ Ext m m') := by
 obtain ⟨q, cap, rfl⟩ := hG.len
 refine wpF (args := [_, _]) mixed okf93g (fn := Tryd.f93) rfl rfl rfl (by simp) ?_
 refine cSR ?_
 refine sAn rfl ?_
 refine sN ?_
 refine cSeq (cSR ?_)
 refine sMs rfl ?_
 refine sLen T28 rfl ?_
 refine sMv (v := nv 0) rfl ?_
 refine sN ?_
 refine cBlock ?_
 refine wpC_loop (fun k' ρ m' => ∃ i, k' = Gs.length - i ∧ i ≤ Gs.length ∧ (∀ (j : Nat) g', j < i → Gs[j]? = some g' → p g' = false) ∧ Ext m m' ∧ Has ρ [(0, .slice q Gs.length cap), (1, .func (.func fid) #[] #[]), (7, nv Gs.length), (8, nv i)]) ⟨0, rfl, by omega, fun j g h => absurd h (by omega), .refl _, rfl, rfl, rfl, rfl, trivial⟩ ?_
 rintro k' ρ m' ⟨i, rfl, hi, hr, X, hh⟩
 rw [hh.env]; clear hh
 refine cSR ?_
 refine sBin rfl rfl (aInt_lss) ?_
 refine sN ?_
 refine cSeq ?_
 refine cCond rfl (fun c0 => ?_) (fun c0 => ?_)
 ·
  obtain ⟨g, hgi⟩ : ∃ g, Gs[i]? = some g := ⟨_, List.getElem?_eq_getElem c0⟩
  obtain ⟨b2, cp2, r2, cc, qw, cw, ee, gb, hcs, hex, hws, hkk⟩ := (hG.ext X).gate hgi
  cases ee
  refine cSkip (kSeqN ?_)
  refine cSeq (cBlock (cSR ?_))
  refine sMn rfl ?_
  refine sAn rfl ?_
  refine sN ?_
  refine cSR ?_
  refine sMv (v := .func _ _ _) rfl ?_
  refine sMs rfl ?_
  refine sMn rfl ?_
  refine sIx T28 S49 rfl rfl c0 ?_
  refine sLdA A49 S49 rfl gb (by omega) ?_
  rw [hex]
  obtain ⟨v16, m16, h16, rfl, e16⟩ := hp g (List.mem_of_getElem? hgi) m' X qw cw
  refine sCall1 rfl hk rfl h16 ?_
  refine sN ?_
  refine cCond (p := p g = true) (by simp [evR, updO]) (fun c1 => ?_) (fun c1 => ?_)
  ·
   refine cSR ?_
   refine sMn rfl ?_
   refine sAn rfl ?_
   refine sN ?_
   refine cRet (kBlkR (kSeqR (kSeqR (kBlkR (kSeqR ?_)))))
   exact ⟨.inr rfl, _, rfl, ⟨_, rfl, ⟨fun _ => List.any_eq_true.2 ⟨g, List.mem_of_getElem? hgi, c1⟩, fun _ => Int.natCast_nonneg _⟩⟩, X.trans e16⟩
  ·
   refine cSkip (kBlkN (kSeqN ?_))
   refine cRegion ?_
   refine sBin rfl rfl (aInt_add (b := 1) (by omega)) ?_
   refine sMn rfl ?_
   refine sN ?_
   refine ⟨_, ?_, i + 1, rfl, by omega, fun j g' hj hg => ?_, X.trans e16, rfl, rfl, rfl, rfl, trivial⟩
   ·omega
   ·by_cases e : j = i
    ·subst e
     rw [hgi] at hg; cases hg
     exact Bool.eq_false_iff.2 c1
    ·exact hr j g' (by omega) hg
 ·
  refine cExit (kSeqE (kSeqE (kBlkS (kSeqN ?_))))
  refine cSR ?_
  refine sAs (v := .int .i64 (-1)) rfl ?_
  refine sN ?_
  refine cRet ?_
  refine ⟨.inr rfl, _, rfl, ⟨-1, rfl, ⟨fun h => by omega, fun h => ?_⟩⟩, X⟩
  obtain ⟨g, hg, h2⟩ := List.any_eq_true.1 h
  obtain ⟨j, hj⟩ := List.mem_iff_getElem?.1 hg
  rw [hr j g (by have := (List.getElem?_eq_some_iff.1 hj).1; omega) hj] at h2
  cases h2
theorem okf32g : okF Tryd.prog H0 32 9 = true := by kernel_rfl
theorem spec_ContainsGI {m : Mem} {s : Value} {Gs : List GateV} {p : GateV → Bool} {fid : FuncId} (hG : GsAt m s Gs) (hl : Gs.length < 1000000) (hk : callable Tryd.prog fid = true)
  (hp : ∀ g ∈ Gs, ∀ m', Ext m m' → ∀ q cw, ∃ v m'', ACalls Tryd.prog fid #[.agg #[.int .i64 g.1, .slice q g.2.1.length cw, .int .i64 g.2.2.1, .int .i64 g.2.2.2]] m' v m'' ∧ (v = .bool (p g) ∧ Ext m' m'')) :
  ∃ v m', ACalls Tryd.prog 32 #[s, .func (.func fid) #[] #[]] m v m' ∧ (v = .bool (Gs.any p) ∧ Ext m m') := by
 obtain ⟨q, cap, rfl⟩ := hG.len
 refine wpF (args := [_, _]) mixed okf32g (fn := Tryd.f32) rfl rfl rfl (by simp) ?_
 refine cSR ?_
 refine sAb rfl ?_
 refine sN ?_
 refine cSR ?_
 refine sMs rfl ?_
 refine sMv (v := .func _ _ _) rfl ?_
 obtain ⟨v7, m7, h7, ⟨i, rfl, hi⟩, e7⟩ := spec_IndexGI hG hl hk hp
 refine sCall2 rfl call93 rfl rfl h7 ?_
 refine sBinI (v := .bool (Gs.any p)) (b := 0) rfl rfl (by rw [aInt_geqI, show Gs.any p = decide (0 ≤ i) by rw [Bool.eq_iff_iff, decide_eq_true_eq, hi]]) ?_
 refine sAb rfl ?_
 refine sN ?_
 refine cRet ?_
 exact ⟨.inr rfl, _, rfl, rfl, e7⟩
theorem okf45g : okF Tryd.prog H0 45 12 = true := by kernel_rfl
theorem spec_Check8I {m : Mem} {n b : Int} {s : Value} {Gs : List GateV} (hC : GlobK m) (hG : GsAt m s Gs) : ∃ v m', ACalls Tryd.prog 45 #[.agg #[.int .i64 n, .int .i64 b, s]] m v m' ∧ (v = nv (circ8E n b Gs) ∧ Ext m m') := by
 obtain ⟨q, cap, rfl⟩ := hG.len
 refine wpF (args := [_]) mixed okf45g (fn := Tryd.f45) rfl rfl rfl (by simp) ?_
 refine cSR ?_
 refine sBox (v := .agg _) rfl ?_
 change wpOps _ _ _ _ _ (m.push (.cells true #[.int .i64 n, .int .i64 b, .slice q Gs.length cap]))
 have e1 : Ext m (m.push (.cells true #[.int .i64 n, .int .i64 b, .slice q Gs.length cap])) := .push _ _
 have g1 : Mem.get (m.push (.cells true #[.int .i64 n, .int .i64 b, .slice q Gs.length cap])) m.size = .cells true #[.int .i64 n, .int .i64 b, .slice q Gs.length cap] := gP rfl
 generalize m.push (.cells true #[.int .i64 n, .int .i64 b, .slice q Gs.length cap]) = M at *
 refine sAn rfl ?_
 refine sN ?_
 refine cSeq (cSR ?_)
 refine sLdAll A30 S30 rfl g1 rfl ?_
 obtain ⟨v5, m5, h5, rfl, e5⟩ := spec_Check4I (n := n) (b := b) (hG.ext e1)
 refine sCall1 rfl call100 rfl h5 ?_
 replace g1 := e5.cells g1
 replace e1 := e1.trans e5
 refine sAn rfl ?_
 refine sN ?_
 refine cSR ?_
 refine sMn rfl ?_
 refine sBin (a := circE n b Gs) (b := 0) rfl rfl aInt_neq ?_
 refine sN ?_
 refine cCond (p := circE n b Gs ≠ 0) rfl (fun c0 => ?_) (fun c0 => ?_)
 ·
  refine cSR ?_
  refine sMn rfl ?_
  refine sAn rfl ?_
  refine sN ?_
  refine cRet (kSeqR ?_)
  exact ⟨.inr rfl, _, rfl, by rw [circ8E, if_pos c0]; rfl, e1⟩
 ·
  have hl : Gs.length < 1000000 := by
   have h0 : circE n b Gs = 0 := Classical.byContradiction c0
   unfold circE at h0
   split at h0
   ·cases h0
   split at h0
   ·cases h0
   omega
  refine cSkip (kSeqN ?_)
  refine cSeq (cSR ?_)
  refine sFA F30_2 rfl ?_
  refine sLd (v := .slice q Gs.length cap) A28 rfl g1 rfl ?_
  obtain ⟨v11, m11, h11, rfl, e11⟩ := spec_ContainsGI (p := fun g => !clI g) (hG.ext e1) hl call101 fun g _ m' he q cw => spec_Check1I ((hC.ext e1).ext he)
  refine sCall2 rfl call32 rfl rfl h11 ?_
  have hall : (Gs.any fun g => !clI g) = !(Gs.all clI) := by rw [List.all_eq_not_any_not, Bool.not_not]
  refine sN ?_
  refine cCond (p := (Gs.any fun g => !clI g) = true) (by simp [evR, updO]) (fun c1 => ?_) (fun c1 => ?_)
  ·
   refine cSR ?_
   refine sAs (v := nv 7) rfl ?_
   refine sN ?_
   refine cRet (kSeqR ?_)
   refine ⟨.inr rfl, _, rfl, ?_, e1.trans e11⟩
   rw [hall] at c1
   rw [circ8E, if_neg c0, if_neg (by intro h; rw [h] at c1; cases c1)]; rfl
  ·
   refine cSkip (kSeqN ?_)
   refine cSR ?_
   refine sAn rfl ?_
   refine sN ?_
   refine cRet ?_
   refine ⟨.inr rfl, _, rfl, ?_, e1.trans e11⟩
   rw [hall] at c1
   rw [circ8E, if_neg c0, if_pos (by cases h : Gs.all clI <;> simp_all)]; rfl
end Go.AM

/-! R62 -/
namespace Go.AM
open Go.Proofs
theorem GsAt.lenN {m : Mem} {v : Value} {Gs : List (Nat × List Nat)} (h : GsAt m v (Gs.map gvM)) : ∃ q cap, v = .slice q Gs.length cap := by
 obtain ⟨q, cap, rfl⟩ := h.len
 exact ⟨q, cap, by rw [List.length_map]⟩
theorem GsAt.gateN {m : Mem} {v : Value} {Gs : List (Nat × List Nat)} (h : GsAt m v (Gs.map gvM)) {i : Nat} {g : Nat × List Nat} (hi : Gs[i]? = some g) :
  ∃ b cap r c q cw, v = .slice (some ⟨b, 0, some 4⟩) Gs.length cap ∧ Mem.get m b = .cells r c ∧ i * 4 + 4 ≤ c.size ∧ c.extract (0 + i * 4) (0 + i * 4 + 4) = #[nv g.1, .slice q g.2.length cw, nv 0, nv 0] ∧ IntsAt m (.slice q g.2.length cw) (ofs g.2) ∧ CapOk (.slice q g.2.length cw) := by
 obtain ⟨b, cap, r, c, q, cw, h1, h2, h3, h4, h5, h6⟩ := h.gate (i := i) (g := gvM g) (by rw [List.getElem?_map, hi]; rfl)
 simp only [gvM, ofs_length] at h4 h5 h6
 exact ⟨b, cap, r, c, q, cw, by rw [h1, List.length_map], h2, h3, h4, h5, h6⟩
theorem bit_and (x a : Nat) : x >>> a &&& 1 = (x.testBit a).toNat := by
 rw [Nat.toNat_testBit, Nat.and_one_is_mod, Nat.shiftRight_eq_div_pow]
theorem bit_neq (x a b : Nat) : decide (x >>> a &&& 1 ≠ x >>> b &&& 1) = decide (¬ x.testBit a = x.testBit b) := by
 rw [bit_and, bit_and]
 cases x.testBit a <;> cases x.testBit b <;> rfl
theorem okf76k : okF Tryd.prog H0 76 22 = true := by kernel_rfl
theorem spec_turnedK {m : Mem} {x : Nat} {ws : Value} {w : List Nat} (hw : IntsAt m ws (ofs w)) (hk : CapOk ws) (h0 : 0 < w.length) (h3 : w.length ≤ 3) (hlt : ∀ y ∈ w, y < 12) (hx : x < 2 ^ 12) : ∃ v m', ACalls Tryd.prog 76 #[nv x, ws] m v m' ∧ (v = nv (turnM x w) ∧ Ext m m') := by
 obtain ⟨q, cap, rfl⟩ := hw.lenN
 have e1 : Ext m (m.push (.cells true #[nv x])) := .push _ _
 have g1 : Mem.get (m.push (.cells true #[nv x])) m.size = .cells true #[nv x] := gP rfl
 obtain ⟨y, hy⟩ : ∃ y, w[w.length - 1]? = some y := ⟨_, List.getElem?_eq_getElem (by omega)⟩
 have hyl := hlt y (List.mem_of_getElem? hy)
 have hlast : w.getLastD 0 = y := by rw [List.getLastD_eq_getLast?, List.getLast?_eq_getElem?, hy]; rfl
 have h2y : 2 ^ y < 2 ^ 12 := Nat.pow_lt_pow_right (by omega) hyl
 refine wpF (args := [_, _]) mixed okf76k (fn := Tryd.f76) rfl rfl rfl (by simp) ?_
 refine cSR ?_
 refine sBox (v := nv x) rfl ?_
 change wpOps _ _ _ _ _ (m.push (.cells true #[nv x]))
 refine sAn rfl ?_
 refine sN ?_
 refine cSR ?_
 refine sMs rfl ?_
 refine sLen T22 rfl ?_
 refine sBin (v := nv (w.length - 1)) rfl rfl (aInt_sub (b := 1) (by omega)) ?_
 refine sAn rfl ?_
 refine sN ?_
 refine cSeq (cSR ?_)
 refine sMs rfl ?_
 refine sMn rfl ?_
 obtain ⟨v11, h11, o11, q11, c11, rfl⟩ := cut_ints (hw.ext e1) hk (show w.length - 1 ≤ w.length by omega)
 refine sO (v := .slice q11 (w.take (w.length - 1)).length c11) (m' := m.push (.cells true #[nv x])) (opF_read rfl h11) ?_
 refine sMFc1 rfl ?_
 have h13 := spec_ContainsFunc (m := m.push (.cells true #[nv x])) (p := fun c => !x.testBit c.toNat) o11 (by rw [ofs_length, List.length_take]; omega) call129 (cp := #[.pointer (some ⟨m.size, 0, none⟩)]) fun z hz => by
  obtain ⟨u, hu, rfl⟩ := List.mem_map.1 hz
  exact spec_turned1 g1 (by omega)
 have hany : ((ofs (w.take (w.length - 1))).any fun c => !x.testBit c.toNat) = !(w.dropLast.all fun c => x.testBit c) := by
  rw [List.dropLast_eq_take, ofs, List.any_map, List.all_eq_not_any_not, Bool.not_not]
  rfl
 rw [hany] at h13
 refine sCall2 rfl call107 rfl rfl h13 ?_
 refine sN ?_
 refine cCond (p := (w.dropLast.all fun c => x.testBit c) = false) (by show Value.bool _ = Value.bool _; cases (w.dropLast.all fun c => x.testBit c) <;> rfl) (fun c0 => ?_) (fun c0 => ?_)
 ·
  refine cSR ?_
  refine sLd (v := nv x) A3 rfl g1 rfl ?_
  refine sAn rfl ?_
  refine sN ?_
  refine cRet (kSeqR ?_)
  exact ⟨.inr rfl, _, rfl, by rw [turnM, c0]; rfl, e1⟩
 ·
  obtain ⟨b1, o1, p1, r1, cc, ee1, gg, x1⟩ := hw.atN (by omega)
  cases ee1
  refine cSkip (kSeqN ?_)
  refine cSeq ?_
  refine cDraw rfl ?_
  refine sLd (v := nv x) A3 rfl g1 rfl ?_
  refine sMs rfl ?_
  refine sMn rfl ?_
  refine sIx T22 S3 rfl rfl (by omega) ?_
  refine sLd (v := nv y) A3 rfl (e1.cells gg) (x1 _ y hy) ?_
  refine sBin rfl rfl (aInt_shl (a := 1) (by omega)) ?_
  rw [Nat.shiftLeft_eq, Nat.one_mul]
  refine sBin (a := x) (b := 2 ^ y) rfl rfl (aInt_xor ⟨by omega, by omega⟩) ?_
  refine sAn rfl ?_
  refine sN ?_
  refine cRet ?_
  have c0' : (w.dropLast.all fun c => x.testBit c) = true := by simpa using c0
  exact ⟨.inr rfl, _, rfl, by rw [turnM, c0', if_pos rfl, hlast]; rfl, e1⟩
theorem okf181 : okF Tryd.prog H0 181 30 = true := by kernel_rfl
theorem spec_swapped {m : Mem} {x : Nat} {ws : Value} {w : List Nat} (hw : IntsAt m ws (ofs w)) (h2 : w.length = 2) (hlt : ∀ y ∈ w, y < 12) (hx : x < 2 ^ 12) : ∃ v m', ACalls Tryd.prog 181 #[nv x, ws] m v m' ∧ (v = nv (swapM x w) ∧ m = m') := by
 obtain ⟨a, b, rfl⟩ : ∃ a b, w = [a, b] := by
  match w, h2 with
  | [a, b], _ => exact ⟨a, b, rfl⟩
 have ha := hlt a (by simp)
 have hb := hlt b (by simp)
 have pa : 2 ^ a < 2 ^ 12 := Nat.pow_lt_pow_right (by omega) ha
 have pb : 2 ^ b < 2 ^ 12 := Nat.pow_lt_pow_right (by omega) hb
 have hsa := Nat.shiftRight_le x a
 have hsb := Nat.shiftRight_le x b
 obtain ⟨b1, o1, p1, r1, cc, rfl, gg, x1⟩ := hw.atN (by simp)
 refine wpF (args := [_, _]) mixed okf181 (fn := Tryd.f181) rfl rfl rfl (by simp) ?_
 refine cSR ?_
 refine sAn rfl ?_
 refine sN ?_
 refine cSeq (cSeq ?_)
 refine cDraw rfl ?_
 refine sMn rfl ?_
 refine sMs rfl ?_
 refine sIx (i := 0) T22 S3 rfl rfl (by simp) ?_
 refine sLd (v := nv a) A3 rfl gg (x1 0 a rfl) ?_
 refine sBin (a := x) (b := a) rfl rfl (aInt_shr (by omega)) ?_
 refine sBin (b := 1) rfl rfl (aInt_and (by omega)) ?_
 refine sMn rfl ?_
 refine sMs rfl ?_
 refine sIx (i := 1) T22 S3 rfl rfl (by simp) ?_
 refine sLd (v := nv b) A3 rfl gg (x1 1 b rfl) ?_
 refine sBin (a := x) (b := b) rfl rfl (aInt_shr (by omega)) ?_
 refine sBin (b := 1) rfl rfl (aInt_and (by omega)) ?_
 refine sBin (v := .bool (decide (¬ x.testBit a = x.testBit b))) rfl rfl (by rw [aInt_neq, bit_neq]) ?_
 refine sN ?_
 refine cCond (p := ¬ x.testBit a = x.testBit b) rfl (fun c0 => ?_) (fun c0 => ?_)
 ·
  refine cDraw rfl ?_
  refine sMn rfl ?_
  refine sMs rfl ?_
  refine sIx (i := 0) T22 S3 rfl rfl (by simp) ?_
  refine sLd (v := nv a) A3 rfl gg (x1 0 a rfl) ?_
  refine sBin (v := nv (2 ^ a)) rfl rfl (by rw [aInt_shl (a := 1) (b := a) (by omega), Nat.shiftLeft_eq, Nat.one_mul]) ?_
  refine sMs rfl ?_
  refine sIx (i := 1) T22 S3 rfl rfl (by simp) ?_
  refine sLd (v := nv b) A3 rfl gg (x1 1 b rfl) ?_
  refine sBin (v := nv (2 ^ b)) rfl rfl (by rw [aInt_shl (a := 1) (b := b) (by omega), Nat.shiftLeft_eq, Nat.one_mul]) ?_
  refine sBin (a := 2 ^ a) (b := 2 ^ b) rfl rfl (aInt_or ⟨by omega, by omega⟩) ?_
  have ho : 2 ^ a ||| 2 ^ b < 2 ^ 12 := Nat.or_lt_two_pow pa pb
  refine sBin (a := x) (b := 2 ^ a ||| 2 ^ b) rfl rfl (aInt_xor ⟨by omega, by omega⟩) ?_
  refine sAn rfl ?_
  refine sN ?_
  refine cSR ?_
  refine sMn rfl ?_
  refine sAn rfl ?_
  refine sN ?_
  refine cRet ?_
  exact ⟨.inr rfl, _, rfl, by rw [swapM, if_neg (by exact c0)]; rfl, rfl⟩
 ·
  refine cSkip (kSeqN ?_)
  refine cSR ?_
  refine sMn rfl ?_
  refine sAn rfl ?_
  refine sN ?_
  refine cRet ?_
  exact ⟨.inr rfl, _, rfl, by rw [swapM, if_pos (by exact Classical.byContradiction c0)]; rfl, rfl⟩
theorem inK_S {n : Nat} {g : Nat × List Nat} (h : GateS n g) : inK (Int.ofNat g.1) = true := by
 have : g.1 = 1 ∨ g.1 = 9 ∨ g.1 = 11 ∨ g.1 = 12 := by have := h.kind; omega
 rcases this with e | e | e | e <;> rw [e] <;> rfl
/-- One gate is done. -/
theorem spec_does {m : Mem} {n x : Nat} {ws : Value} {g : Nat × List Nat} (hg : GateS n g) (h12 : n ≤ 12) (hw : IntsAt m ws (ofs g.2)) (hk : CapOk ws) (hx : x < 2 ^ 12) :
  callable Tryd.prog (opK (Int.ofNat g.1)) = true ∧ ∃ v m', ACalls Tryd.prog (opK (Int.ofNat g.1)) #[nv x, ws] m v m' ∧ (v = nv (doneS g x) ∧ Ext m m') := by
 have hlt : ∀ y ∈ g.2, y < 12 := fun y hy => by have := hg.lt y hy; omega
 by_cases h : g.1 = 11
 ·have e : opK (Int.ofNat g.1) = 181 := by rw [h]; rfl
  obtain ⟨v, m', h1, rfl, rfl⟩ := spec_swapped hw (by have := hg.kind; omega) hlt hx
  rw [e, doneS, if_pos h]
  exact ⟨call181, _, _, h1, rfl, .refl _⟩
 ·have e : opK (Int.ofNat g.1) = 76 := by rw [opK, if_neg (by simp only [Int.ofNat_eq_natCast]; omega)]
  rw [e, doneS, if_neg h]
  exact ⟨call76, spec_turnedK hw hk (by have := hg.kind; omega) (by have := hg.kind; omega) hlt hx⟩
theorem okf97k : okF Tryd.prog H0 97 25 = true := by kernel_rfl
theorem spec_runK {m : Mem} {n x : Nat} {b : Int} {s : Value} {Gs : List (Nat × List Nat)} (hC : GlobK m) (hG : GsAt m s (Gs.map gvM)) (hc : CircS n Gs) (hx : x < 2 ^ n) : ∃ v m', ACalls Tryd.prog 97 #[.agg #[nv n, .int .i64 b, s], nv x] m v m' ∧ (v = nv (runS Gs x) ∧ Ext m m') := by
 obtain ⟨q, cap, rfl⟩ := (GsAt.lenN hG)
 obtain ⟨h1, h10, hf, hall⟩ := hc
 refine wpF (args := [_, _]) mixed okf97k (fn := Tryd.f97) rfl rfl rfl (by simp) ?_
 refine cSR ?_
 refine sBox (v := .agg _) rfl ?_
 change wpOps _ _ _ _ _ (m.push (.cells true #[nv n, .int .i64 b, .slice q Gs.length cap]))
 have e1 : Ext m (m.push (.cells true #[nv n, .int .i64 b, .slice q Gs.length cap])) := .push _ _
 have g1 : Mem.get (m.push (.cells true #[nv n, .int .i64 b, .slice q Gs.length cap])) m.size = .cells true #[nv n, .int .i64 b, .slice q Gs.length cap] := gP rfl
 generalize m.push (.cells true #[nv n, .int .i64 b, .slice q Gs.length cap]) = M at *
 refine sAn rfl ?_
 refine sN ?_
 refine cSeq (cSR ?_)
 refine sFA F30_2 rfl ?_
 refine sLd (v := .slice q Gs.length cap) A28 rfl g1 rfl ?_
 refine sLen T28 rfl ?_
 refine sMv (v := nv 0) rfl ?_
 refine sN ?_
 refine cBlock ?_
 refine wpC_loop (fun k' ρ m' => ∃ i, k' = Gs.length - i ∧ i ≤ Gs.length ∧ Ext M m' ∧ Has ρ [(1, nv (runS (Gs.take i) x)), (8, .slice q Gs.length cap), (9, nv Gs.length), (10, nv i)]) ⟨0, rfl, by omega, .refl _, rfl, rfl, rfl, rfl, trivial⟩ ?_
 rintro k' ρ m' ⟨i, rfl, hi, X, hh⟩
 rw [hh.env]; clear hh
 replace e1 := e1.trans X
 refine cSR ?_
 refine sBin rfl rfl (aInt_lss) ?_
 refine sN ?_
 refine cSeq ?_
 refine cCond rfl (fun c0 => ?_) (fun c0 => ?_)
 ·
  obtain ⟨g, hgi⟩ : ∃ g, Gs[i]? = some g := ⟨_, List.getElem?_eq_getElem c0⟩
  have hgo := hall g (List.mem_of_getElem? hgi)
  obtain ⟨b2, cp2, r2', cc, qw, cw, ee, gb, hcs, hex, hws, hkw⟩ := GsAt.gateN (hG.ext e1) hgi
  cases ee
  obtain ⟨r, bb, r2, es, hh1, hh2, hh3⟩ := hC.ext e1
  have hrl : runS (Gs.take i) x < 2 ^ n := runS_lt hx fun g' hg' => hall g' (List.mem_of_mem_take hg')
  have hp10 : 2 ^ n ≤ 2 ^ 12 := Nat.pow_le_pow_right (by omega) h10
  refine cSkip (kSeqN ?_)
  refine cSeq (cBlock (cSR ?_))
  refine sIx T28 S49 rfl rfl c0 ?_
  refine sLdA A49 S49 rfl gb (by omega) ?_
  rw [hex]
  refine sAllocB (bl := m'.size) rfl Z49 (by kernel_rfl) ?_
  refine sStNAB rfl S49 rfl rfl rfl rfl (by kernel_rfl) ?_
  have e2 : Ext m' (m'.push (.cells true #[nv g.1, .slice qw g.2.length cw, nv 0, nv 0])) := .push _ _
  have hm : Mem.get (m'.push (.cells true #[nv g.1, .slice qw g.2.length cw, nv 0, nv 0])) bb = .map r2 es := by rw [e2.2 bb (Mem.lt_of_live (by rw [hh2]; rfl)), hh2]
  refine sN ?_
  refine cRegion ?_
  refine sLd (v := .map (some bb)) A129 rfl (e2.cells hh1) rfl ?_
  refine sFA F49_0 rfl ?_
  refine sLd (v := nv g.1) A3 rfl (gP rfl) rfl ?_
  obtain ⟨c9, f9, h9, hf9, _⟩ := lookK (k := Int.ofNat g.1) (ok := false) hm hh3
  rw [hf9 (inK_S hgo)] at h9
  refine sO (v := .agg #[nv c9, .func (.func (opK (Int.ofNat g.1))) #[] #[]]) (opF_read rfl (by exact h9)) ?_
  refine sP (v := .func (.func (opK (Int.ofNat g.1))) #[] #[]) rfl ?_
  refine sMn rfl ?_
  refine sFA F49_1 rfl ?_
  refine sLd (v := .slice qw g.2.length cw) A22 rfl (gP rfl) rfl ?_
  obtain ⟨hcal, v22, m22, h22, rfl, e22⟩ := spec_does (x := runS (Gs.take i) x) hgo h10 (hws.ext e2) hkw (by omega)
  refine sCall2 rfl hcal rfl rfl h22 ?_
  refine sAn rfl ?_
  refine sNil (kBlkN (kSeqN ?_))
  refine cRegion ?_
  refine sBin rfl rfl (aInt_add (b := 1) (by omega)) ?_
  refine sMn rfl ?_
  refine sN ?_
  refine ⟨_, ?_, i + 1, rfl, by omega, X.trans (e2.trans e22), by rw [runS_take hgi]; rfl, rfl, rfl, rfl, trivial⟩
  omega
 ·
  refine cExit (kSeqE (kSeqE (kBlkS (kSeqN ?_))))
  refine cSR ?_
  refine sMn rfl ?_
  refine sAn rfl ?_
  refine sN ?_
  refine cRet ?_
  obtain rfl : i = Gs.length := by omega
  rw [List.take_length]
  exact ⟨.inr rfl, _, rfl, rfl, e1⟩
end Go.AM

/-! R63 -/
namespace Go.AM
open Go.Proofs
def rtabSU (i : Nat) (Gs : List (Nat × List Nat)) : List Nat := (List.range i).map (runS Gs)
theorem rtabSU_succ (i : Nat) (Gs : List (Nat × List Nat)) : rtabSU (i + 1) Gs = rtabSU i Gs ++ [runS Gs i] := by
 unfold rtabSU; rw [List.range_succ, List.map_append]; rfl
theorem gnM_gvM (g : Nat × List Nat) : gnM (gvM g) = g := by
 obtain ⟨k, w⟩ := g
 simp only [gnM, gvM, ofs, List.map_map, Int.ofNat_eq_natCast, Int.toNat_natCast]
 congr 1
 refine (List.map_congr_left fun x _ => ?_).trans (List.map_id w)
 simp
theorem gnM_all (Gs : List (Nat × List Nat)) : (Gs.map gvM).map gnM = Gs := by
 rw [List.map_map]
 exact (List.map_congr_left fun x _ => gnM_gvM x).trans (List.map_id Gs)
def appE (n b : Int) (Gs : List GateV) (x : Int) : Nat := if circ8E n b Gs ≠ 0 then circ8E n b Gs else if x < 0 ∨ Int.ofNat (2 ^ n.toNat) ≤ x then 3 else 0
def appV (n b : Int) (Gs : List GateV) (x : Int) : Nat := if appE n b Gs x = 0 then runS (Gs.map gnM) x.toNat else 0
def tabL (n b : Int) (Gs : List GateV) : List Nat := if circ8E n b Gs = 0 then rtabS n.toNat (Gs.map gnM) else []
theorem i64_pow {n : Nat} (h : n ≤ 12) : 1 * 2 ^ n < 9223372036854775808 := by have := pow10 h; omega
theorem okf39k : okF Tryd.prog H0 39 24 = true := by kernel_rfl
theorem spec_ApplyK {m : Mem} {n b x : Int} {s : Value} {Gs : List GateV} (hC : GlobK m) (hG : GsAt m s Gs) : ∃ v m', ACalls Tryd.prog 39 #[.agg #[.int .i64 n, .int .i64 b, s], .int .i64 x] m v m' ∧ (v = .tuple #[nv (appV n b Gs x), nv (appE n b Gs x)] ∧ Ext m m') := by
 obtain ⟨q, cap, rfl⟩ := hG.len
 refine wpF (args := [_, _]) mixed okf39k (fn := Tryd.f39) rfl rfl rfl (by simp) ?_
 refine cSR ?_
 refine sBox (v := .agg _) rfl ?_
 change wpOps _ _ _ _ _ (m.push (.cells true #[.int .i64 n, .int .i64 b, .slice q Gs.length cap]))
 have e1 : Ext m (m.push (.cells true #[.int .i64 n, .int .i64 b, .slice q Gs.length cap])) := .push _ _
 have g1 : Mem.get (m.push (.cells true #[.int .i64 n, .int .i64 b, .slice q Gs.length cap])) m.size = .cells true #[.int .i64 n, .int .i64 b, .slice q Gs.length cap] := gP rfl
 generalize m.push (.cells true #[.int .i64 n, .int .i64 b, .slice q Gs.length cap]) = M at *
 refine sAn rfl ?_
 refine sAn rfl ?_
 refine sN ?_
 refine cSeq (cSR ?_)
 refine sLdAll A30 S30 rfl g1 rfl ?_
 obtain ⟨v8, m8, h8, rfl, e8⟩ := spec_Check8I (n := n) (b := b) (hC.ext e1) (hG.ext e1)
 refine sCall1 rfl call45 rfl h8 ?_
 replace g1 := e8.cells g1
 replace e1 := e1.trans e8
 refine sAn rfl ?_
 refine sN ?_
 refine cSR ?_
 refine sMn rfl ?_
 refine sBin (a := circ8E n b Gs) (b := 0) rfl rfl aInt_neq ?_
 refine sN ?_
 refine cCond (p := circ8E n b Gs ≠ 0) rfl (fun c0 => ?_) (fun c0 => ?_)
 ·
  refine cSR ?_
  refine sMn rfl ?_
  refine sAn rfl ?_
  refine sAn rfl ?_
  refine sN ?_
  refine cRet (kSeqR ?_)
  have ha : appE n b Gs x = circ8E n b Gs := by rw [appE, if_pos c0]
  exact ⟨.inr rfl, _, rfl, by rw [appV, ha, if_neg c0]; rfl, e1⟩
 ·
  have h0 : circ8E n b Gs = 0 := Classical.byContradiction c0
  obtain ⟨n', b', Gs', rfl, rfl, rfl, hc⟩ := circ8_nat h0
  have hp := pow10 hc.ten
  simp only [List.length_map] at g1
  refine cSkip (kSeqN ?_)
  refine cSeq (cSR ?_)
  refine sMv (v := .int .i64 x) rfl ?_
  refine sBinI (v := .bool (decide (x < 0))) (b := 0) rfl rfl aInt_lssI ?_
  refine sMb rfl ?_
  by_cases q1 : x < 0
  ·
   rw [decide_eq_true q1]
   refine sGT rfl rfl ?_
   refine sGT rfl rfl ?_
   refine sGT rfl rfl ?_
   refine sGT rfl rfl ?_
   refine sGT rfl rfl ?_
   refine sPb rfl ?_
   refine sN ?_
   refine cCondT rfl ?_
   refine cSR ?_
   refine sAn rfl ?_
   refine sAs (v := nv 3) rfl ?_
   refine sN ?_
   refine cRet (kSeqR ?_)
   have ha : appE (Int.ofNat n') (Int.ofNat b') (Gs'.map gvM) x = 3 := by rw [appE, if_neg c0, if_pos (.inl q1)]
   exact ⟨.inr rfl, _, rfl, by rw [appV, ha, if_neg (by decide)]; rfl, e1⟩
  ·
   rw [decide_eq_false q1]
   refine sG rfl rfl ?_
   refine sMv (v := .int .i64 x) rfl ?_
   refine sG rfl rfl ?_
   refine sFA F30_0 rfl ?_
   refine sG rfl rfl ?_
   refine sLd (v := nv n') A3 rfl g1 rfl ?_
   refine sG rfl rfl ?_
   refine sBin (v := nv (2 ^ n')) rfl rfl (by rw [aInt_shl (a := 1) ⟨by have := hc.ten; omega, i64_pow hc.ten⟩, Nat.shiftLeft_eq, Nat.one_mul]) ?_
   refine sG rfl rfl ?_
   refine sBinI (v := .bool (decide (Int.ofNat (2 ^ n') ≤ x))) rfl rfl aInt_geqI ?_
   refine sPb rfl ?_
   refine sN ?_
   refine cCond (p := Int.ofNat (2 ^ n') ≤ x) rfl (fun c2 => ?_) (fun c2 => ?_)
   ·
    refine cSR ?_
    refine sAn rfl ?_
    refine sAs (v := nv 3) rfl ?_
    refine sN ?_
    refine cRet (kSeqR ?_)
    have ha : appE (Int.ofNat n') (Int.ofNat b') (Gs'.map gvM) x = 3 := by rw [appE, if_neg c0, if_pos (.inr c2)]
    exact ⟨.inr rfl, _, rfl, by rw [appV, ha, if_neg (by decide)]; rfl, e1⟩
   ·
    obtain ⟨y, rfl⟩ : ∃ y : Nat, x = Int.ofNat y := ⟨x.toNat, by simp only [Int.ofNat_eq_natCast]; omega⟩
    have hy : y < 2 ^ n' := by simp only [Int.ofNat_eq_natCast] at c2; omega
    refine cSkip (kSeqN ?_)
    refine cSR ?_
    refine sLdAll A30 S30 rfl g1 rfl ?_
    refine sMn rfl ?_
    obtain ⟨v23, m23, h23, rfl, e23⟩ := spec_runK (b := Int.ofNat b') (hC.ext e1) (hG.ext e1) hc hy
    simp only [List.length_map] at h23
    refine sCall2 rfl call97 rfl rfl h23 ?_
    refine sAn rfl ?_
    refine sAn rfl ?_
    refine sN ?_
    refine cRet ?_
    have ha : appE (Int.ofNat n') (Int.ofNat b') (Gs'.map gvM) (Int.ofNat y) = 0 := by rw [appE, if_neg c0, if_neg (by rintro (h | h); exact q1 h; exact c2 h)]
    exact ⟨.inr rfl, _, rfl, by rw [appV, ha, if_pos rfl, gnM_all]; rfl, e1.trans e23⟩
def H98k : Nat → List (Nat × Nat) := fun id => if id = 4 then [(0, 4), (0, 5)] else []
theorem okf98k : okF Tryd.prog H98k 98 16 = true := by kernel_rfl
theorem spec_tableK {m : Mem} {n : Nat} {b : Int} {s : Value} {Gs : List (Nat × List Nat)} (hC : GlobK m) (hG : GsAt m s (Gs.map gvM)) (hc : CircS n Gs) : ∃ v m', ACalls Tryd.prog 98 #[.agg #[nv n, .int .i64 b, s]] m v m' ∧ (OwnF m.size m' v (ofs (rtabS n Gs)) ∧ Ext m m') := by
 obtain ⟨q, cap, rfl⟩ := (GsAt.lenN hG)
 have h10 := hc.ten
 have hp := pow10 h10
 refine wpF (args := [_]) mixed okf98k (fn := Tryd.f98) rfl rfl rfl (by simp) ?_
 refine cSR ?_
 refine sBox (v := .agg _) rfl ?_
 change wpOps _ _ _ _ _ (m.push (.cells true #[nv n, .int .i64 b, .slice q Gs.length cap]))
 refine sAs (v := .slice _ _ _) rfl ?_
 refine sN ?_
 refine cSR ?_
 refine sAllocB (bl := m.size + 1) (by simp) Z22 (by kernel_rfl) ?_
 change wpOps _ _ _ _ _ ((m.push (.cells true #[nv n, .int .i64 b, .slice q Gs.length cap])).push (.cells true #[.slice none 0 0]))
 have g0 : Mem.get ((m.push (.cells true #[nv n, .int .i64 b, .slice q Gs.length cap])).push (.cells true #[.slice none 0 0])) m.size = .cells true #[nv n, .int .i64 b, .slice q Gs.length cap] := by rw [gPn (by simp), gP rfl]
 have g1 : Mem.get ((m.push (.cells true #[nv n, .int .i64 b, .slice q Gs.length cap])).push (.cells true #[.slice none 0 0])) (m.size + 1) = .cells true #[.slice none 0 0] := gP (by simp)
 have hz1 : ((m.push (.cells true #[nv n, .int .i64 b, .slice q Gs.length cap])).push (.cells true #[.slice none 0 0])).size = m.size + 2 := by simp
 have e1 : Ext m ((m.push (.cells true #[nv n, .int .i64 b, .slice q Gs.length cap])).push (.cells true #[.slice none 0 0])) := (Ext.push _ _).trans (.push _ _)
 generalize (m.push (.cells true #[nv n, .int .i64 b, .slice q Gs.length cap])).push (.cells true #[.slice none 0 0]) = M1 at *
 refine sN ?_
 refine cSeq (cSR ?_)
 refine sFA F30_0 rfl ?_
 refine sLd (v := nv n) A3 rfl g0 rfl ?_
 obtain ⟨v7, m7, h7, rfl, rfl⟩ := spec_states (m := M1) (n := n)
 refine sCall1 rfl call130 rfl h7 ?_
 have hz : (M1.push (.cells true #[nv n])).size = m.size + 3 := by simp [hz1]
 refine sN ?_
 refine cBlock ?_
 refine cStates (n := n) (pp := M1.size) (by kernel_rfl) (by kernel_rfl) rfl h10 (fun i m1 => m.size + 3 ≤ m1.size ∧ Ext m m1 ∧ Mem.get m1 m.size = .cells true #[nv n, .int .i64 b, .slice q Gs.length cap] ∧ (∃ v, Mem.get m1 (m.size + 1) = .cells true #[v] ∧ OwnF (m.size + 4) m1 v (ofs (rtabSU i Gs))) ∧ Mem.get m1 (m.size + 2) = .cells true #[nv n]) (fun i m1 h => ⟨true, by rw [hz1]; exact h.2.2.2.2⟩) (fun o => ⟨by simp [hz1], e1.trans ((Ext.push _ _).trans (.push _ _)), by rw [gPn (by rw [hz]; omega), gPn (by omega)]; exact g0, ⟨_, by rw [gPn (by rw [hz]; omega), gPn (by omega)]; exact g1, .nil _ _⟩, by rw [gPn (by rw [hz]; omega), gP (by omega)]⟩) ?_ ?_
 ·
  rintro R B i m1 hi hlp hlt ⟨k1, k2, k3, ⟨u, k4, k5⟩, k6⟩
  rw [hz] at hlp hlt ⊢
  obtain ⟨qu, cu, rfl⟩ := k5.ints.lenN
  have k5' : OwnF (m.size + 4) (m1.setIfInBounds (m.size + 3) (.loop B)) (.slice qu (rtabSU i Gs).length cu) (ofs (rtabSU i Gs)) := k5.keepC fun b c _ hb => set_keepC hlp b c hb
  have k2' : Ext m (m1.setIfInBounds (m.size + 3) (.loop B)) := k2.set (by omega) _
  have k3' : Mem.get (m1.setIfInBounds (m.size + 3) (.loop B)) m.size = _ := (gSn (by omega)).trans k3
  have k4' : Mem.get (m1.setIfInBounds (m.size + 3) (.loop B)) (m.size + 1) = .cells true #[.slice qu (rtabSU i Gs).length cu] := (gSn (by omega)).trans k4
  have k6' : Mem.get (m1.setIfInBounds (m.size + 3) (.loop B)) (m.size + 2) = _ := (gSn (by omega)).trans k6
  have kB : Mem.get (m1.setIfInBounds (m.size + 3) (.loop B)) (m.size + 3) = .loop B := gS rfl hlt
  have kz : m.size + 3 < (m1.setIfInBounds (m.size + 3) (.loop B)).size := by simpa using hlt
  have htl : (rtabSU i Gs).length = i := by simp [rtabSU]
  refine cRegion ?_
  refine sAn rfl ?_
  refine sNil ?_
  refine ⟨rfl, hlp, ?_⟩
  generalize m1.setIfInBounds (m.size + 3) (.loop B) = M at *
  clear hlp hlt k1 k2 k3 k4 k5 k6
  refine cBlock ?_
  refine cDrawH (hs := [(0, 4), (0, 5)]) rfl (by decide) ?_
  refine lStepLd (v := .slice _ _ _) A22 rfl k4' rfl fun e0 hm0 hv0 hr0 => ?_
  refine lStepLdA A30 S30 rfl k3' rfl fun e1 hm1 hv1 hr1 => ?_
  refine lStepO (sMv (v := nv _) rfl (sNil fun e2 hm2 => ?_))
  obtain ⟨v12, m12, h12, rfl, e12⟩ := spec_runK (hC.ext k2') (hG.ext k2') hc (x := i) hi
  refine lStepO (sCall2 rfl call97 rfl rfl h12 (sNil fun e3 hm3 => ?_))
  have z12 := e12.1
  have k412 := e12.cells k4'
  refine lStepO (sBuildS T22 S3 Z3 (by decide) (by decide) (by decide) (by kernel_rfl) fill1 rfl (sNil fun e4 hm4 => ?_))
  refine lStepO (sApp App22 rfl rfl (N := m.size + 4) ((k5'.ext e12).ext (.push _ _)) one_ints (by simp; omega) (by rw [ofs_length]; simp; omega) fun v4 m4 hO4 hL4 => (sNil fun e5 hm5 => ?_))
  rw [show ofs (rtabSU i Gs) ++ [Int.ofNat (runS Gs i)] = ofs (rtabSU (i + 1) Gs) by rw [rtabSU_succ, ofs_append]; rfl] at hO4
  obtain ⟨q4, c4, rfl⟩ := hO4.ints.lenN
  have hlo4 : ∀ b, b < m.size + 4 → Mem.get m4 b = Mem.get M b := fun b hb => by
   rw [hL4.2 b hb, gPn (by omega), e12.2 b (by omega)]
  have k44 : Mem.get m4 (m.size + 1) = .cells true #[.slice qu (rtabSU i Gs).length cu] := (hlo4 _ (by omega)).trans k4'
  refine lStepO (sSt (v := .slice _ _ _) S22 rfl rfl k44 (by simp) rfl rfl (sNil fun e6 hm6 => ?_))
  refine ⟨?_, (kBlkN ?_)⟩
  ·
   refine obl_atE (e := e0) (e' := e4) (by simp) (by rfl) (by simp) ((hr0 e4.m _ _ (by rw [hm4]; exact k412) (by rfl)).trans (congrArg some hv0.symm)) ?_
   refine obl_atE (e := e0) (e' := e5) (by simp) (by rfl) (by simp) ((hr0 e5.m _ _ (by rw [hm5, gPn (live k412)]; exact k412) (by rfl)).trans (congrArg some hv0.symm)) ?_
   trivial
  have z4 : m.size + 3 < m4.size := by have := hL4.1; simp at this; omega
  have kB4 : Mem.get (m4.setIfInBounds (m.size + 1) (.cells true #[.slice q4 (rtabSU (i + 1) Gs).length c4])) (m.size + 3) = .loop B := (gSn (by omega)).trans ((hlo4 _ (by omega)).trans kB)
  refine ⟨rfl, kB4, ⟨by simp; omega, ⟨by simp; omega, fun b hb => ?_⟩, ?_, ⟨_, (gSn (by omega)).trans (gS rfl (by omega)), ?_⟩, ?_⟩, by simpa using z4⟩
  ·rw [gSn (by omega), gSn (by omega), hlo4 _ (by omega)]; exact k2'.2 b hb
  ·rw [gSn (by omega), gSn (by omega), hlo4 _ (by omega)]; exact k3'
  ·exact (hO4.keepC fun b c hb h => (gSn (by omega)).trans h).keepC fun b c _ hb => set_keepC kB4 b c hb
  ·rw [gSn (by omega), gSn (by omega), hlo4 _ (by omega)]; exact k6'
 rintro m2 ⟨k1, k2, k3, ⟨u, k4, k5⟩, k6⟩ hlt ⟨L, hL⟩
 rw [hz] at hlt hL ⊢
 have k4' : Mem.get (m2.setIfInBounds (m.size + 3) .dead) (m.size + 1) = .cells true #[u] := (gSn (by omega)).trans k4
 refine (kBlkN (kSeqN ?_))
 refine cSR ?_
 refine sLd (v := u) A22 rfl k4' rfl ?_
 refine sAs (v := u) rfl ?_
 refine sN ?_
 refine cRet ?_
 exact ⟨.inr rfl, _, rfl, (k5.keepC fun b c _ hb => set_keepC hL b c hb).mono (by omega), k2.set (by omega) _⟩
theorem okf41k : okF Tryd.prog H0 41 12 = true := by kernel_rfl
theorem spec_TableK {m : Mem} {n b : Int} {s : Value} {Gs : List GateV} (hC : GlobK m) (hG : GsAt m s Gs) : ∃ v m', ACalls Tryd.prog 41 #[.agg #[.int .i64 n, .int .i64 b, s]] m v m' ∧ (∃ w, v = .tuple #[w, nv (circ8E n b Gs)] ∧ OwnF m.size m' w (ofs (tabL n b Gs)) ∧ Ext m m') := by
 obtain ⟨q, cap, rfl⟩ := hG.len
 refine wpF (args := [_]) mixed okf41k (fn := Tryd.f41) rfl rfl rfl (by simp) ?_
 refine cSR ?_
 refine sBox (v := .agg _) rfl ?_
 change wpOps _ _ _ _ _ (m.push (.cells true #[.int .i64 n, .int .i64 b, .slice q Gs.length cap]))
 have e1 : Ext m (m.push (.cells true #[.int .i64 n, .int .i64 b, .slice q Gs.length cap])) := .push _ _
 have g1 : Mem.get (m.push (.cells true #[.int .i64 n, .int .i64 b, .slice q Gs.length cap])) m.size = .cells true #[.int .i64 n, .int .i64 b, .slice q Gs.length cap] := gP rfl
 generalize m.push (.cells true #[.int .i64 n, .int .i64 b, .slice q Gs.length cap]) = M at *
 refine sAs (v := .slice _ _ _) rfl ?_
 refine sAn rfl ?_
 refine sN ?_
 refine cSeq (cSR ?_)
 refine sLdAll A30 S30 rfl g1 rfl ?_
 obtain ⟨v8, m8, h8, rfl, e8⟩ := spec_Check8I (n := n) (b := b) (hC.ext e1) (hG.ext e1)
 refine sCall1 rfl call45 rfl h8 ?_
 replace g1 := e8.cells g1
 replace e1 := e1.trans e8
 refine sAn rfl ?_
 refine sN ?_
 refine cSR ?_
 refine sMn rfl ?_
 refine sBin (a := circ8E n b Gs) (b := 0) rfl rfl aInt_neq ?_
 refine sN ?_
 refine cCond (p := circ8E n b Gs ≠ 0) rfl (fun c0 => ?_) (fun c0 => ?_)
 ·
  refine cSR ?_
  refine sMn rfl ?_
  refine sAs (v := .slice _ _ _) rfl ?_
  refine sAn rfl ?_
  refine sN ?_
  refine cRet (kSeqR ?_)
  exact ⟨.inr rfl, _, rfl, _, rfl, by rw [tabL, if_neg c0]; exact .nil _ _, e1⟩
 ·
  have h0 : circ8E n b Gs = 0 := Classical.byContradiction c0
  obtain ⟨n', b', Gs', rfl, rfl, rfl, hc⟩ := circ8_nat h0
  simp only [List.length_map] at g1
  refine cSkip (kSeqN ?_)
  refine cSR ?_
  refine sLdAll A30 S30 rfl g1 rfl ?_
  obtain ⟨v11, m11, h11, o11, e11⟩ := spec_tableK (b := Int.ofNat b') (hC.ext e1) (hG.ext e1) hc
  obtain ⟨q11, c11, rfl⟩ := o11.ints.lenN
  simp only [List.length_map] at h11
  refine sCall1 rfl call98 rfl h11 ?_
  refine sAs (v := .slice _ _ _) rfl ?_
  refine sAn rfl ?_
  refine sN ?_
  refine cRet ?_
  exact ⟨.inr rfl, _, rfl, _, by rw [h0]; rfl, by rw [tabL, if_pos h0, gnM_all]; exact o11.mono e1.1, e1.trans e11⟩
end Go.AM

/-! R64 -/
namespace Go.AM
open Go.Proofs
theorem arI_14 {k : Int} (h : ¬ arI k = 0) : k ≤ 14 := by
 unfold arI at h
 split at h
 ·omega
 split at h
 ·omega
 split at h
 ·omega
 ·exact absurd rfl h
theorem okf133k : okF Tryd.prog H0 133 15 = true := by kernel_rfl
theorem spec_offI {m : Mem} {x lo hi : Int} : ∃ v m', ACalls Tryd.prog 133 #[.int .i64 x, .int .i64 lo, .int .i64 hi] m v m' ∧ (v = .bool (decide (x < lo ∨ hi < x)) ∧ m = m') := by
 refine wpF (args := [_, _, _]) mixed okf133k (fn := Tryd.f133) rfl rfl rfl (by simp) ?_
 refine cSR ?_
 refine sAb rfl ?_
 refine sN ?_
 refine cSR ?_
 refine sMv (v := .int _ _) rfl ?_
 refine sMv (v := .int _ _) rfl ?_
 refine sBinI (v := .bool (decide (x < lo))) rfl rfl aInt_lssI ?_
 refine sMb rfl ?_
 by_cases q1 : x < lo
 ·
  rw [decide_eq_true q1]
  refine sGT rfl rfl ?_
  refine sGT rfl rfl ?_
  refine sGT rfl rfl ?_
  refine sPb rfl ?_
  refine sAb rfl ?_
  refine sN ?_
  refine cRet ?_
  exact ⟨.inr rfl, _, rfl, by rw [decide_eq_true (p := x < lo ∨ hi < x) (.inl q1)]; rfl, rfl⟩
 ·
  rw [decide_eq_false q1]
  refine sG rfl rfl ?_
  refine sMv (v := .int _ _) rfl ?_
  refine sG rfl rfl ?_
  refine sMv (v := .int _ _) rfl ?_
  refine sG rfl rfl ?_
  refine sBinI (v := .bool (decide (hi < x))) rfl rfl aInt_gtrI ?_
  refine sPb rfl ?_
  refine sAb rfl ?_
  refine sN ?_
  refine cRet ?_
  exact ⟨.inr rfl, _, rfl, by rw [show decide (x < lo ∨ hi < x) = decide (hi < x) from decide_eq_decide.2 ⟨fun h => by omega, fun h => by omega⟩]; rfl, rfl⟩
theorem okf150k : okF Tryd.prog H0 150 25 = true := by kernel_rfl
theorem spec_rArityI {m : Mem} {k : Int} : ∃ v m', ACalls Tryd.prog 150 #[.int .i64 k] m v m' ∧ (v = nv (arI k) ∧ m = m') := by
 refine wpF (args := [_]) mixed okf150k (fn := Tryd.f150) rfl rfl rfl (by simp) ?_
 refine cSR ?_
 refine sAn rfl ?_
 refine sN ?_
 refine cSeq ?_
 refine cCut (fun ρ m' => m = m' ∧ Has ρ [(0, .int .i64 k), (16, .bool (decide ((1 ≤ k ∧ k ≤ 8) ∨ k = 13 ∨ k = 14)))]) ?_ ?_
 ·
  refine cRegion ?_
  refine sMv (v := .int _ _) rfl ?_
  refine sBinI (v := .bool (decide (1 ≤ k))) (b := 1) rfl rfl aInt_geqI ?_
  refine sMb rfl ?_
  by_cases q1 : 1 ≤ k
  ·
   rw [decide_eq_true q1]
   refine sG rfl rfl ?_
   refine sMv (v := .int _ _) rfl ?_
   refine sG rfl rfl ?_
   refine sBinI (v := .bool (decide (k ≤ 8))) (b := 8) rfl rfl aInt_leqI ?_
   refine sPb rfl ?_
   refine sMb rfl ?_
   by_cases q2 : k ≤ 8
   ·
    rw [decide_eq_true q2]
    refine sGT rfl rfl ?_
    refine sGT rfl rfl ?_
    refine sPb rfl ?_
    refine sMb rfl ?_
    refine sGT rfl rfl ?_
    refine sGT rfl rfl ?_
    refine sPb rfl ?_
    refine sN ?_
    exact ⟨rfl, rfl, by rw [decide_eq_true (p := (1 ≤ k ∧ k ≤ 8) ∨ k = 13 ∨ k = 14) (by omega)]; rfl, trivial⟩
   ·
    rw [decide_eq_false q2]
    refine sG rfl rfl ?_
    refine sMv (v := .int _ _) rfl ?_
    refine sG rfl rfl ?_
    refine sBinI (v := .bool (decide (k = 13))) (b := 13) rfl rfl aInt_eqlI ?_
    refine sPb rfl ?_
    refine sMb rfl ?_
    by_cases q3 : k = 13
    ·
     rw [decide_eq_true q3]
     refine sGT rfl rfl ?_
     refine sGT rfl rfl ?_
     refine sPb rfl ?_
     refine sN ?_
     exact ⟨rfl, rfl, by rw [decide_eq_true (p := (1 ≤ k ∧ k ≤ 8) ∨ k = 13 ∨ k = 14) (by omega)]; rfl, trivial⟩
    ·
     rw [decide_eq_false q3]
     refine sG rfl rfl ?_
     refine sMv (v := .int _ _) rfl ?_
     refine sG rfl rfl ?_
     refine sBinI (v := .bool (decide (k = 14))) (b := 14) rfl rfl aInt_eqlI ?_
     refine sPb rfl ?_
     refine sN ?_
     exact ⟨rfl, rfl, by rw [show decide ((1 ≤ k ∧ k ≤ 8) ∨ k = 13 ∨ k = 14) = decide (k = 14) from decide_eq_decide.2 ⟨fun h => by omega, fun h => by omega⟩]; rfl, trivial⟩
  ·
   rw [decide_eq_false q1]
   refine sGF rfl rfl ?_
   refine sGF rfl rfl ?_
   refine sPb rfl ?_
   refine sMb rfl ?_
   refine sG rfl rfl ?_
   refine sMv (v := .int _ _) rfl ?_
   refine sG rfl rfl ?_
   refine sBinI (v := .bool (decide (k = 13))) (b := 13) rfl rfl aInt_eqlI ?_
   refine sPb rfl ?_
   refine sMb rfl ?_
   by_cases q3 : k = 13
   ·
    rw [decide_eq_true q3]
    refine sGT rfl rfl ?_
    refine sGT rfl rfl ?_
    refine sPb rfl ?_
    refine sN ?_
    exact ⟨rfl, rfl, by rw [decide_eq_true (p := (1 ≤ k ∧ k ≤ 8) ∨ k = 13 ∨ k = 14) (by omega)]; rfl, trivial⟩
   ·
    rw [decide_eq_false q3]
    refine sG rfl rfl ?_
    refine sMv (v := .int _ _) rfl ?_
    refine sG rfl rfl ?_
    refine sBinI (v := .bool (decide (k = 14))) (b := 14) rfl rfl aInt_eqlI ?_
    refine sPb rfl ?_
    refine sN ?_
    exact ⟨rfl, rfl, by rw [show decide ((1 ≤ k ∧ k ≤ 8) ∨ k = 13 ∨ k = 14) = decide (k = 14) from decide_eq_decide.2 ⟨fun h => by omega, fun h => by omega⟩]; rfl, trivial⟩
 rintro ρ _ ⟨rfl, hh⟩
 rw [hh.env]; clear hh
 refine cCond (p := (1 ≤ k ∧ k ≤ 8) ∨ k = 13 ∨ k = 14) rfl (fun c0 => ?_) (fun c0 => ?_)
 ·
  refine cSR ?_
  refine sAs (v := nv 1) rfl ?_
  refine sN ?_
  refine cRet (kSeqR ?_)
  exact ⟨.inr rfl, _, rfl, by rw [arI, if_neg (by omega), if_neg (by omega), if_pos (by omega)]; rfl, rfl⟩
 ·
  refine cSkip (kSeqN ?_)
  refine cSeq ?_
  refine cCut (fun ρ m' => m = m' ∧ Has ρ [(0, .int .i64 k), (22, .bool (decide (9 ≤ k ∧ k ≤ 11)))]) ?_ ?_
  ·
   refine cRegion ?_
   refine sMv (v := .int _ _) rfl ?_
   refine sBinI (v := .bool (decide (9 ≤ k))) (b := 9) rfl rfl aInt_geqI ?_
   refine sMb rfl ?_
   by_cases q1 : 9 ≤ k
   ·
    rw [decide_eq_true q1]
    refine sG rfl rfl ?_
    refine sMv (v := .int _ _) rfl ?_
    refine sG rfl rfl ?_
    refine sBinI (v := .bool (decide (k ≤ 11))) (b := 11) rfl rfl aInt_leqI ?_
    refine sPb rfl ?_
    refine sN ?_
    exact ⟨rfl, rfl, by rw [show decide (9 ≤ k ∧ k ≤ 11) = decide (k ≤ 11) from decide_eq_decide.2 ⟨fun h => by omega, fun h => by omega⟩]; rfl, trivial⟩
   ·
    rw [decide_eq_false q1]
    refine sGF rfl rfl ?_
    refine sGF rfl rfl ?_
    refine sPb rfl ?_
    refine sN ?_
    exact ⟨rfl, rfl, by rw [decide_eq_false (p := 9 ≤ k ∧ k ≤ 11) (by omega)]; rfl, trivial⟩
  rintro ρ _ ⟨rfl, hh⟩
  rw [hh.env]; clear hh
  refine cCond (p := 9 ≤ k ∧ k ≤ 11) rfl (fun c1 => ?_) (fun c1 => ?_)
  ·
   refine cSR ?_
   refine sAs (v := nv 2) rfl ?_
   refine sN ?_
   refine cRet (kSeqR ?_)
   exact ⟨.inr rfl, _, rfl, by rw [arI, if_neg (by omega), if_pos c1]; rfl, rfl⟩
  ·
   refine cSkip (kSeqN ?_)
   refine cSeq (cSR ?_)
   refine sMv (v := .int _ _) rfl ?_
   refine sBinI (v := .bool (decide (k = 12))) (b := 12) rfl rfl aInt_eqlI ?_
   refine sN ?_
   refine cCond (p := k = 12) rfl (fun c2 => ?_) (fun c2 => ?_)
   ·
    refine cSR ?_
    refine sAs (v := nv 3) rfl ?_
    refine sN ?_
    refine cRet (kSeqR ?_)
    exact ⟨.inr rfl, _, rfl, by rw [arI, if_pos c2]; rfl, rfl⟩
   ·
    refine cSkip (kSeqN ?_)
    refine cSR ?_
    refine sAn rfl ?_
    refine sN ?_
    refine cRet ?_
    exact ⟨.inr rfl, _, rfl, by rw [arI, if_neg c2, if_neg c1, if_neg (by omega)]; rfl, rfl⟩
def H134k : Nat → List (Nat × Nat) := fun id => if id = 3 then [(1, 6), (2, 6)] else []
theorem okf134k : okF Tryd.prog H134k 134 86 = true := by kernel_rfl
theorem spec_rCheckGateI {m : Mem} {n b : Int} {ws : Value} {g : GateV} (hw : IntsAt m ws g.2.1) (hk : CapOk ws) (hn : n ≤ 100) (hb : b ≤ 100) (hn0 : -100 ≤ n) (hb0 : -100 ≤ b) : ∃ v m', ACalls Tryd.prog 134 #[.agg #[.int .i64 g.1, ws, .int .i64 g.2.2.1, .int .i64 g.2.2.2], .int .i64 n, .int .i64 b] m v m' ∧ (v = nv (gateE n b g) ∧ Ext m m') := by
 obtain ⟨k, l, bt, cf⟩ := g
 simp only at hw ⊢
 obtain ⟨qw, cw, rfl⟩ := hw.len
 have ex : Ext m (m.push (.cells true #[.int .i64 k, .slice qw l.length cw, .int .i64 bt, .int .i64 cf])) := .push _ _
 have g2 : Mem.get (m.push (.cells true #[.int .i64 k, .slice qw l.length cw, .int .i64 bt, .int .i64 cf])) m.size = .cells true #[.int .i64 k, .slice qw l.length cw, .int .i64 bt, .int .i64 cf] := gP rfl
 refine wpF (args := [_, _, _]) mixed okf134k (fn := Tryd.f134) rfl rfl rfl (by simp) ?_
 refine cSR ?_
 refine sBox (v := .agg _) rfl ?_
 change wpOps _ _ _ _ _ (m.push (.cells true #[.int .i64 k, .slice qw l.length cw, .int .i64 bt, .int .i64 cf]))
 generalize m.push (.cells true #[.int .i64 k, .slice qw l.length cw, .int .i64 bt, .int .i64 cf]) = M at *
 have hwM := hw.ext ex
 refine sAn rfl ?_
 refine sN ?_
 refine cSeq (cSR ?_)
 refine sFA F49_0 rfl ?_
 refine sLd (v := .int .i64 k) A3 rfl g2 rfl ?_
 obtain ⟨v11, m11, h11, rfl, rfl⟩ := spec_rArityI (m := M) (k := k)
 refine sCall1 rfl call150 rfl h11 ?_
 refine sBin (a := arI k) (b := 0) rfl rfl aInt_eql ?_
 refine sN ?_
 refine cCond (p := arI k = 0) rfl (fun c0 => ?_) (fun c0 => ?_)
 ·
  refine cSR ?_
  refine sAs (v := nv 3) rfl ?_
  refine sN ?_
  refine cRet (kSeqR ?_)
  exact ⟨.inr rfl, _, rfl, by rw [gE1 c0]; rfl, ex⟩
 ·
  refine cSkip (kSeqN ?_)
  refine cSeq (cSeq ?_)
  refine cDrawH (hs := [(1, 6), (2, 6)]) rfl (by decide) ?_
  refine lStepO (sFA F49_1 rfl (sNil fun e0 hm0 => ?_))
  refine lStepLd (v := .slice qw l.length cw) A22 rfl g2 rfl fun e1 hm1 hv1 hr1 => ?_
  refine lStepLen T22 rfl fun e2 hm2 hv2 hr2 => ?_
  refine lStepO (sFA F49_0 rfl (sNil fun e3 hm3 => ?_))
  refine lStepLd (v := .int .i64 k) A3 rfl g2 rfl fun e4 hm4 hv4 hr4 => ?_
  obtain ⟨v18, m18, h18, rfl, rfl⟩ := spec_rArityI (m := M) (k := k)
  refine lStepO (sCall1 rfl call150 rfl h18 (sNil fun e5 hm5 => ?_))
  refine lStepO (sBin (a := l.length) (b := arI k) rfl rfl aInt_neq (sNil fun e6 hm6 => ?_))
  refine ⟨?_, (kSeqN ?_)⟩
  ·
   refine obl_atE (e := e1) (e' := e6) (by simp) (by rfl) (by simp) ((hr1 e6.m _ _ (by rw [hm6]; exact g2) (by rfl)).trans (congrArg some hv1.symm)) ?_
   refine obl_pure (e := e2) (by simp) (by rfl) (hr2.trans (congrArg some hv2.symm)) ?_
   trivial
  refine cCond (p := l.length ≠ arI k) rfl (fun c1 => ?_) (fun c1 => ?_)
  ·
   refine cSR ?_
   refine sAs (v := nv 2) rfl ?_
   refine sN ?_
   refine cRet (kSeqR ?_)
   exact ⟨.inr rfl, _, rfl, by rw [gE2 c0 c1]; rfl, ex⟩
  ·
   have hl14 : l.length ≤ 3 := by
    have h1 : l.length = arI k := Classical.byContradiction c1
    have := arI_le k
    omega
   refine cSkip (kSeqN ?_)
   refine cSeq (cSR ?_)
   refine sAn rfl ?_
   refine sN ?_
   refine cBlock ?_
   refine wpC_loop (fun k' ρ m' => ∃ i, k' = l.length - i ∧ i ≤ l.length ∧ (∀ (j : Nat) x, j < i → l[j]? = some x → 0 ≤ x ∧ x < n) ∧ M = m' ∧ Has ρ [(1, .int .i64 n), (2, .int .i64 b), (3, .pointer (some ⟨m.size, 0, none⟩)), (7, nv i)]) ⟨0, rfl, Nat.zero_le _, fun j x h => absurd h (by omega), rfl, rfl, rfl, rfl, rfl, trivial⟩ ?_
   rintro k' ρ _ ⟨i, rfl, hi, hr, rfl, hh⟩
   rw [hh.env]; clear hh
   refine cSeq (cSR ?_)
   refine sMn rfl ?_
   refine sFA F49_1 rfl ?_
   refine sLd (v := .slice qw l.length cw) A22 rfl g2 rfl ?_
   refine sLen T22 rfl ?_
   refine sBin rfl rfl (aInt_lss) ?_
   refine sN ?_
   refine cCond rfl (fun c2 => ?_) (fun c2 => ?_)
   ·
    obtain ⟨b1, o1, p1, r1, cc, ee, gw, xw⟩ := hwM.at (by omega)
    cases ee
    obtain ⟨y, hy⟩ : ∃ y, l[i]? = some y := ⟨_, List.getElem?_eq_getElem c2⟩
    refine cSkip (kSeqN ?_)
    refine cSeq (cBlock (cSR ?_))
    refine sFA F49_1 rfl ?_
    refine sLd (v := .slice (some ⟨b1, o1, some 1⟩) l.length cw) A22 rfl g2 rfl ?_
    refine sMn rfl ?_
    refine sIx T22 S3 rfl rfl (by omega) ?_
    refine sLd (v := .int .i64 y) A3 rfl gw (xw i y hy) ?_
    refine sMv (v := .int _ _) rfl ?_
    refine sBinI (v := .int .i64 (n - 1)) (b := 1) rfl rfl (aInt_subI (by omega)) ?_
    obtain ⟨v34, m34, h34, rfl, rfl⟩ := spec_offI (m := M) (x := y) (lo := 0) (hi := n - 1)
    refine sCall3 rfl call133 rfl rfl rfl h34 ?_
    refine sN ?_
    refine cCond (p := y < 0 ∨ n - 1 < y) rfl (fun c3 => ?_) (fun c3 => ?_)
    ·
     refine cSR ?_
     refine sAs (v := nv 1) rfl ?_
     refine sN ?_
     refine cRet (kBlkR (kSeqR (kSeqR (kBlkR (kSeqR ?_)))))
     exact ⟨.inr rfl, _, rfl, by rw [gE3 c0 c1 (fun h => by have := h y (List.mem_of_getElem? hy); omega)]; rfl, ex⟩
    ·
     refine cSkip (kBlkN (kSeqN ?_))
     refine cRegion ?_
     refine sMn rfl ?_
     refine sBin rfl rfl (aInt_add (b := 1) (by omega)) ?_
     refine sAn rfl ?_
     refine sN ?_
     refine ⟨_, ?_, i + 1, rfl, by omega, fun j x hj hx => ?_, rfl, rfl, rfl, rfl, rfl, trivial⟩
     ·omega
     ·by_cases e : j = i
      ·subst e
       rw [hy] at hx; cases hx; omega
      ·exact hr j x (by omega) hx
   ·
    have h3 : ∀ w ∈ l, 0 ≤ w ∧ w < n := fun w hw' => by
     obtain ⟨j, hj⟩ := List.mem_iff_getElem?.1 hw'
     exact hr j w (by have := (List.getElem?_eq_some_iff.1 hj).1; omega) hj
    obtain ⟨w, rfl⟩ : ∃ w : List Nat, l = ofs w := ⟨l.map Int.toNat, (ofs_toNat fun y hy => (h3 y hy).1).symm⟩
    have hl14' : w.length ≤ 3 := by rw [ofs_length] at hl14; exact hl14
    rw [ofs_length] at hwM hk g2
    refine cExit (kSeqE (kSeqE (kBlkS (kSeqN ?_))))
    refine cSeq (cSR ?_)
    refine sAn rfl ?_
    refine sN ?_
    refine cBlock ?_
    refine wpC_loop (fun k' ρ m' => ∃ i, k' = w.length - i ∧ i ≤ w.length ∧ (∀ (j : Nat) x, j < i → w[j]? = some x → x ∉ w.take j) ∧ M = m' ∧ Has ρ [(1, .int .i64 n), (2, .int .i64 b), (3, .pointer (some ⟨m.size, 0, none⟩)), (8, nv i)]) ⟨0, rfl, Nat.zero_le _, fun j x h => absurd h (by omega), rfl, rfl, rfl, rfl, rfl, trivial⟩ ?_
    rintro k' ρ _ ⟨i, rfl, hi, hr2, rfl, hh⟩
    rw [hh.env]; clear hh
    refine cSeq (cSR ?_)
    refine sMn rfl ?_
    refine sFA F49_1 rfl ?_
    refine sLd (v := .slice qw w.length cw) A22 rfl g2 rfl ?_
    refine sLen T22 rfl ?_
    refine sBin rfl rfl (aInt_lss) ?_
    refine sN ?_
    refine cCond rfl (fun c4 => ?_) (fun c4 => ?_)
    ·
     obtain ⟨v45, h45, o45, q45, c45, rfl⟩ := cut_ints hwM hk (show i ≤ w.length by omega)
     obtain ⟨b1, o1, p1, r1, cc, ee, gw, xw⟩ := hwM.atN (by omega)
     cases ee
     refine cSkip (kSeqN ?_)
     refine cSeq (cBlock (cSeq ?_))
     refine cDraw rfl ?_
     refine sFA F49_1 rfl ?_
     refine sLd (v := .slice (some ⟨b1, o1, some 1⟩) w.length cw) A22 rfl g2 rfl ?_
     refine sMn rfl ?_
     refine sO (v := .slice q45 (w.take i).length c45) (m' := M) (opF_read rfl h45) ?_
     refine sFA F49_1 rfl ?_
     refine sLd (v := .slice (some ⟨b1, o1, some 1⟩) w.length cw) A22 rfl g2 rfl ?_
     refine sMn rfl ?_
     refine sIx T22 S3 rfl rfl (by omega) ?_
     refine sLd (v := nv w[i]) A3 rfl gw (xw i w[i] (by simp)) ?_
     obtain ⟨v51, m51, h51, rfl, rfl⟩ := spec_rHas (x := w[i]) o45 (by rw [List.length_take]; omega)
     refine sCall2 rfl call151 rfl rfl h51 ?_
     refine sN ?_
     refine cCond (p := w[i] ∈ w.take i) rfl (fun c5 => ?_) (fun c5 => ?_)
     ·
      refine cSR ?_
      refine sAs (v := nv 5) rfl ?_
      refine sN ?_
      refine cRet (kBlkR (kSeqR (kSeqR (kBlkR (kSeqR ?_)))))
      refine ⟨.inr rfl, _, rfl, ?_, ex⟩
      rw [gE4 c0 c1 h3 (fun hn => nodup_take_not (ofs_nodup.1 hn) c4 c5)]; rfl
     ·
      refine cSkip (kBlkN (kSeqN ?_))
      refine cRegion ?_
      refine sMn rfl ?_
      refine sBin rfl rfl (aInt_add (b := 1) (by omega)) ?_
      refine sAn rfl ?_
      refine sN ?_
      refine ⟨_, ?_, i + 1, rfl, by omega, fun j x hj hx => ?_, rfl, rfl, rfl, rfl, rfl, trivial⟩
      ·omega
      ·by_cases e : j = i
       ·subst e
        rw [List.getElem?_eq_getElem c4] at hx
        cases hx; exact c5
       ·exact hr2 j x (by omega) hx
    ·
     have h4 : (ofs w).Nodup := ofs_nodup.2 (nodup_of_take fun j x hx => hr2 j x (by have := (List.getElem?_eq_some_iff.1 hx).1; omega) hx)
     refine cExit (kSeqE (kSeqE (kBlkS (kSeqN ?_))))
     refine cSeq ?_
     refine cCut (fun ρ m' => M = m' ∧ Has ρ [(3, .pointer (some ⟨m.size, 0, none⟩)), (67, .bool (decide (cf < 0 ∨ b < cf ∨ (k = 13 ∧ (bt < 0 ∨ b ≤ bt)))))]) ?_ ?_
     ·
      refine cRegion ?_
      refine sFA F49_3 rfl ?_
      refine sLd (v := .int .i64 cf) A3 rfl g2 rfl ?_
      refine sMv (v := .int _ _) rfl ?_
      obtain ⟨v55, m55, h55, rfl, rfl⟩ := spec_offI (m := M) (x := cf) (lo := 0) (hi := b)
      refine sCall3 rfl call133 rfl rfl rfl h55 ?_
      refine sMv (v := .bool (decide (cf < 0 ∨ b < cf))) rfl ?_
      by_cases q1 : cf < 0 ∨ b < cf
      ·
       rw [decide_eq_true q1]
       refine sGT rfl rfl ?_
       refine sGT rfl rfl ?_
       refine sGT rfl rfl ?_
       refine sGT rfl rfl ?_
       refine sGnoU rfl rfl ?_
       refine sGnoU rfl rfl ?_
       refine sGnoU rfl rfl ?_
       refine sGnoU rfl rfl ?_
       refine sGnoU rfl rfl ?_
       refine sGT rfl rfl ?_
       refine sPb rfl ?_
       refine sN ?_
       exact ⟨rfl, rfl, by rw [decide_eq_true (p := cf < 0 ∨ b < cf ∨ (k = 13 ∧ (bt < 0 ∨ b ≤ bt))) (by omega)]; rfl, trivial⟩
      ·
       rw [decide_eq_false q1]
       refine sG rfl rfl ?_
       refine sFA F49_0 rfl ?_
       refine sG rfl rfl ?_
       refine sLd (v := .int .i64 k) A3 rfl g2 rfl ?_
       refine sG rfl rfl ?_
       refine sBinI (v := .bool (decide (k = 13))) (b := 13) rfl rfl aInt_eqlI ?_
       refine sG rfl rfl ?_
       refine sMb rfl ?_
       by_cases q2 : k = 13
       ·
        rw [decide_eq_true q2]
        refine sG rfl rfl ?_
        refine sFA F49_2 rfl ?_
        refine sG rfl rfl ?_
        refine sLd (v := .int .i64 bt) A3 rfl g2 rfl ?_
        refine sG rfl rfl ?_
        refine sMv (v := .int _ _) rfl ?_
        refine sG rfl rfl ?_
        refine sBinI (v := .int .i64 (b - 1)) (b := 1) rfl rfl (aInt_subI (by omega)) ?_
        refine sG rfl rfl ?_
        obtain ⟨v65, m65, h65, rfl, rfl⟩ := spec_offI (m := M) (x := bt) (lo := 0) (hi := b - 1)
        refine sCall3 rfl call133 rfl rfl rfl h65 ?_
        refine sG rfl rfl ?_
        refine sPb rfl ?_
        refine sPb rfl ?_
        refine sN ?_
        exact ⟨rfl, rfl, by rw [show decide (cf < 0 ∨ b < cf ∨ (k = 13 ∧ (bt < 0 ∨ b ≤ bt))) = decide (bt < 0 ∨ b - 1 < bt) from decide_eq_decide.2 ⟨fun h => by omega, fun h => by omega⟩]; rfl, trivial⟩
       ·
        rw [decide_eq_false q2]
        refine sGF rfl rfl ?_
        refine sGF rfl rfl ?_
        refine sGF rfl rfl ?_
        refine sGF rfl rfl ?_
        refine sGF rfl rfl ?_
        refine sG rfl rfl ?_
        refine sPb rfl ?_
        refine sPb rfl ?_
        refine sN ?_
        exact ⟨rfl, rfl, by rw [decide_eq_false (p := cf < 0 ∨ b < cf ∨ (k = 13 ∧ (bt < 0 ∨ b ≤ bt))) (by omega)]; rfl, trivial⟩
     rintro ρ _ ⟨rfl, hh⟩
     rw [hh.env]; clear hh
     refine cCond (p := cf < 0 ∨ b < cf ∨ (k = 13 ∧ (bt < 0 ∨ b ≤ bt))) rfl (fun h5 => ?_) (fun h5 => ?_)
     ·
      refine cSR ?_
      refine sAs (v := nv 1) rfl ?_
      refine sN ?_
      refine cRet (kSeqR ?_)
      exact ⟨.inr rfl, _, rfl, by rw [gE5 c0 c1 h3 h4 h5]; rfl, ex⟩
     ·
      have hk14 : k ≤ 14 := arI_14 c0
      refine cSkip (kSeqN ?_)
      refine cSeq ?_
      refine cCut (fun ρ m' => M = m' ∧ Has ρ [(85, .bool (decide (((k = 13 ∨ k = 14) ∧ cf ≠ 0) ∨ (k ≠ 13 ∧ bt ≠ 0))))]) ?_ ?_
      ·
       refine cRegion ?_
       refine sFA F49_0 rfl ?_
       refine sLd (v := .int .i64 k) A3 rfl g2 rfl ?_
       refine sBinI (v := .bool (decide (13 ≤ k))) (b := 13) rfl rfl aInt_geqI ?_
       refine sMb rfl ?_
       by_cases q1 : 13 ≤ k
       ·
        rw [decide_eq_true q1]
        refine sG rfl rfl ?_
        refine sFA F49_3 rfl ?_
        refine sG rfl rfl ?_
        refine sLd (v := .int .i64 cf) A3 rfl g2 rfl ?_
        refine sG rfl rfl ?_
        refine sBinI (v := .bool (decide (cf ≠ 0))) (b := 0) rfl rfl aInt_neqI ?_
        refine sPb rfl ?_
        refine sMb rfl ?_
        by_cases q2 : cf ≠ 0
        ·
         rw [decide_eq_true q2]
         refine sGT rfl rfl ?_
         refine sGT rfl rfl ?_
         refine sGT rfl rfl ?_
         refine sGT rfl rfl ?_
         refine sGnoU rfl rfl ?_
         refine sGnoU rfl rfl ?_
         refine sGnoU rfl rfl ?_
         refine sGT rfl rfl ?_
         refine sPb rfl ?_
         refine sN ?_
         exact ⟨rfl, by rw [decide_eq_true (p := ((k = 13 ∨ k = 14) ∧ cf ≠ 0) ∨ (k ≠ 13 ∧ bt ≠ 0)) (by omega)]; rfl, trivial⟩
        ·
         rw [decide_eq_false q2]
         refine sG rfl rfl ?_
         refine sFA F49_0 rfl ?_
         refine sG rfl rfl ?_
         refine sLd (v := .int .i64 k) A3 rfl g2 rfl ?_
         refine sG rfl rfl ?_
         refine sBinI (v := .bool (decide (k ≠ 13))) (b := 13) rfl rfl aInt_neqI ?_
         refine sG rfl rfl ?_
         refine sMb rfl ?_
         by_cases q3 : k ≠ 13
         ·
          rw [decide_eq_true q3]
          refine sG rfl rfl ?_
          refine sFA F49_2 rfl ?_
          refine sG rfl rfl ?_
          refine sLd (v := .int .i64 bt) A3 rfl g2 rfl ?_
          refine sG rfl rfl ?_
          refine sBinI (v := .bool (decide (bt ≠ 0))) (b := 0) rfl rfl aInt_neqI ?_
          refine sG rfl rfl ?_
          refine sPb rfl ?_
          refine sPb rfl ?_
          refine sN ?_
          exact ⟨rfl, by rw [show decide (((k = 13 ∨ k = 14) ∧ cf ≠ 0) ∨ (k ≠ 13 ∧ bt ≠ 0)) = decide (bt ≠ 0) from decide_eq_decide.2 ⟨fun h => by omega, fun h => by omega⟩]; rfl, trivial⟩
         ·
          rw [decide_eq_false q3]
          refine sGF rfl rfl ?_
          refine sGF rfl rfl ?_
          refine sGF rfl rfl ?_
          refine sG rfl rfl ?_
          refine sPb rfl ?_
          refine sPb rfl ?_
          refine sN ?_
          exact ⟨rfl, by rw [decide_eq_false (p := ((k = 13 ∨ k = 14) ∧ cf ≠ 0) ∨ (k ≠ 13 ∧ bt ≠ 0)) (by omega)]; rfl, trivial⟩
       ·
        rw [decide_eq_false q1]
        refine sGF rfl rfl ?_
        refine sGF rfl rfl ?_
        refine sGF rfl rfl ?_
        refine sPb rfl ?_
        refine sMb rfl ?_
        refine sG rfl rfl ?_
        refine sFA F49_0 rfl ?_
        refine sG rfl rfl ?_
        refine sLd (v := .int .i64 k) A3 rfl g2 rfl ?_
        refine sG rfl rfl ?_
        refine sBinI (v := .bool (decide (k ≠ 13))) (b := 13) rfl rfl aInt_neqI ?_
        refine sG rfl rfl ?_
        refine sMb rfl ?_
        by_cases q3 : k ≠ 13
        ·
         rw [decide_eq_true q3]
         refine sG rfl rfl ?_
         refine sFA F49_2 rfl ?_
         refine sG rfl rfl ?_
         refine sLd (v := .int .i64 bt) A3 rfl g2 rfl ?_
         refine sG rfl rfl ?_
         refine sBinI (v := .bool (decide (bt ≠ 0))) (b := 0) rfl rfl aInt_neqI ?_
         refine sG rfl rfl ?_
         refine sPb rfl ?_
         refine sPb rfl ?_
         refine sN ?_
         exact ⟨rfl, by rw [show decide (((k = 13 ∨ k = 14) ∧ cf ≠ 0) ∨ (k ≠ 13 ∧ bt ≠ 0)) = decide (bt ≠ 0) from decide_eq_decide.2 ⟨fun h => by omega, fun h => by omega⟩]; rfl, trivial⟩
        ·
         rw [decide_eq_false q3]
         refine sGF rfl rfl ?_
         refine sGF rfl rfl ?_
         refine sGF rfl rfl ?_
         refine sG rfl rfl ?_
         refine sPb rfl ?_
         refine sPb rfl ?_
         refine sN ?_
         exact ⟨rfl, by rw [decide_eq_false (p := ((k = 13 ∨ k = 14) ∧ cf ≠ 0) ∨ (k ≠ 13 ∧ bt ≠ 0)) (by omega)]; rfl, trivial⟩
      rintro ρ _ ⟨rfl, hh⟩
      rw [hh.env]; clear hh
      refine cCond (p := ((k = 13 ∨ k = 14) ∧ cf ≠ 0) ∨ (k ≠ 13 ∧ bt ≠ 0)) rfl (fun h6 => ?_) (fun h6 => ?_)
      ·
       refine cSR ?_
       refine sAs (v := nv 7) rfl ?_
       refine sN ?_
       refine cRet (kSeqR ?_)
       exact ⟨.inr rfl, _, rfl, by rw [gE6 c0 c1 h3 h4 h5 h6]; rfl, ex⟩
      ·
       refine cSkip (kSeqN ?_)
       refine cSR ?_
       refine sAn rfl ?_
       refine sN ?_
       refine cRet ?_
       exact ⟨.inr rfl, _, rfl, by rw [gE7 c0 c1 h3 h4 h5 h6]; rfl, ex⟩
theorem okf92k : okF Tryd.prog H0 92 37 = true := by kernel_rfl
theorem spec_rCheck4I {m : Mem} {n b : Int} {s : Value} {Gs : List GateV} (hG : GsAt m s Gs) : ∃ v m', ACalls Tryd.prog 92 #[.agg #[.int .i64 n, .int .i64 b, s]] m v m' ∧ (v = nv (circE n b Gs) ∧ Ext m m') := by
 obtain ⟨q, cap, rfl⟩ := hG.len
 refine wpF (args := [_]) mixed okf92k (fn := Tryd.f92) rfl rfl rfl (by simp) ?_
 refine cSR ?_
 refine sBox (v := .agg _) rfl ?_
 change wpOps _ _ _ _ _ (m.push (.cells true #[.int .i64 n, .int .i64 b, .slice q Gs.length cap]))
 have e1 : Ext m (m.push (.cells true #[.int .i64 n, .int .i64 b, .slice q Gs.length cap])) := .push _ _
 have g1 : Mem.get (m.push (.cells true #[.int .i64 n, .int .i64 b, .slice q Gs.length cap])) m.size = .cells true #[.int .i64 n, .int .i64 b, .slice q Gs.length cap] := gP rfl
 generalize m.push (.cells true #[.int .i64 n, .int .i64 b, .slice q Gs.length cap]) = M at *
 refine sAn rfl ?_
 refine sN ?_
 refine cSeq ?_
 refine cCut (fun ρ m' => M = m' ∧ Has ρ [(1, .pointer (some ⟨m.size, 0, none⟩)), (12, .bool (decide (n < 1 ∨ 12 < n ∨ b < 0 ∨ 8 < b)))]) ?_ ?_
 ·
  refine cRegion ?_
  refine sFA F30_0 rfl ?_
  refine sLd (v := .int .i64 n) A3 rfl g1 rfl ?_
  obtain ⟨v7, m7, h7, rfl, rfl⟩ := spec_offI (m := M) (x := n) (lo := 1) (hi := 12)
  refine sCall3 rfl call133 rfl rfl rfl h7 ?_
  refine sMv (v := .bool (decide (n < 1 ∨ 12 < n))) rfl ?_
  by_cases q1 : n < 1 ∨ 12 < n
  ·
   rw [decide_eq_true q1]
   refine sGT rfl rfl ?_
   refine sGT rfl rfl ?_
   refine sGT rfl rfl ?_
   refine sPb rfl ?_
   refine sN ?_
   exact ⟨rfl, rfl, by rw [decide_eq_true (p := n < 1 ∨ 12 < n ∨ b < 0 ∨ 8 < b) (by omega)]; rfl, trivial⟩
  ·
   rw [decide_eq_false q1]
   refine sG rfl rfl ?_
   refine sFA F30_1 rfl ?_
   refine sG rfl rfl ?_
   refine sLd (v := .int .i64 b) A3 rfl g1 rfl ?_
   refine sG rfl rfl ?_
   obtain ⟨v11, m11, h11, rfl, rfl⟩ := spec_offI (m := M) (x := b) (lo := 0) (hi := 8)
   refine sCall3 rfl call133 rfl rfl rfl h11 ?_
   refine sPb rfl ?_
   refine sN ?_
   exact ⟨rfl, rfl, by rw [show decide (n < 1 ∨ 12 < n ∨ b < 0 ∨ 8 < b) = decide (b < 0 ∨ 8 < b) from decide_eq_decide.2 ⟨fun h => by omega, fun h => by omega⟩]; rfl, trivial⟩
 rintro ρ _ ⟨rfl, hh⟩
 rw [hh.env]; clear hh
 refine cCond (p := n < 1 ∨ 12 < n ∨ b < 0 ∨ 8 < b) rfl (fun c0 => ?_) (fun c0 => ?_)
 ·
  refine cSR ?_
  refine sAs (v := nv 3) rfl ?_
  refine sN ?_
  refine cRet (kSeqR ?_)
  exact ⟨.inr rfl, _, rfl, by rw [circE, if_pos c0]; rfl, e1⟩
 ·
  refine cSkip (kSeqN ?_)
  refine cSeq (cSR ?_)
  refine sFA F30_2 rfl ?_
  refine sLd (v := .slice q Gs.length cap) A28 rfl g1 rfl ?_
  refine sLen T28 rfl ?_
  refine sBin (a := Gs.length) (b := 120) rfl rfl aInt_gtr ?_
  refine sN ?_
  refine cCond (p := 120 < Gs.length) rfl (fun c1 => ?_) (fun c1 => ?_)
  ·
   refine cSR ?_
   refine sAs (v := nv 2) rfl ?_
   refine sN ?_
   refine cRet (kSeqR ?_)
   exact ⟨.inr rfl, _, rfl, by rw [circE, if_neg c0, if_pos c1]; rfl, e1⟩
  ·
   refine cSkip (kSeqN ?_)
   refine cSeq (cSR ?_)
   refine sAn rfl ?_
   refine sN ?_
   refine cBlock ?_
   refine wpC_loop (fun k ρ m' => ∃ i, k = Gs.length - i ∧ i ≤ Gs.length ∧ (∀ (j : Nat) g', j < i → Gs[j]? = some g' → gateE n b g' = 0) ∧ Ext M m' ∧ Has ρ [(1, .pointer (some ⟨m.size, 0, none⟩)), (3, nv i)]) ⟨0, rfl, Nat.zero_le _, fun j g h => absurd h (by omega), .refl _, rfl, rfl, trivial⟩ ?_
   rintro k ρ m' ⟨i, rfl, hi, hr, hE, hh⟩
   rw [hh.env]; clear hh
   have g1' := hE.cells g1
   refine cSeq (cSR ?_)
   refine sMn rfl ?_
   refine sFA F30_2 rfl ?_
   refine sLd (v := .slice q Gs.length cap) A28 rfl g1' rfl ?_
   refine sLen T28 rfl ?_
   refine sBin rfl rfl (aInt_lss) ?_
   refine sN ?_
   refine cCond rfl (fun c2 => ?_) (fun c2 => ?_)
   ·
    obtain ⟨g, hgi⟩ : ∃ g, Gs[i]? = some g := ⟨_, List.getElem?_eq_getElem c2⟩
    obtain ⟨b2, cp2, r2, cc, qw, cw, ee, gb, hcs, hex, hws, hk⟩ := (hG.ext (e1.trans hE)).gate hgi
    cases ee
    refine cSkip (kSeqN ?_)
    refine cSeq (cBlock (cSeq ?_))
    refine cDraw rfl ?_
    refine sFA F30_2 rfl ?_
    refine sLd (v := .slice (some ⟨b2, 0, some 4⟩) Gs.length cap) A28 rfl g1' rfl ?_
    refine sMn rfl ?_
    refine sIx T28 S49 rfl rfl c2 ?_
    refine sLdA A49 S49 rfl gb (by omega) ?_
    rw [hex]
    refine sFA F30_0 rfl ?_
    refine sLd (v := .int .i64 n) A3 rfl g1' rfl ?_
    refine sFA F30_1 rfl ?_
    refine sLd (v := .int .i64 b) A3 rfl g1' rfl ?_
    obtain ⟨v33, m33, h33, rfl, e33⟩ := spec_rCheckGateI (n := n) (b := b) hws hk (by omega) (by omega) (by omega) (by omega)
    refine sCall3 rfl call134 rfl rfl rfl h33 ?_
    refine sAn rfl ?_
    refine sN ?_
    refine cSR ?_
    refine sMn rfl ?_
    refine sBin (a := gateE n b g) (b := 0) rfl rfl aInt_neq ?_
    refine sN ?_
    refine cCond (p := gateE n b g ≠ 0) rfl (fun c3 => ?_) (fun c3 => ?_)
    ·
     refine cSR ?_
     refine sMn rfl ?_
     refine sAn rfl ?_
     refine sN ?_
     refine cRet (kBlkR (kSeqR (kSeqR (kBlkR (kSeqR ?_)))))
     refine ⟨.inr rfl, _, rfl, ?_, (e1.trans hE).trans e33⟩
     rw [circE, if_neg c0, if_neg c1, gatesE_up hr hgi c3]; rfl
    ·
     refine cSkip (kBlkN (kSeqN ?_))
     refine cRegion ?_
     refine sMn rfl ?_
     refine sBin rfl rfl (aInt_add (b := 1) (by omega)) ?_
     refine sAn rfl ?_
     refine sN ?_
     refine ⟨_, ?_, i + 1, rfl, by omega, fun j g' hj hg => ?_, hE.trans e33, rfl, rfl, trivial⟩
     ·omega
     ·by_cases e : j = i
      ·subst e
       rw [hgi] at hg; cases hg
       exact Classical.byContradiction c3
      ·exact hr j g' (by omega) hg
   ·
    refine cExit (kSeqE (kSeqE (kBlkS (kSeqN ?_))))
    refine cSR ?_
    refine sAn rfl ?_
    refine sN ?_
    refine cRet ?_
    refine ⟨.inr rfl, _, rfl, ?_, e1.trans hE⟩
    rw [circE, if_neg c0, if_neg c1, gatesE_all.2 fun g hg => ?_]; rfl
    obtain ⟨j, hj⟩ := List.mem_iff_getElem?.1 hg
    exact hr j g (by have := (List.getElem?_eq_some_iff.1 hj).1; omega) hj
theorem okf31k : okF Tryd.prog H0 31 42 = true := by kernel_rfl
theorem spec_rCheck8I {m : Mem} {n b : Int} {s : Value} {Gs : List GateV} (hG : GsAt m s Gs) : ∃ v m', ACalls Tryd.prog 31 #[.agg #[.int .i64 n, .int .i64 b, s]] m v m' ∧ (v = nv (circ8E n b Gs) ∧ Ext m m') := by
 obtain ⟨q, cap, rfl⟩ := hG.len
 refine wpF (args := [_]) mixed okf31k (fn := Tryd.f31) rfl rfl rfl (by simp) ?_
 refine cSR ?_
 refine sBox (v := .agg _) rfl ?_
 change wpOps _ _ _ _ _ (m.push (.cells true #[.int .i64 n, .int .i64 b, .slice q Gs.length cap]))
 have e1 : Ext m (m.push (.cells true #[.int .i64 n, .int .i64 b, .slice q Gs.length cap])) := .push _ _
 have g1 : Mem.get (m.push (.cells true #[.int .i64 n, .int .i64 b, .slice q Gs.length cap])) m.size = .cells true #[.int .i64 n, .int .i64 b, .slice q Gs.length cap] := gP rfl
 generalize m.push (.cells true #[.int .i64 n, .int .i64 b, .slice q Gs.length cap]) = M at *
 refine sAn rfl ?_
 refine sN ?_
 refine cSeq (cSR ?_)
 refine sLdAll A30 S30 rfl g1 rfl ?_
 obtain ⟨v7, m7, h7, rfl, e7⟩ := spec_rCheck4I (n := n) (b := b) (hG.ext e1)
 refine sCall1 rfl call92 rfl h7 ?_
 have g7 := e7.cells g1
 refine sAn rfl ?_
 refine sN ?_
 refine cSR ?_
 refine sMn rfl ?_
 refine sBin (a := circE n b Gs) (b := 0) rfl rfl aInt_neq ?_
 refine sN ?_
 refine cCond (p := circE n b Gs ≠ 0) rfl (fun c0 => ?_) (fun c0 => ?_)
 ·
  refine cSR ?_
  refine sMn rfl ?_
  refine sAn rfl ?_
  refine sN ?_
  refine cRet (kSeqR ?_)
  exact ⟨.inr rfl, _, rfl, by rw [circ8E, if_pos c0]; rfl, e1.trans e7⟩
 ·
  refine cSkip (kSeqN ?_)
  refine cSeq (cSR ?_)
  refine sFA F30_2 rfl ?_
  refine sLd (v := .slice q Gs.length cap) A28 rfl g7 rfl ?_
  refine sLen T28 rfl ?_
  refine sMv (v := nv 0) rfl ?_
  refine sN ?_
  refine cBlock ?_
  refine wpC_loop (fun k ρ m' => ∃ i, k = Gs.length - i ∧ i ≤ Gs.length ∧ (∀ (j : Nat) g', j < i → Gs[j]? = some g' → clI g' = true) ∧ Ext M m' ∧ Has ρ [(12, .slice q Gs.length cap), (13, nv Gs.length), (14, nv i)]) ⟨0, rfl, Nat.zero_le _, fun j g h => absurd h (by omega), e7, rfl, rfl, rfl, trivial⟩ ?_
  rintro k ρ m' ⟨i, rfl, hi, hr, hE, hh⟩
  rw [hh.env]; clear hh
  have hl63 : Gs.length < 1000000 := by
   have h0 : circE n b Gs = 0 := Classical.byContradiction c0
   unfold circE at h0
   split at h0
   ·cases h0
   split at h0
   ·cases h0
   omega
  refine cSR ?_
  refine sBin rfl rfl (aInt_lss) ?_
  refine sN ?_
  refine cSeq ?_
  refine cCond rfl (fun c1 => ?_) (fun c1 => ?_)
  ·
   obtain ⟨g, hgi⟩ : ∃ g, Gs[i]? = some g := ⟨_, List.getElem?_eq_getElem c1⟩
   obtain ⟨b2, cp2, r2, cc, qw, cw, ee, gb, hcs, hex, hws, hk⟩ := (hG.ext (e1.trans hE)).gate hgi
   cases ee
   refine cSkip (kSeqN ?_)
   refine cSeq (cBlock (cSR ?_))
   refine sIx T28 S49 rfl rfl c1 ?_
   refine sLdA A49 S49 rfl gb (by omega) ?_
   rw [hex]
   refine sAllocB (bl := m'.size) rfl Z49 (by kernel_rfl) ?_
   refine sStNAB rfl S49 rfl rfl rfl rfl (by kernel_rfl) ?_
   have eg : Ext m' (m'.push (.cells true #[.int .i64 g.1, .slice qw g.2.1.length cw, .int .i64 g.2.2.1, .int .i64 g.2.2.2])) := .push _ _
   have gg : Mem.get (m'.push (.cells true #[.int .i64 g.1, .slice qw g.2.1.length cw, .int .i64 g.2.2.1, .int .i64 g.2.2.2])) m'.size = .cells true #[.int .i64 g.1, .slice qw g.2.1.length cw, .int .i64 g.2.2.1, .int .i64 g.2.2.2] := gP rfl
   generalize m'.push (.cells true #[.int .i64 g.1, .slice qw g.2.1.length cw, .int .i64 g.2.2.1, .int .i64 g.2.2.2]) = M6 at *
   have hcl : clI g = true ↔ (g.2.2.2 = 0 ∧ (g.1 = 1 ∨ g.1 = 9 ∨ g.1 = 11 ∨ g.1 = 12)) := by
    simp only [clI, Bool.and_eq_true, Bool.or_eq_true, decide_eq_true_eq]
    constructor
    ·rintro ⟨((h | h) | h) | h, h0⟩ <;> simp [h, h0]
    ·rintro ⟨h0, h | h | h | h⟩ <;> simp [h, h0]
   refine sN ?_
   refine cCut (fun ρ m2 => M6 = m2 ∧ Has ρ [(12, .slice (some ⟨b2, 0, some 4⟩) Gs.length cap), (13, nv Gs.length), (14, nv i), (40, .bool (decide (¬ clI g = true)))]) ?_ ?_
   ·
    refine cRegion ?_
    refine sFA F49_3 rfl ?_
    refine sLd (v := .int .i64 g.2.2.2) A3 rfl gg rfl ?_
    refine sBinI (v := .bool (decide (g.2.2.2 ≠ 0))) (b := 0) rfl rfl aInt_neqI ?_
    refine sMb rfl ?_
    by_cases q1 : g.2.2.2 ≠ 0
    ·
     rw [decide_eq_true q1]
     refine sGT rfl rfl ?_
     refine sGT rfl rfl ?_
     refine sGT rfl rfl ?_
     refine sGT rfl rfl ?_
     refine sGnoU rfl rfl ?_
     refine sGnoU rfl rfl ?_
     refine sGnoU rfl rfl ?_
     refine sGT rfl rfl ?_
     refine sGT rfl rfl ?_
     refine sGnoU rfl rfl ?_
     refine sGnoU rfl rfl ?_
     refine sGnoU rfl rfl ?_
     refine sGT rfl rfl ?_
     refine sGT rfl rfl ?_
     refine sGnoU rfl rfl ?_
     refine sGnoU rfl rfl ?_
     refine sGnoU rfl rfl ?_
     refine sGT rfl rfl ?_
     refine sPb rfl ?_
     refine sN ?_
     exact ⟨rfl, rfl, rfl, rfl, by rw [show decide (¬ clI g = true) = true from decide_eq_true (by rw [hcl]; omega)]; rfl, trivial⟩
    ·
     rw [decide_eq_false q1]
     refine sG rfl rfl ?_
     refine sFA F49_0 rfl ?_
     refine sG rfl rfl ?_
     refine sLd (v := .int .i64 g.1) A3 rfl gg rfl ?_
     refine sG rfl rfl ?_
     refine sBinI (v := .bool (decide (g.1 ≠ 1))) (b := 1) rfl rfl aInt_neqI ?_
     refine sG rfl rfl ?_
     refine sMb rfl ?_
     by_cases k1 : g.1 ≠ 1
     ·
      rw [decide_eq_true k1]
      refine sG rfl rfl ?_
      refine sFA F49_0 rfl ?_
      refine sG rfl rfl ?_
      refine sLd (v := .int .i64 g.1) A3 rfl gg rfl ?_
      refine sG rfl rfl ?_
      refine sBinI (v := .bool (decide (g.1 ≠ 9))) (b := 9) rfl rfl aInt_neqI ?_
      refine sG rfl rfl ?_
      refine sPb rfl ?_
      refine sG rfl rfl ?_
      refine sMb rfl ?_
      by_cases k2 : g.1 ≠ 9
      ·
       rw [decide_eq_true k2]
       refine sG rfl rfl ?_
       refine sFA F49_0 rfl ?_
       refine sG rfl rfl ?_
       refine sLd (v := .int .i64 g.1) A3 rfl gg rfl ?_
       refine sG rfl rfl ?_
       refine sBinI (v := .bool (decide (g.1 ≠ 11))) (b := 11) rfl rfl aInt_neqI ?_
       refine sG rfl rfl ?_
       refine sPb rfl ?_
       refine sG rfl rfl ?_
       refine sMb rfl ?_
       by_cases k3 : g.1 ≠ 11
       ·
        rw [decide_eq_true k3]
        refine sG rfl rfl ?_
        refine sFA F49_0 rfl ?_
        refine sG rfl rfl ?_
        refine sLd (v := .int .i64 g.1) A3 rfl gg rfl ?_
        refine sG rfl rfl ?_
        refine sBinI (v := .bool (decide (g.1 ≠ 12))) (b := 12) rfl rfl aInt_neqI ?_
        refine sG rfl rfl ?_
        refine sPb rfl ?_
        refine sPb rfl ?_
        refine sN ?_
        exact ⟨rfl, rfl, rfl, rfl, by rw [show decide (¬ clI g = true) = decide (g.1 ≠ 12) from decide_eq_decide.2 (by rw [hcl]; omega)]; rfl, trivial⟩
       ·
        rw [decide_eq_false k3]
        refine sGF rfl rfl ?_
        refine sGF rfl rfl ?_
        refine sGF rfl rfl ?_
        refine sG rfl rfl ?_
        refine sPb rfl ?_
        refine sPb rfl ?_
        refine sN ?_
        exact ⟨rfl, rfl, rfl, rfl, by rw [show decide (¬ clI g = true) = false from decide_eq_false (by rw [hcl]; omega)]; rfl, trivial⟩
      ·
       rw [decide_eq_false k2]
       refine sGF rfl rfl ?_
       refine sGF rfl rfl ?_
       refine sGF rfl rfl ?_
       refine sG rfl rfl ?_
       refine sPb rfl ?_
       refine sG rfl rfl ?_
       refine sMb rfl ?_
       refine sGF rfl rfl ?_
       refine sGF rfl rfl ?_
       refine sGF rfl rfl ?_
       refine sG rfl rfl ?_
       refine sPb rfl ?_
       refine sPb rfl ?_
       refine sN ?_
       exact ⟨rfl, rfl, rfl, rfl, by rw [show decide (¬ clI g = true) = false from decide_eq_false (by rw [hcl]; omega)]; rfl, trivial⟩
     ·
      rw [decide_eq_false k1]
      refine sGF rfl rfl ?_
      refine sGF rfl rfl ?_
      refine sGF rfl rfl ?_
      refine sG rfl rfl ?_
      refine sPb rfl ?_
      refine sG rfl rfl ?_
      refine sMb rfl ?_
      refine sGF rfl rfl ?_
      refine sGF rfl rfl ?_
      refine sGF rfl rfl ?_
      refine sG rfl rfl ?_
      refine sPb rfl ?_
      refine sG rfl rfl ?_
      refine sMb rfl ?_
      refine sGF rfl rfl ?_
      refine sGF rfl rfl ?_
      refine sGF rfl rfl ?_
      refine sG rfl rfl ?_
      refine sPb rfl ?_
      refine sPb rfl ?_
      refine sN ?_
      exact ⟨rfl, rfl, rfl, rfl, by rw [show decide (¬ clI g = true) = false from decide_eq_false (by rw [hcl]; omega)]; rfl, trivial⟩
   rintro ρ _ ⟨rfl, hh⟩
   rw [hh.env]; clear hh
   refine cCond (p := ¬ clI g = true) rfl (fun c2 => ?_) (fun c2 => ?_)
   ·
    refine cSR ?_
    refine sAs (v := nv 7) rfl ?_
    refine sN ?_
    refine cRet (kBlkR (kSeqR (kSeqR (kBlkR (kSeqR ?_)))))
    refine ⟨.inr rfl, _, rfl, ?_, e1.trans (hE.trans eg)⟩
    rw [circ8E, if_neg c0, if_neg (fun h => c2 (List.all_eq_true.1 h g (List.mem_of_getElem? hgi)))]; rfl
   ·
    refine cSkip (kBlkN (kSeqN ?_))
    refine cRegion ?_
    refine sBin rfl rfl (aInt_add (b := 1) (by omega)) ?_
    refine sMn rfl ?_
    refine sN ?_
    refine ⟨_, ?_, i + 1, rfl, by omega, fun j g' hj hg => ?_, hE.trans eg, rfl, rfl, rfl, trivial⟩
    ·omega
    ·by_cases e : j = i
     ·subst e
      rw [hgi] at hg; cases hg
      exact Classical.byContradiction c2
     ·exact hr j g' (by omega) hg
  ·
   refine cExit (kSeqE (kSeqE (kBlkS (kSeqN ?_))))
   refine cSR ?_
   refine sAn rfl ?_
   refine sN ?_
   refine cRet ?_
   refine ⟨.inr rfl, _, rfl, ?_, e1.trans hE⟩
   rw [circ8E, if_neg c0, if_pos (List.all_eq_true.2 fun g hg => ?_)]; rfl
   obtain ⟨j, hj⟩ := List.mem_iff_getElem?.1 hg
   exact hr j g (by have := (List.getElem?_eq_some_iff.1 hj).1; omega) hj
end Go.AM
