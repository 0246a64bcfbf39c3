/- Part 8 of the proof: Plain laws, and contracts of the program's functions. -/
import Derived.Test.YtdokoekgdeebpaaDoorPartG
import Derived.Test.YtdokoekgdeebpaaDoorPartF
import Derived.ChangeSlices
import Derived.WideShapes
import Derived.OpenShut
set_option linter.unusedVariables false
set_option linter.unusedSimpArgs false
set_option maxRecDepth 100000
/-! F52 -/
namespace Go.AM
open Go Go.Proofs Go.Proofs.YtdokoekgdeebpaaDoor Go.RowKit Go.ChangeShapes Go.WideShapes
/-- A slice of whole numbers of a kind, readable. -/
def KAt (k : IntKind) (m : Mem) (v : Value) (l : List Int) : Prop :=
  (l = [] ∧ (v = .slice none 0 0 ∨ ∃ b o, v = .slice (some ⟨b, o, none⟩) 0 0)) ∨
  ∃ b o cap r c, v = .slice (some ⟨b, o, some 1⟩) l.length cap ∧ l.length ≤ cap ∧ Mem.get m b = .cells r c ∧ ∀ i x, l[i]? = some x → c[o + i]? = some (.int k x)
theorem KAt.ints {m : Mem} {v : Value} {l : List Int} (h : KAt .i64 m v l) : IntsAt m v l := by
 rcases h with h | ⟨b, o, cap, r, c, h1, _, h2, h3⟩
 ·exact .inl h
 ·exact .inr ⟨b, o, cap, r, c, h1, h2, h3⟩
theorem cell_heap {W : World} {a : Addr} {v : Value} (h : W.cell? a = some v) : a.spot = none ∧ ∃ c t fz, W.heap[a.block]? = some (.cells c t fz) ∧ c[a.off]? = some v := by
 unfold World.cell? at h
 split at h
 ·rename_i c t fz e
  split at h
  ·cases h
  ·rename_i hs
   exact ⟨by simpa using hs, c, t, fz, e, h⟩
 ·cases h
theorem add_block (a : Addr) (n : Nat) : (a.add n).block = a.block := by unfold Addr.add; split <;> rfl
theorem add0 (a : Addr) : a.add 0 = a := if_pos rfl
theorem add_off {a : Addr} {n : Nat} (h : a.spot = none) : (a.add n).off = a.off + n := by
 unfold Addr.add
 split <;> simp_all
theorem mem0_arg {A : List Arg0} {i : Nat} {a : Arg0} (h : A[i]? = some a) (hn : a.es = none) : Mem.get (mem0 A) (3 + i) = .cells false a.cs := by
 obtain ⟨hi, e⟩ := List.getElem?_eq_some_iff.1 h
 rw [mem0_get, if_neg (by omega), if_neg (by omega), if_neg (by omega), dif_pos (by omega)]
 simp only [Nat.add_sub_cancel_left, e, Arg0.obj, hn]
theorem beta0_arg {A : List Arg0} {i : Nat} {a : Arg0} (h : A[i]? = some a) : (beta0 A).blk (3 + i) = a.blk ∧ (beta0 A).sh (3 + i) = a.off ∧ (beta0 A).cap (3 + i) = a.off + max a.cs.size a.cap := by
 have e : A.getD (3 + i - 3) arg0 = a := by rw [Nat.add_sub_cancel_left, List.getD_eq_getElem?_getD, h]; rfl
 refine ⟨?_, ?_, ?_⟩
 ·simp only [beta0]; rw [if_neg (by omega), e]
 ·simp only [beta0]; rw [if_neg (by omega), e]
 ·simp only [beta0]; rw [if_neg (by omega), e]
/-- The blocks of an argument lie from a place on. -/
def PartAt (A : List Arg0) (pos : Nat) (B : List Arg0) : Prop := ∀ (j : Nat) a, B[j]? = some a → A[pos + j]? = some a
theorem part_left {X Y B : List Arg0} {pos : Nat} (h : PartAt X pos B) : PartAt (X ++ Y) pos B := fun j a hj => by
 have := h j a hj
 rw [List.getElem?_append_left (List.getElem?_eq_some_iff.1 this).1]; exact this
theorem part_right {X Y : List Arg0} {pos : Nat} (h : X.length = pos) : PartAt (X ++ Y) pos Y := fun j a hj => by
 subst h
 rw [List.getElem?_append_right (by omega), Nat.add_sub_cancel_left]; exact hj
/-- A slice of whole numbers that is read: its block, what it holds, its abstract value by the place of its block. -/
structure RowP (W : World) (k : IntKind) (s : Value) where
  a : Arg0
  l : List Int
  f : Nat → Value
  ok : ∀ A : List Arg0, a.ok W A
  wf : ∀ n ∈ l, (Lit.int k n).wf = true
  rel : ∀ (A : List Arg0) (i : Nat), A[i]? = some a → KAt k (mem0 A) (f i) l ∧ VRel (beta0 A) (3 + A.length) (f i) s
theorem ok0 {W : World} (hL : laidMetH Tryd.prog laid1 W) (A : List Arg0) : Arg0.ok W A ⟨1, 0, 0, #[], none⟩ := by
 obtain ⟨c0, t0, fz0, _, _, _, h0, _⟩ := of_laid0 hL
 exact ⟨fun _ => ⟨c0, t0, fz0, h0, fun i v h => by simp at h⟩, fun es h => by cases h⟩
theorem row_of {H : Type} {enc : TypeId × Value → H} {W : World} {k : IntKind} {t e : TypeId} {s : Value} {fuel : Nat} {x : DataW H × List MemPlace} (hL : laidMetH Tryd.prog laid1 W)
  (ht : Tryd.prog.underlying t = some (.slice e)) (he : Tryd.prog.underlying e = some (.int k)) (hc : Tryd.prog.cellsOf e = 1)
  (hd : DataW.trod enc Tryd.prog W 0 (fun _ => true) true fuel t [s] = some x) : Nonempty (RowP W k s) := by
 rcases open_ints ht he hc hd with ⟨hcs, _⟩ | ⟨x, ln, cp, zs, hcs, _, hl, hm, hz, _, hcell, hwz⟩
 ·simp at hcs
  subst hcs
  exact ⟨⟨_, [], fun _ => .slice none 0 0, ok0 hL, by simp, fun A i _ => ⟨.inl ⟨rfl, .inl rfl⟩, .sliceNil⟩⟩⟩
 ·simp at hcs
  subst hcs
  rw [if_pos rfl] at hz
  by_cases h0 : ln = 0
  ·subst h0
   exact ⟨⟨_, [], fun _ => .slice (some ⟨0, 0, none⟩) 0 0, ok0 hL, by simp, fun A i _ => ⟨.inl ⟨rfl, .inr ⟨_, _, rfl⟩⟩, .lost _ _ _ trivial⟩⟩⟩
  ·obtain ⟨hsp, c, t1, fz, hh, _⟩ := cell_heap (hcell 0 (by omega))
   rw [add0] at hsp
   rw [add_block] at hh
   have hcs : ∀ j, j < ln → c[x.off + j]? = some (.int k (zs.getD j 0)) := fun j hj => by
    obtain ⟨_, c', t2, fz2, h2, h3⟩ := cell_heap (hcell j (by omega))
    rw [add_block, hh] at h2
    obtain ⟨rfl, rfl, rfl⟩ : c = c' ∧ t1 = t2 ∧ fz = fz2 := by injection h2 with h2; injection h2 with a b c; exact ⟨a, b, c⟩
    rwa [add_off hsp] at h3
   have hlz : (zs.take ln).length = ln := by rw [List.length_take]; omega
   refine ⟨⟨⟨x.block, x.off, cp, ((zs.take ln).map fun n => Value.int k n).toArray, none⟩, zs.take ln, fun i => .slice (some ⟨3 + i, 0, some 1⟩) ln cp, fun A => ⟨fun _ => ⟨c, t1, fz, hh, fun j y hy => ?_⟩, fun es h => by cases h⟩, fun n hn => hwz n (List.mem_of_mem_take hn), fun A i hA => ⟨?_, ?_⟩⟩⟩
   ·simp only [List.getElem?_toArray, List.getElem?_map, Option.map_eq_some_iff] at hy
    obtain ⟨n, hn, rfl⟩ := hy
    rw [List.getElem?_take] at hn
    split at hn
    ·refine ⟨_, ?_, .int _ _⟩
     rw [hcs j (by assumption), List.getD_eq_getElem?_getD, hn]; rfl
    ·cases hn
   ·refine .inr ⟨3 + i, 0, cp, false, _, by rw [hlz], by rw [hlz]; exact hl, mem0_arg hA rfl, fun j n hn => ?_⟩
    simp only [List.getElem?_toArray, List.getElem?_map, hn, Option.map_some, Nat.zero_add]
   ·obtain ⟨e1, e2, e3⟩ := beta0_arg hA
    have hi := (List.getElem?_eq_some_iff.1 hA).1
    have := VRel.slice (β := beta0 A) (N := 3 + A.length) (3 + i) 0 1 ln cp cp (by omega) (by omega) hl (Nat.le_refl _) (by rw [e2, e3]; simp only; omega) (by unfold maxLen at hm; omega)
    rw [e1, e2] at this
    obtain ⟨xb, xo, xs⟩ := x
    obtain rfl : xs = none := hsp
    exact this
/-- An argument that is a slice of whole numbers. -/
theorem ints_arg {H : Type} {enc : TypeId × Value → H} {W : World} {k : IntKind} {t e : TypeId} {r : Reach} {base : Nat} {v : Value} {d : DataW H} {p : List MemPlace} (hL : laidMetH Tryd.prog laid1 W)
  (ht : Tryd.prog.underlying t = some (.slice e)) (he : Tryd.prog.underlying e = some (.int k)) (hc : Tryd.prog.cellsOf e = 1)
  (hval : Value.okWide Tryd.prog W r base t v) (hd : DataW.Trod enc Tryd.prog W 0 (fun _ => true) true t v d p) :
  ∃ (L : Nat) (B : Nat → List Arg0) (l : List Int) (f : Nat → Value), (∀ pos, (B pos).length = L) ∧ (∀ n ∈ l, (Lit.int k n).wf = true) ∧
   ∀ (A : List Arg0) (pos : Nat), PartAt A pos (B pos) → (∀ a ∈ B pos, a.ok W A) ∧ KAt k (mem0 A) (f pos) l ∧ VRel (beta0 A) (3 + A.length) (f pos) v := by
 obtain ⟨q, len, cap, rfl⟩ := okWide_slice ht hval
 obtain ⟨fuel, hf⟩ := hd
 obtain ⟨R⟩ := row_of hL ht he hc hf
 refine ⟨1, fun _ => [R.a], R.l, R.f, fun _ => rfl, R.wf, fun A pos hp => ⟨fun a ha => ?_, R.rel A pos (hp 0 _ rfl)⟩⟩
 rw [List.mem_singleton.1 ha]; exact R.ok A
theorem u22 : Tryd.prog.underlying 22 = some (.slice 3) := by kernel_rfl
theorem c3 : Tryd.prog.cellsOf 3 = 1 := by kernel_rfl
theorem c5 : Tryd.prog.cellsOf 5 = 1 := by kernel_rfl
theorem laidOut : laidOutB Tryd.prog = true := by kernel_rfl
end Go.AM
namespace Go.AM
theorem KAt.capOk {k : IntKind} {m : Mem} {v : Value} {l : List Int} (h : KAt k m v l) : CapOk v := by
 intro q n c e
 rcases h with ⟨_, rfl | ⟨b, o, rfl⟩⟩ | ⟨b, o, cap, r, cc, rfl, h1, _⟩
 ·cases e; exact Nat.le_refl _
 ·cases e; exact Nat.le_refl _
 ·cases e; exact h1
end Go.AM

/-! F53 -/
namespace Go.AM
open Go Go.Proofs Go.Proofs.YtdokoekgdeebpaaDoor Go.RowKit Go.ChangeShapes Go.WideShapes
theorem c66 : Tryd.prog.cellsOf 66 = 3 := by kernel_rfl
theorem u3' : Tryd.prog.underlying 3 = some (.int .i64) := by kernel_rfl
theorem part_app {A B C : List Arg0} {pos L : Nat} (h : PartAt A pos (B ++ C)) (hL : B.length = L) : PartAt A pos B ∧ PartAt A (pos + L) C := by
 subst hL
 refine ⟨fun j a hj => h j a ?_, fun j a hj => ?_⟩
 ·rw [List.getElem?_append_left (List.getElem?_eq_some_iff.1 hj).1]; exact hj
 ·rw [Nat.add_assoc]
  refine h _ a ?_
  rw [List.getElem?_append_right (by omega), Nat.add_sub_cancel_left]; exact hj
end Go.AM

/-! F54 -/
namespace Go.AM
open Go Go.Proofs Go.Proofs.YtdokoekgdeebpaaDoor Go.RowKit Go.ChangeShapes Go.WideShapes
theorem kind_key {x : Value × Value} (h : IsKind x.1 x.2) : ∃ z : Int, x.1 = .int .i64 z ∧ (z = 1 ∨ z = 9 ∨ z = 11 ∨ z = 12) := by
 rcases h with h | h | h | h
 ·exact ⟨1, h.1, .inl rfl⟩
 ·exact ⟨9, h.1, .inr (.inl rfl)⟩
 ·exact ⟨11, h.1, .inr (.inr (.inl rfl))⟩
 ·exact ⟨12, h.1, .inr (.inr (.inr rfl))⟩
theorem find_any {k : Int} : ∀ {es : List (Value × Value)} (i : Nat), (∀ x ∈ es, IsKind x.1 x.2) → (∃ x ∈ es, x.1 = .int .i64 k) → ∃ j x, aFindNow (.int .i64) (.int .i64 k) es i = some (some (j, x.2)) ∧ x ∈ es ∧ x.1 = .int .i64 k
 | [], i, _, ⟨x, hx, _⟩ => by cases hx
 | e :: es, i, h1, h2 => by
  obtain ⟨z, hz, _⟩ := kind_key (h1 e (by simp))
  rw [aFindNow, hz, sameI]
  by_cases e1 : k = z
  ·subst e1
   rw [decide_eq_true rfl]
   exact ⟨i, e, rfl, by simp, hz⟩
  ·rw [decide_eq_false e1]
   obtain ⟨x, hx, e2⟩ := h2
   rcases List.mem_cons.1 hx with rfl | hx
   ·rw [hz] at e2; exact absurd (Value.int.inj e2).2.symm e1
   ·obtain ⟨j, y, q1, q2, q3⟩ := find_any (k := k) (i + 1) (fun x hx => h1 x (by simp [hx])) ⟨x, hx, e2⟩
    exact ⟨j, y, q1, by simp [q2], q3⟩
theorem find_noK {k : Int} : ∀ {es : List (Value × Value)} (i : Nat), (∀ x ∈ es, IsKind x.1 x.2) → ¬ (k = 1 ∨ k = 9 ∨ k = 11 ∨ k = 12) → aFindNow (.int .i64) (.int .i64 k) es i = some none
 | [], i, _, _ => rfl
 | e :: es, i, h1, h2 => by
  obtain ⟨z, hz, hz2⟩ := kind_key (h1 e (by simp))
  rw [aFindNow, hz, sameI, decide_eq_false (by rintro rfl; exact h2 hz2)]
  exact find_noK (i + 1) (fun x hx => h1 x (by simp [hx])) h2
theorem kind_val {k : Int} {x : Value × Value} (h : IsKind x.1 x.2) (hk : x.1 = .int .i64 k) : ∃ c, x.2 = .agg #[nv c, .func (.func (opK k)) #[] #[]] := by
 rcases h with ⟨a, b⟩ | ⟨a, b⟩ | ⟨a, b⟩ | ⟨a, b⟩
 ·obtain rfl : 1 = k := (Value.int.inj (a.symm.trans hk)).2
  exact ⟨0, b⟩
 ·obtain rfl : 9 = k := (Value.int.inj (a.symm.trans hk)).2
  exact ⟨1, b⟩
 ·obtain rfl : 11 = k := (Value.int.inj (a.symm.trans hk)).2
  exact ⟨0, b⟩
 ·obtain rfl : 12 = k := (Value.int.inj (a.symm.trans hk)).2
  exact ⟨2, b⟩
theorem globK0 {W : World} {a : Arg0} (h : Kinds W a) {A : List Arg0} (hA : A[0]? = some a) : GlobK (mem0 A) := by
 obtain ⟨es, he, h1, h2⟩ := h.es
 obtain ⟨hl, e0⟩ := List.getElem?_eq_some_iff.1 hA
 have hfind : ∀ k : Int, (k = 1 ∨ k = 9 ∨ k = 12 ∨ k = 11) → ∃ i c, aFindNow (.int .i64) (.int .i64 k) es 0 = some (some (i, .agg #[nv c, .func (.func (opK k)) #[] #[]])) := fun k hk => by
  obtain ⟨j, x, q1, q2, q3⟩ := find_any (k := k) 0 h1 (h2 k hk)
  obtain ⟨c, hc⟩ := kind_val (h1 x q2) q3
  exact ⟨j, c, by rw [q1, hc]⟩
 refine ⟨false, 3, false, es, by rw [mem0_get]; rfl, ?_, fun k hk => ?_, ?_, fun k hk => find_noK 0 h1 hk⟩
 ·rw [mem0_get, if_neg (by omega), if_neg (by omega), if_neg (by omega), dif_pos (by omega)]
  rw [show A[3 - 3] = a from e0, Arg0.obj, he]
 ·have := hfind k (by omega)
  rwa [show opK k = 76 from if_neg (by omega)] at this
 ·exact hfind 11 (by omega)
noncomputable def fs30 : Array Field := match Tryd.prog.underlying 30 with
  | some (.struct fs) => fs
  | _ => #[]
theorem u30 : Tryd.prog.underlying 30 = some (.struct fs30) := by kernel_rfl
theorem f30 : fs30.toList.map (fun f => (f.type, f.offset)) = [(3, 0), (3, 1), (28, 2)] := by kernel_rfl
noncomputable def fs49 : Array Field := match Tryd.prog.underlying 49 with
  | some (.struct fs) => fs
  | _ => #[]
theorem u49 : Tryd.prog.underlying 49 = some (.struct fs49) := by kernel_rfl
theorem f49 : fs49.toList.map (fun f => (f.type, f.offset)) = [(3, 0), (22, 1), (3, 2), (3, 3)] := by kernel_rfl
theorem u28 : Tryd.prog.underlying 28 = some (.slice 49) := by kernel_rfl
theorem c30 : Tryd.prog.cellsOf 30 = 3 := by kernel_rfl
theorem c49 : Tryd.prog.cellsOf 49 = 4 := by kernel_rfl
theorem c28 : Tryd.prog.cellsOf 28 = 1 := by kernel_rfl
theorem c22 : Tryd.prog.cellsOf 22 = 1 := by kernel_rfl
theorem fs30_get {i : Nat} {t o : Nat} (h : [(3, 0), (3, 1), (28, 2)][i]? = some (t, o)) : ∃ f, fs30[i]? = some f ∧ f.type = t ∧ f.offset = o := by
 rw [← f30, List.getElem?_map, Option.map_eq_some_iff] at h
 obtain ⟨f, h1, h2⟩ := h
 exact ⟨f, by simpa using h1, congrArg Prod.fst h2, congrArg Prod.snd h2⟩
theorem fs49_get {i : Nat} {t o : Nat} (h : [(3, 0), (22, 1), (3, 2), (3, 3)][i]? = some (t, o)) : ∃ f, fs49[i]? = some f ∧ f.type = t ∧ f.offset = o := by
 rw [← f49, List.getElem?_map, Option.map_eq_some_iff] at h
 obtain ⟨f, h1, h2⟩ := h
 exact ⟨f, by simpa using h1, congrArg Prod.fst h2, congrArg Prod.snd h2⟩
/-- A circuit's three cells. -/
theorem open_circ3 {H : Type} {enc : TypeId × Value → H} {W : World} {fuel : Nat} {cs : List Value} {x : DataW H × List MemPlace} (h : DataW.trod enc Tryd.prog W 0 (fun _ => true) true fuel 30 cs = some x) :
  ∃ (k v : Int) (s : Value) (n : Nat) (y : DataW H × List MemPlace), fuel = n + 1 ∧ cs = [.int .i64 k, .int .i64 v, s] ∧ DataW.trod enc Tryd.prog W 0 (fun _ => true) true n 28 [s] = some y := by
 obtain ⟨xs, n, rfl, _, hl, hlx, hx⟩ := DataW.trod_struct u30 h
 have hsz : fs30.size = 3 := by have := congrArg List.length f30; simpa using this
 rw [c30] at hl
 obtain ⟨a, b, c, rfl⟩ : ∃ a b c, cs = [a, b, c] := by
  match cs, hl with
  | [a, b, c], _ => exact ⟨a, b, c, rfl⟩
 obtain ⟨y0, y1, y2, rfl⟩ : ∃ a b c, xs = [a, b, c] := by
  rw [hsz] at hlx
  match xs, hlx with
  | [a, b, c], _ => exact ⟨a, b, c, rfl⟩
 obtain ⟨g0, e0, t0, o0⟩ := fs30_get (i := 0) rfl
 obtain ⟨g1, e1, t1, o1⟩ := fs30_get (i := 1) rfl
 obtain ⟨g2, e2, t2, o2⟩ := fs30_get (i := 2) rfl
 have h0 := hx 0 g0 e0
 have h1 := hx 1 g1 e1
 have h2 := hx 2 g2 e2
 rw [t0, o0, c3] at h0
 rw [t1, o1, c3] at h1
 rw [t2, o2, c28] at h2
 obtain ⟨k, hk, _⟩ := DataW.trod_int u3' h0
 obtain ⟨v, hv, _⟩ := DataW.trod_int u3' h1
 simp at hk hv
 subst hk hv
 exact ⟨k, v, c, n, y2, rfl, rfl, h2⟩
/-- A gate's four cells. -/
theorem open_gate4 {H : Type} {enc : TypeId × Value → H} {W : World} {fuel : Nat} {cs : List Value} {x : DataW H × List MemPlace} (h : DataW.trod enc Tryd.prog W 0 (fun _ => true) true fuel 49 cs = some x) :
  ∃ (k bt cf : Int) (s : Value) (n : Nat) (y : DataW H × List MemPlace), cs = [.int .i64 k, s, .int .i64 bt, .int .i64 cf] ∧ DataW.trod enc Tryd.prog W 0 (fun _ => true) true n 22 [s] = some y := by
 obtain ⟨xs, n, rfl, _, hl, hlx, hx⟩ := DataW.trod_struct u49 h
 have hsz : fs49.size = 4 := by have := congrArg List.length f49; simpa using this
 rw [c49] at hl
 obtain ⟨a, b, c, d, rfl⟩ : ∃ a b c d, cs = [a, b, c, d] := by
  match cs, hl with
  | [a, b, c, d], _ => exact ⟨a, b, c, d, rfl⟩
 obtain ⟨y0, y1, y2, y3, rfl⟩ : ∃ a b c d, xs = [a, b, c, d] := by
  rw [hsz] at hlx
  match xs, hlx with
  | [a, b, c, d], _ => exact ⟨a, b, c, d, rfl⟩
 obtain ⟨g0, e0, t0, o0⟩ := fs49_get (i := 0) rfl
 obtain ⟨g1, e1, t1, o1⟩ := fs49_get (i := 1) rfl
 obtain ⟨g2, e2, t2, o2⟩ := fs49_get (i := 2) rfl
 obtain ⟨g3, e3, t3, o3⟩ := fs49_get (i := 3) rfl
 have h0 := hx 0 g0 e0
 have h1 := hx 1 g1 e1
 have h2 := hx 2 g2 e2
 have h3 := hx 3 g3 e3
 rw [t0, o0, c3] at h0
 rw [t1, o1, c22] at h1
 rw [t2, o2, c3] at h2
 rw [t3, o3, c3] at h3
 obtain ⟨k, hk, _⟩ := DataW.trod_int u3' h0
 obtain ⟨bt, hb, _⟩ := DataW.trod_int u3' h2
 obtain ⟨cf, hc, _⟩ := DataW.trod_int u3' h3
 simp at hk hb hc
 subst hk hb hc
 exact ⟨k, bt, cf, b, n, y1, rfl, h1⟩
def gateCells (Gs : List GateV) (ws : Nat → Value) : Array Value := ((List.range (Gs.length * 4)).map fun i => if i % 4 = 0 then .int .i64 (Gs.getD (i / 4) (0, [], 0, 0)).1 else if i % 4 = 1 then ws (i / 4) else if i % 4 = 2 then .int .i64 (Gs.getD (i / 4) (0, [], 0, 0)).2.2.1 else .int .i64 (Gs.getD (i / 4) (0, [], 0, 0)).2.2.2).toArray
theorem gateCells_size (Gs : List GateV) (ws : Nat → Value) : (gateCells Gs ws).size = Gs.length * 4 := by simp [gateCells]
theorem gateCells_get {Gs : List GateV} {ws : Nat → Value} {i : Nat} {g : GateV} (h : Gs[i]? = some g) : (gateCells Gs ws)[i * 4]? = some (.int .i64 g.1) ∧ (gateCells Gs ws)[i * 4 + 1]? = some (ws i) ∧ (gateCells Gs ws)[i * 4 + 2]? = some (.int .i64 g.2.2.1) ∧ (gateCells Gs ws)[i * 4 + 3]? = some (.int .i64 g.2.2.2) := by
 have hl := (List.getElem?_eq_some_iff.1 h).1
 have hd : Gs.getD i (0, [], 0, 0) = g := by rw [List.getD_eq_getElem?_getD, h]; rfl
 have key : ∀ j, j < Gs.length * 4 → (gateCells Gs ws)[j]? = some (if j % 4 = 0 then .int .i64 (Gs.getD (j / 4) (0, [], 0, 0)).1 else if j % 4 = 1 then ws (j / 4) else if j % 4 = 2 then .int .i64 (Gs.getD (j / 4) (0, [], 0, 0)).2.2.1 else .int .i64 (Gs.getD (j / 4) (0, [], 0, 0)).2.2.2) := fun j hj => by
  unfold gateCells
  rw [List.getElem?_toArray, List.getElem?_map, List.getElem?_range hj]; rfl
 refine ⟨?_, ?_, ?_, ?_⟩
 ·rw [key _ (by omega), if_pos (by omega), show i * 4 / 4 = i by omega, hd]
 ·rw [key _ (by omega), if_neg (by omega), if_pos (by omega), show (i * 4 + 1) / 4 = i by omega]
 ·rw [key _ (by omega), if_neg (by omega), if_neg (by omega), if_pos (by omega), show (i * 4 + 2) / 4 = i by omega, hd]
 ·rw [key _ (by omega), if_neg (by omega), if_neg (by omega), if_neg (by omega), show (i * 4 + 3) / 4 = i by omega, hd]
theorem cells4 {W : World} {b o : Nat} {cs : List Value} (h : W.cells? 0 ⟨b, o, none⟩ 4 = some cs) : ∃ x y z u, cs = [x, y, z, u] ∧ W.cell? ⟨b, o, none⟩ = some x ∧ W.cell? ⟨b, o + 1, none⟩ = some y ∧ W.cell? ⟨b, o + 2, none⟩ = some z ∧ W.cell? ⟨b, o + 3, none⟩ = some u := by
 unfold World.cells? at h
 rw [if_pos (Nat.zero_le _)] at h
 have hl := mapM_some_length h
 obtain ⟨x, y, z, u, rfl⟩ : ∃ a b c d, cs = [a, b, c, d] := by
  match cs, hl with
  | [a, b, c, d], _ => exact ⟨a, b, c, d, rfl⟩
 have g0 := mapM_some_get h 0 0 rfl
 have g1 := mapM_some_get h 1 1 rfl
 have g2 := mapM_some_get h 2 2 rfl
 have g3 := mapM_some_get h 3 3 rfl
 simp only [add_plain, Nat.add_zero] at g0 g1 g2 g3
 exact ⟨x, y, z, u, rfl, g0, g1, g2, g3⟩
/-- What is known of a row of gates: where their wires lie. -/
def GateP (W : World) (c : Array Value) (o i : Nat) (g : GateV) (a : Arg0) (f : Nat → Value) : Prop :=
  (∀ A : List Arg0, a.ok W A) ∧ ∃ s, c[o + i * 4]? = some (.int .i64 g.1) ∧ c[o + i * 4 + 1]? = some s ∧ c[o + i * 4 + 2]? = some (.int .i64 g.2.2.1) ∧ c[o + i * 4 + 3]? = some (.int .i64 g.2.2.2) ∧
    ∀ (A : List Arg0) (j : Nat), A[j]? = some a → KAt .i64 (mem0 A) (f j) g.2.1 ∧ VRel (beta0 A) (3 + A.length) (f j) s
/-- An argument that is a circuit. -/
theorem circ_arg {H : Type} {enc : TypeId × Value → H} {W : World} {r : Reach} {base : Nat} {v : Value} {d : DataW H} {p : List MemPlace} (hL : laidMetH Tryd.prog laid1 W)
  (hval : Value.okWide Tryd.prog W r base 30 v) (hd : DataW.Trod enc Tryd.prog W 0 (fun _ => true) true 30 v d p) :
  ∃ (L : Nat) (B : Nat → List Arg0) (n b : Int) (Gs : List GateV) (w : Nat → Value), (∀ pos, (B pos).length = L) ∧
   ∀ (A : List Arg0) (pos : Nat), PartAt A pos (B pos) → (∀ a ∈ B pos, a.ok W A) ∧ GsAt (mem0 A) (w pos) Gs ∧ VRel (beta0 A) (3 + A.length) (.agg #[.int .i64 n, .int .i64 b, w pos]) v := by
 obtain ⟨cs, rfl, _⟩ := okWide_struct u30 hval
 obtain ⟨fuel, hf⟩ := hd
 obtain ⟨n, b0, s, m, y, rfl, hcs, h2⟩ := open_circ3 hf
 obtain rfl : cs = #[.int .i64 n, .int .i64 b0, s] := by
  have : cs.toList = [.int .i64 n, .int .i64 b0, s] := hcs
  rw [← Array.toArray_toList (xs := cs), this]
 have aggR : ∀ (A : List Arg0) (w : Value), VRel (beta0 A) (3 + A.length) w s → VRel (beta0 A) (3 + A.length) (.agg #[.int .i64 n, .int .i64 b0, w]) (.agg #[.int .i64 n, .int .i64 b0, s]) := fun A w hw => by
  refine .agg _ _ rfl fun i v v' hv hv' => ?_
  match i with
  | 0 => simp at hv hv'; subst hv hv'; exact .int _ _
  | 1 => simp at hv hv'; subst hv hv'; exact .int _ _
  | 2 => simp at hv hv'; subst hv hv'; exact hw
  | i + 3 => simp at hv
 rcases DataW.trod_slice u28 h2 with ⟨hcs, _⟩ | ⟨a, len, cap, elems, rest, n', rfl, hcs, _, _, hl, hm, hlen, hel, _, _⟩
 ·obtain rfl : s = .slice none 0 0 := by simpa using hcs
  exact ⟨0, fun _ => [], n, b0, [], fun _ => .slice none 0 0, fun _ => rfl, fun A pos _ => ⟨fun a ha => (by cases ha), .inl ⟨rfl, .inl rfl⟩, aggR A _ .sliceNil⟩⟩
 ·obtain rfl : s = .slice (some a) len cap := by simpa using hcs
  rw [c49] at hel
  by_cases h0 : len = 0
  ·subst h0
   exact ⟨0, fun _ => [], n, b0, [], fun _ => .slice (some ⟨0, 0, none⟩) 0 0, fun _ => rfl, fun A pos _ => ⟨fun a ha => (by cases ha), .inl ⟨rfl, .inr ⟨_, _, rfl⟩⟩, aggR A _ (.lost _ _ _ trivial)⟩⟩
  have hel' : ∀ i, i < len → ∃ cs y, W.cells? 0 (a.add (i * 4)) 4 = some cs ∧ DataW.trod enc Tryd.prog W 0 (fun _ => true) true n' 49 cs = some y := fun i hi => by
   have h1 := hel i hi
   rw [List.getElem?_eq_getElem (by omega), Option.bind_eq_some_iff] at h1
   obtain ⟨cs, h1, h2⟩ := h1
   exact ⟨cs, _, h1, h2⟩
  obtain ⟨b, o, hsp⟩ := a
  obtain rfl : hsp = none := by
   obtain ⟨cs, y, h1, _⟩ := hel' 0 (by omega)
   rw [Nat.zero_mul, add0] at h1
   unfold World.cells? at h1
   rw [if_pos (Nat.zero_le _)] at h1
   have hl1 := mapM_some_length h1
   have g0 := mapM_some_get h1 0 0 rfl
   rw [add0, List.getElem?_eq_getElem (by rw [hl1]; decide)] at g0
   exact (cell_heap g0).1
  simp only [add_plain] at hel'
  have hblk : ∃ c t fz, W.heap[b]? = some (.cells c t fz) := by
   obtain ⟨cs, y, h1, _⟩ := hel' 0 (by omega)
   obtain ⟨x, y, z, u, _, g0, _⟩ := cells4 h1
   obtain ⟨_, c, t, fz, hh, _⟩ := cell_heap g0
   exact ⟨c, t, fz, hh⟩
  obtain ⟨c, t, fz, hh⟩ := hblk
  have hc : ∀ {j : Nat} {v : Value}, W.cell? ⟨b, j, none⟩ = some v → c[j]? = some v := fun {j v} hj => by
   obtain ⟨_, c', t', fz', h3, h4⟩ := cell_heap hj
   obtain ⟨rfl, rfl, rfl⟩ : c = c' ∧ t = t' ∧ fz = fz' := by
    have : W.heap[b]? = some (.cells c' t' fz') := h3
    rw [hh] at this; injection this with this; injection this with a b c; exact ⟨a, b, c⟩
   exact h4
  have hcomb : ∀ kk, kk ≤ len → ∃ (Gs : List GateV) (Rs : List Arg0) (fs : List (Nat → Value)), Gs.length = kk ∧ Rs.length = kk ∧ fs.length = kk ∧
    ∀ (i : Nat) (g : GateV), Gs[i]? = some g → ∃ a f, Rs[i]? = some a ∧ fs[i]? = some f ∧ GateP W c o i g a f := by
   intro kk
   induction kk with
   | zero => intro _; exact ⟨[], [], [], rfl, rfl, rfl, fun i g h => by simp at h⟩
   | succ kk ih =>
    intro hkk
    obtain ⟨Gs, Rs, fs, e1, e2, e3, e4⟩ := ih (by omega)
    obtain ⟨cs, y, h1, h2⟩ := hel' kk (by omega)
    obtain ⟨k, bt, cf, sw, n2, y2, rfl, h3⟩ := open_gate4 h2
    obtain ⟨x0, x1, x2, x3, hx, g0, g1, g2, g3⟩ := cells4 h1
    simp only [List.cons.injEq, and_true] at hx
    obtain ⟨rfl, rfl, rfl, rfl⟩ := hx
    obtain ⟨R⟩ := row_of hL u22 u3 c3 h3
    refine ⟨Gs ++ [(k, R.l, bt, cf)], Rs ++ [R.a], fs ++ [R.f], by simp [e1], by simp [e2], by simp [e3], fun i g hi => ?_⟩
    by_cases hik : i < kk
    ·rw [List.getElem?_append_left (by omega)] at hi
     obtain ⟨a, f, q1, q2, q3⟩ := e4 i g hi
     exact ⟨a, f, by rw [List.getElem?_append_left (by omega)]; exact q1, by rw [List.getElem?_append_left (by omega)]; exact q2, q3⟩
    ·have hil := (List.getElem?_eq_some_iff.1 hi).1
     simp only [List.length_append, List.length_singleton] at hil
     obtain rfl : i = kk := by omega
     rw [List.getElem?_append_right (by omega), e1, Nat.sub_self] at hi
     obtain rfl : (k, R.l, bt, cf) = g := by injection hi
     refine ⟨R.a, R.f, by rw [List.getElem?_append_right (by omega), e2, Nat.sub_self]; rfl, by rw [List.getElem?_append_right (by omega), e3, Nat.sub_self]; rfl, R.ok, sw, hc g0, hc g1, hc g2, hc g3, fun A j hj => R.rel A j hj⟩
  obtain ⟨Gs, Rs, fs, e1, e2, e3, e4⟩ := hcomb len (Nat.le_refl _)
  refine ⟨1 + len, fun pos => [⟨b, o, cap * 4, gateCells Gs (fun i => (fs.getD i (fun _ => .slice none 0 0)) (pos + 1 + i)), none⟩] ++ Rs, n, b0, Gs, fun pos => .slice (some ⟨3 + pos, 0, some 4⟩) len cap, fun pos => by simp [e2]; omega, fun A pos hp => ?_⟩
  obtain ⟨p1, p2⟩ := part_app (L := 1) hp rfl
  have hA := p1 0 _ rfl
  rw [Nat.add_zero] at hA
  obtain ⟨b1, b2, b3⟩ := beta0_arg hA
  have hi := (List.getElem?_eq_some_iff.1 hA).1
  have hgs : ∀ (i : Nat) (g : GateV), Gs[i]? = some g → ∃ s, c[o + i * 4]? = some (.int .i64 g.1) ∧ c[o + i * 4 + 1]? = some s ∧ c[o + i * 4 + 2]? = some (.int .i64 g.2.2.1) ∧ c[o + i * 4 + 3]? = some (.int .i64 g.2.2.2) ∧
    KAt .i64 (mem0 A) ((fs.getD i (fun _ => .slice none 0 0)) (pos + 1 + i)) g.2.1 ∧ VRel (beta0 A) (3 + A.length) ((fs.getD i (fun _ => .slice none 0 0)) (pos + 1 + i)) s := fun i g hg => by
   obtain ⟨a, f, q1, q2, q3, s, r0, r1, r2, r3, r4⟩ := e4 i g hg
   rw [List.getD_eq_getElem?_getD, q2]
   exact ⟨s, r0, r1, r2, r3, r4 A _ (p2 i a q1)⟩
  refine ⟨fun a ha => ?_, .inr ⟨3 + pos, cap, false, _, by rw [e1], mem0_arg hA rfl, fun i g hg => ?_⟩, aggR A _ ?_⟩
  ·rcases List.mem_append.1 ha with ha | ha
   ·rw [List.mem_singleton.1 ha]
    refine ⟨fun _ => ⟨c, t, fz, hh, fun j v' hj => ?_⟩, fun es h => by cases h⟩
    have hj4 := (Array.getElem?_eq_some_iff.1 hj).1
    replace hj4 : j < (gateCells Gs (fun i => (fs.getD i (fun _ => .slice none 0 0)) (pos + 1 + i))).size := hj4
    rw [gateCells_size] at hj4
    obtain ⟨g, hg⟩ : ∃ g, Gs[j / 4]? = some g := ⟨_, List.getElem?_eq_getElem (by omega)⟩
    obtain ⟨k0, k1, k2, k3⟩ := gateCells_get (ws := fun i => (fs.getD i (fun _ => .slice none 0 0)) (pos + 1 + i)) hg
    obtain ⟨s, r0, r1, r2, r3, _, r5⟩ := hgs (j / 4) g hg
    replace hj : (gateCells Gs (fun i => (fs.getD i (fun _ => .slice none 0 0)) (pos + 1 + i)))[j]? = some v' := hj
    have hc4 : j = j / 4 * 4 ∨ j = j / 4 * 4 + 1 ∨ j = j / 4 * 4 + 2 ∨ j = j / 4 * 4 + 3 := by omega
    show ∃ v'', c[o + j]? = some v'' ∧ _
    rcases hc4 with hc4 | hc4 | hc4 | hc4
    ·rw [hc4, k0] at hj; injection hj with hj; subst hj
     exact ⟨_, by rw [hc4]; exact r0, .int _ _⟩
    ·rw [hc4, k1] at hj; injection hj with hj; subst hj
     exact ⟨_, by rw [hc4]; exact r1, r5⟩
    ·rw [hc4, k2] at hj; injection hj with hj; subst hj
     exact ⟨_, by rw [hc4]; exact r2, .int _ _⟩
    ·rw [hc4, k3] at hj; injection hj with hj; subst hj
     exact ⟨_, by rw [hc4]; exact r3, .int _ _⟩
   ·obtain ⟨j, hj⟩ := List.mem_iff_getElem?.1 ha
    have hjl := (List.getElem?_eq_some_iff.1 hj).1
    obtain ⟨g, hg⟩ : ∃ g, Gs[j]? = some g := ⟨_, List.getElem?_eq_getElem (by omega)⟩
    obtain ⟨a', f, q1, q2, q3, _⟩ := e4 j g hg
    rw [hj] at q1; cases q1
    exact q3 A
  ·obtain ⟨k0, k1, k2, k3⟩ := gateCells_get (ws := fun i => (fs.getD i (fun _ => .slice none 0 0)) (pos + 1 + i)) hg
   obtain ⟨s, r0, r1, r2, r3, r4, r5⟩ := hgs i g hg
   have hil := (List.getElem?_eq_some_iff.1 hg).1
   exact ⟨_, by simp only [gateCells_size]; omega, quad_at k0 k1 k2 k3, r4.ints, r4.capOk⟩
  ·have := VRel.slice (β := beta0 A) (N := 3 + A.length) (3 + pos) 0 4 len cap cap (by omega) (by omega) hl (Nat.le_refl _) (by rw [b2, b3]; simp only; omega) (by unfold maxLen at hm; omega)
   rw [b1, b2] at this
   exact this
end Go.AM
