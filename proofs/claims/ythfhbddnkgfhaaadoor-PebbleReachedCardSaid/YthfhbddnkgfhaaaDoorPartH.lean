/- Part 8 of the proof: Contracts of the program's functions. -/
import Derived.Test.YthfhbddnkgfhaaaDoorPartG
import Derived.ChangeSlices
import Derived.WideShapes
import Derived.OpenShut
set_option linter.unusedVariables false
set_option linter.unusedSimpArgs false
/-! ### F22 -/
namespace Go.AM
open Go Go.Proofs Go.Proofs.YthfhbddnkgfhaaaDoor Go.RowKit Go.ChangeShapes Go.WideShapes
set_option maxRecDepth 100000
set_option linter.unusedVariables false

/-- A slice of whole numbers of a kind, readable. -/
def KAt (k : IntKind) (m : Mem) (v : Value) (l : List Int) : Prop :=
  (l = [] ∧ (v = .slice none 0 0 ∨ ∃ b o, v = .slice (some ⟨b, o, none⟩) 0 0)) ∨
  ∃ b o cap r c, v = .slice (some ⟨b, o, some 1⟩) l.length cap ∧ l.length ≤ cap ∧ Mem.get m b = .cells r c ∧ ∀ i x, l[i]? = some x → c[o + i]? = some (.int k x)
theorem KAt.ints {m : Mem} {v : Value} {l : List Int} (h : KAt .i64 m v l) : IntsAt m v l := by
  rcases h with h | ⟨b, o, cap, r, c, h1, _, h2, h3⟩
  · exact .inl h
  · exact .inr ⟨b, o, cap, r, c, h1, h2, h3⟩
theorem KAt.bytes {m : Mem} {v : Value} {l : List Int} (h : KAt .u8 m v l) : BytesAt m v l := h
theorem cell_heap {W : World} {a : Addr} {v : Value} (h : W.cell? a = some v) : a.spot = none ∧ ∃ c t fz, W.heap[a.block]? = some (.cells c t fz) ∧ c[a.off]? = some v := by
  unfold World.cell? at h
  split at h
  · rename_i c t fz e
    split at h
    · cases h
    · rename_i hs
      exact ⟨by simpa using hs, c, t, fz, e, h⟩
  · cases h
theorem add_block (a : Addr) (n : Nat) : (a.add n).block = a.block := by unfold Addr.add; split <;> rfl
theorem add0 (a : Addr) : a.add 0 = a := if_pos rfl
theorem add_off {a : Addr} {n : Nat} (h : a.spot = none) : (a.add n).off = a.off + n := by
  unfold Addr.add
  split <;> simp_all
theorem mem0_arg {A : List Arg0} {i : Nat} {a : Arg0} (h : A[i]? = some a) : Mem.get (mem0 A) (1 + i) = .cells false a.cs := by
  obtain ⟨hi, e⟩ := List.getElem?_eq_some_iff.1 h
  rw [mem0_get, if_neg (by omega), dif_pos (by omega)]
  simp only [Nat.add_sub_cancel_left, e]
theorem beta0_arg {A : List Arg0} {i : Nat} {a : Arg0} (h : A[i]? = some a) : (beta0 A).blk (1 + i) = a.blk ∧ (beta0 A).sh (1 + i) = a.off ∧ (beta0 A).cap (1 + i) = a.off + max a.cs.size a.cap := by
  have e : A.getD (1 + i - 1) arg0 = a := by rw [Nat.add_sub_cancel_left, List.getD_eq_getElem?_getD, h]; rfl
  refine ⟨?_, ?_, ?_⟩
  · simp only [beta0]; rw [if_neg (by omega), e]
  · simp only [beta0]; rw [if_neg (by omega), e]
  · simp only [beta0]; rw [if_neg (by omega), e]
/-- The blocks of an argument lie from a place on. -/
def PartAt (A : List Arg0) (pos : Nat) (B : List Arg0) : Prop := ∀ (j : Nat) a, B[j]? = some a → A[pos + j]? = some a
theorem part_self {B : List Arg0} : PartAt B 0 B := fun j a h => by rwa [Nat.zero_add]
theorem part_left {X Y B : List Arg0} {pos : Nat} (h : PartAt X pos B) : PartAt (X ++ Y) pos B := fun j a hj => by
  have := h j a hj
  rw [List.getElem?_append_left (List.getElem?_eq_some_iff.1 this).1]; exact this
theorem part_right {X Y : List Arg0} {pos : Nat} (h : X.length = pos) : PartAt (X ++ Y) pos Y := fun j a hj => by
  subst h
  rw [List.getElem?_append_right (by omega), Nat.add_sub_cancel_left]; exact hj
/-- A slice of whole numbers that is read: its block, what it holds, its abstract value by the place of its block. -/
structure RowP (W : World) (k : IntKind) (s : Value) where
  a : Arg0
  l : List Int
  f : Nat → Value
  ok : ∀ A : List Arg0, a.ok W A
  wf : ∀ n ∈ l, (Lit.int k n).wf = true
  rel : ∀ (A : List Arg0) (i : Nat), A[i]? = some a → KAt k (mem0 A) (f i) l ∧ VRel (beta0 A) (1 + A.length) (f i) s
theorem ok0 {W : World} (hL : laidMetH Tryd.prog laid1 W) (A : List Arg0) : Arg0.ok W A ⟨0, 0, 0, #[]⟩ := by
  obtain ⟨c0, t0, fz0, h0, _⟩ := of_laid hL
  exact ⟨c0, t0, fz0, h0, fun i v h => by simp at h⟩
theorem row_of {H : Type} {enc : TypeId × Value → H} {W : World} {k : IntKind} {t e : TypeId} {s : Value} {fuel : Nat} {x : DataW H × List MemPlace} (hL : laidMetH Tryd.prog laid1 W)
    (ht : Tryd.prog.underlying t = some (.slice e)) (he : Tryd.prog.underlying e = some (.int k)) (hc : Tryd.prog.cellsOf e = 1)
    (hd : DataW.trod enc Tryd.prog W 0 (fun _ => true) true fuel t [s] = some x) : Nonempty (RowP W k s) := by
  rcases open_ints ht he hc hd with ⟨hcs, _⟩ | ⟨x, ln, cp, zs, hcs, _, hl, hm, hz, _, hcell, hwz⟩
  · simp at hcs
    subst hcs
    exact ⟨⟨_, [], fun _ => .slice none 0 0, ok0 hL, by simp, fun A i _ => ⟨.inl ⟨rfl, .inl rfl⟩, .sliceNil⟩⟩⟩
  · simp at hcs
    subst hcs
    rw [if_pos rfl] at hz
    by_cases h0 : ln = 0
    · subst h0
      exact ⟨⟨_, [], fun _ => .slice (some ⟨0, 0, none⟩) 0 0, ok0 hL, by simp, fun A i _ => ⟨.inl ⟨rfl, .inr ⟨_, _, rfl⟩⟩, .lost _ _ _ trivial⟩⟩⟩
    · obtain ⟨hsp, c, t1, fz, hh, _⟩ := cell_heap (hcell 0 (by omega))
      rw [add0] at hsp
      rw [add_block] at hh
      have hcs : ∀ j, j < ln → c[x.off + j]? = some (.int k (zs.getD j 0)) := fun j hj => by
        obtain ⟨_, c', t2, fz2, h2, h3⟩ := cell_heap (hcell j (by omega))
        rw [add_block, hh] at h2
        obtain ⟨rfl, rfl, rfl⟩ : c = c' ∧ t1 = t2 ∧ fz = fz2 := by injection h2 with h2; injection h2 with a b c; exact ⟨a, b, c⟩
        rwa [add_off hsp] at h3
      have hlz : (zs.take ln).length = ln := by rw [List.length_take]; omega
      refine ⟨⟨⟨x.block, x.off, cp, ((zs.take ln).map fun n => Value.int k n).toArray⟩, zs.take ln, fun i => .slice (some ⟨1 + i, 0, some 1⟩) ln cp, fun A => ⟨c, t1, fz, hh, fun j y hy => ?_⟩, fun n hn => hwz n (List.mem_of_mem_take hn), fun A i hA => ⟨?_, ?_⟩⟩⟩
      · simp only [List.getElem?_toArray, List.getElem?_map, Option.map_eq_some_iff] at hy
        obtain ⟨n, hn, rfl⟩ := hy
        rw [List.getElem?_take] at hn
        split at hn
        · refine ⟨_, ?_, .int _ _⟩
          rw [hcs j (by assumption), List.getD_eq_getElem?_getD, hn]; rfl
        · cases hn
      · refine .inr ⟨1 + i, 0, cp, false, _, by rw [hlz], by rw [hlz]; exact hl, mem0_arg hA, fun j n hn => ?_⟩
        simp only [List.getElem?_toArray, List.getElem?_map, hn, Option.map_some, Nat.zero_add]
      · obtain ⟨e1, e2, e3⟩ := beta0_arg hA
        have hi := (List.getElem?_eq_some_iff.1 hA).1
        have := VRel.slice (β := beta0 A) (N := 1 + A.length) (1 + i) 0 1 ln cp cp (by omega) (by omega) hl (Nat.le_refl _) (by rw [e2, e3]; simp only; omega) (by unfold maxLen at hm; omega)
        rw [e1, e2] at this
        obtain ⟨xb, xo, xs⟩ := x
        obtain rfl : xs = none := hsp
        exact this
/-- An argument that is a slice of whole numbers. -/
theorem ints_arg {H : Type} {enc : TypeId × Value → H} {W : World} {k : IntKind} {t e : TypeId} {r : Reach} {base : Nat} {v : Value} {d : DataW H} {p : List MemPlace} (hL : laidMetH Tryd.prog laid1 W)
    (ht : Tryd.prog.underlying t = some (.slice e)) (he : Tryd.prog.underlying e = some (.int k)) (hc : Tryd.prog.cellsOf e = 1)
    (hval : Value.okWide Tryd.prog W r base t v) (hd : DataW.Trod enc Tryd.prog W 0 (fun _ => true) true t v d p) :
    ∃ (L : Nat) (B : Nat → List Arg0) (l : List Int) (f : Nat → Value), (∀ pos, (B pos).length = L) ∧ (∀ n ∈ l, (Lit.int k n).wf = true) ∧
      ∀ (A : List Arg0) (pos : Nat), PartAt A pos (B pos) → (∀ a ∈ B pos, a.ok W A) ∧ KAt k (mem0 A) (f pos) l ∧ VRel (beta0 A) (1 + A.length) (f pos) v := by
  obtain ⟨q, len, cap, rfl⟩ := okWide_slice ht hval
  obtain ⟨fuel, hf⟩ := hd
  obtain ⟨R⟩ := row_of hL ht he hc hf
  refine ⟨1, fun _ => [R.a], R.l, R.f, fun _ => rfl, R.wf, fun A pos hp => ⟨fun a ha => ?_, R.rel A pos (hp 0 _ rfl)⟩⟩
  rw [List.mem_singleton.1 ha]; exact R.ok A
theorem u22 : Tryd.prog.underlying 22 = some (.slice 25) := by kernel_rfl
theorem u3 : Tryd.prog.underlying 3 = some (.int .i64) := by kernel_rfl
theorem u25 : Tryd.prog.underlying 25 = some (.slice 3) := by kernel_rfl
theorem u63 : Tryd.prog.underlying 63 = some (.slice 5) := by kernel_rfl
theorem u24 : Tryd.prog.underlying 24 = some (.struct #[{ name := "Needs", type := 22, offset := 0, embedded := false, tag := "", pkgPath := "", byteOffset := 0 }]) := by kernel_rfl
theorem c3 : Tryd.prog.cellsOf 3 = 1 := by kernel_rfl
theorem c5 : Tryd.prog.cellsOf 5 = 1 := by kernel_rfl
theorem c22 : Tryd.prog.cellsOf 22 = 1 := by kernel_rfl
theorem c24 : Tryd.prog.cellsOf 24 = 1 := by kernel_rfl
theorem c25 : Tryd.prog.cellsOf 25 = 1 := by kernel_rfl
theorem laidOut : laidOutB Tryd.prog = true := by kernel_rfl
theorem u8_nat {n : Int} (h : (Lit.int .u8 n).wf = true) : ∃ c : Nat, c < 256 ∧ n = Int.ofNat c := by
  have h' : 0 ≤ n ∧ n < 256 := by
    simp [Lit.wf, IntKind.min, IntKind.max, IntKind.signed, IntKind.bits] at h
    omega
  exact ⟨n.toNat, by omega, by simp; omega⟩
theorem i64_lt {n : Int} (h : (Lit.int .i64 n).wf = true) : n < 9223372036854775808 := by
  simp [Lit.wf, IntKind.min, IntKind.max, IntKind.signed, IntKind.bits] at h
  omega
/-- A cell of a slice's row, read. -/
theorem one_cell {W : World} {a : Addr} {x : List Value} (h : W.cells? 0 a 1 = some x) : ∃ s, x = [s] ∧ W.cell? (a.add 0) = some s := by
  unfold World.cells? at h
  rw [if_pos (Nat.zero_le _), List.range_one] at h
  cases e : W.cell? (a.add 0) with
  | none => simp [e] at h
  | some s => simp [e] at h; exact ⟨s, h.symm, rfl⟩
/-- An argument that is a graph. -/
theorem dag_arg {H : Type} {enc : TypeId × Value → H} {W : World} {r : Reach} {base : Nat} {v : Value} {d : DataW H} {p : List MemPlace} (hL : laidMetH Tryd.prog laid1 W)
    (hval : Value.okWide Tryd.prog W r base 24 v) (hd : DataW.Trod enc Tryd.prog W 0 (fun _ => true) true 24 v d p) :
    ∃ (L : Nat) (B : Nat → List Arg0) (G : List (List Int)) (f : Nat → Value), (∀ pos, (B pos).length = L) ∧ True ∧
      ∀ (A : List Arg0) (pos : Nat), PartAt A pos (B pos) → (∀ a ∈ B pos, a.ok W A) ∧ (∃ s, f pos = .agg #[s] ∧ RowsAt (mem0 A) s G) ∧ VRel (beta0 A) (1 + A.length) (f pos) v := by
  unfold Value.okWide at hval
  rw [u24] at hval
  obtain ⟨cs, rfl, hsz, _⟩ := hval
  rw [c24] at hsz
  obtain ⟨w, rfl⟩ : ∃ w, cs = #[w] := by
    obtain ⟨l⟩ := cs
    match l, hsz with
    | [w], _ => exact ⟨w, rfl⟩
  obtain ⟨fuel, hf⟩ := hd
  obtain ⟨xs, m, rfl, hx, hl, hn, hel⟩ := DataW.trod_struct u24 hf
  have h0 := hel 0 _ rfl
  match xs, hn, h0 with
  | [x0], _, h0 =>
    have h1 : DataW.trod enc Tryd.prog W 0 (fun _ => true) true m 22 [w] = some x0 := by simpa [c22, Value.cells] using h0
    have agg1 : ∀ {A : List Arg0} {s s' : Value}, VRel (beta0 A) (1 + A.length) s s' → VRel (beta0 A) (1 + A.length) (.agg #[s]) (.agg #[s']) := fun h => .agg _ _ rfl fun i v v' e e' => by
      match i with
      | 0 => simp at e e'; subst e e'; exact h
      | i + 1 => simp at e
    rcases DataW.trod_slice u22 h1 with ⟨hw, _⟩ | ⟨a, len, cap, elems, rest, n, _, hw, _, _, hlc, hml, hlen, hcell, _, _⟩
    · simp at hw
      subst hw
      exact ⟨0, fun _ => [], [], fun _ => .agg #[.slice none 0 0], fun _ => rfl, trivial, fun A pos _ => ⟨by simp, ⟨_, rfl, .inl ⟨rfl, .inl rfl⟩⟩, agg1 .sliceNil⟩⟩
    · simp at hw
      subst hw
      by_cases hz : len = 0
      · subst hz
        exact ⟨0, fun _ => [], [], fun _ => .agg #[.slice (some ⟨0, 0, none⟩) 0 0], fun _ => rfl, trivial, fun A pos _ => ⟨by simp, ⟨_, rfl, .inl ⟨rfl, .inr ⟨_, _, rfl⟩⟩⟩, agg1 (.lost _ _ _ trivial)⟩⟩
      · have key : ∀ i : Fin len, ∃ s : Value, W.cell? ((a.add (i * 1)).add 0) = some s ∧ Nonempty (RowP W .i64 s) := fun i => by
          have h2 := hcell i i.2
          rw [c25, List.getElem?_eq_getElem (by omega), Option.bind_eq_some_iff] at h2
          obtain ⟨x, h3, h4⟩ := h2
          obtain ⟨s, rfl, h5⟩ := one_cell h3
          exact ⟨s, h5, row_of hL u25 u3 c3 h4⟩
        have hch := Classical.axiomOfChoice key
        obtain ⟨S, hS⟩ := hch
        have hR : ∀ i : Fin len, Nonempty (RowP W .i64 (S i)) := fun i => (hS i).2
        let R : (i : Fin len) → RowP W .i64 (S i) := fun i => Classical.choice (hR i)
        obtain ⟨hsp, c, t1, fz, hh, _⟩ := cell_heap (hS ⟨0, by omega⟩).1
        rw [add0] at hsp
        replace hsp : a.spot = none := by simpa [add0] using hsp
        rw [add_block, add_block] at hh
        have hcs : ∀ j : Fin len, c[a.off + j]? = some (S j) := fun j => by
          obtain ⟨hs, c', t2, fz2, h2, h3⟩ := cell_heap (hS j).1
          rw [add_block, add_block, hh] at h2
          obtain ⟨rfl, rfl, rfl⟩ : c = c' ∧ t1 = t2 ∧ fz = fz2 := by injection h2 with h2; injection h2 with a b c; exact ⟨a, b, c⟩
          rw [add0, add_off hsp] at h3
          simpa using h3
        let G : List (List Int) := List.ofFn fun i => (R i).l
        let rowsB : List Arg0 := List.ofFn fun i => (R i).a
        let outer : Nat → Arg0 := fun pos => ⟨a.block, a.off, cap, (List.ofFn fun i : Fin len => (R i).f (pos + 1 + i)).toArray⟩
        have hGl : G.length = len := List.length_ofFn
        refine ⟨1 + len, fun pos => outer pos :: rowsB, G, fun pos => .agg #[.slice (some ⟨1 + pos, 0, some 1⟩) len cap], fun pos => by simp [rowsB]; omega, trivial, fun A pos hp => ?_⟩
        have hA0 : A[pos]? = some (outer pos) := hp 0 _ rfl
        have hAi : ∀ i : Fin len, A[pos + 1 + i]? = some (R i).a := fun i => by
          have := hp (1 + i) (R i).a (by rw [Nat.add_comm 1, List.getElem?_cons_succ]; simp [rowsB])
          rwa [← Nat.add_assoc] at this
        have hrel := fun i : Fin len => (R i).rel A (pos + 1 + i) (hAi i)
        refine ⟨fun b hb => ?_, ⟨_, rfl, ?_⟩, agg1 ?_⟩
        · rcases List.mem_cons.1 hb with rfl | hb
          · refine ⟨c, t1, fz, hh, fun j y hy => ?_⟩
            have hj : j < len := by
              have := (Array.getElem?_eq_some_iff.1 hy).1
              simpa [outer] using this
            have e : y = (R ⟨j, hj⟩).f (pos + 1 + j) := by
              simp [outer, hj] at hy
              exact hy.symm
            subst e
            exact ⟨_, hcs ⟨j, hj⟩, (hrel ⟨j, hj⟩).2⟩
          · obtain ⟨i, rfl⟩ := List.mem_ofFn.1 hb
            exact (R i).ok A
        · refine .inr ⟨1 + pos, 0, cap, false, _, by rw [hGl], mem0_arg hA0, fun i g hi => ?_⟩
          have hj : i < len := by
            have := (List.getElem?_eq_some_iff.1 hi).1
            omega
          have e : g = (R ⟨i, hj⟩).l := by
            simp [G, hj] at hi
            exact hi.symm
          subst e
          exact ⟨(R ⟨i, hj⟩).f (pos + 1 + i), by simp [outer, hj], (hrel ⟨i, hj⟩).1.ints⟩
        · obtain ⟨e1, e2, e3⟩ := beta0_arg hA0
          have hi := (List.getElem?_eq_some_iff.1 hA0).1
          have := VRel.slice (β := beta0 A) (N := 1 + A.length) (1 + pos) 0 1 len cap cap (by omega) (by omega) hlc (Nat.le_refl _) (by rw [e2, e3]; simp only [outer]; omega) (by unfold maxLen at hml; omega)
          rw [e1, e2] at this
          obtain ⟨xb, xo, xs⟩ := a
          obtain rfl : xs = none := hsp
          exact this
end Go.AM
