/- Arguments that are slices. -/
import Derived.Test.YtgiidbomifmcaaaDoorEntry
import Derived.ChangeSlices
import Derived.WideShapes
import Derived.OpenShut
set_option linter.unusedVariables false
set_option linter.unusedSimpArgs false
/-! ### F3 -/
namespace Go.AM
open Go Go.Proofs Go.Proofs.YtgiidbomifmcaaaDoor Go.RowKit Go.ChangeShapes Go.WideShapes
set_option maxRecDepth 100000
set_option linter.unusedVariables false

/-- A slice of whole numbers of a kind, readable. -/
def KAt (k : IntKind) (m : Mem) (v : Value) (l : List Int) : Prop :=
  (l = [] ∧ (v = .slice none 0 0 ∨ ∃ b o, v = .slice (some ⟨b, o, none⟩) 0 0)) ∨
  ∃ b o cap r c, v = .slice (some ⟨b, o, some 1⟩) l.length cap ∧ l.length ≤ cap ∧ Mem.get m b = .cells r c ∧ ∀ i x, l[i]? = some x → c[o + i]? = some (.int k x)
theorem KAt.ints {m : Mem} {v : Value} {l : List Int} (h : KAt .i64 m v l) : IntsAt m v l := by
  rcases h with h | ⟨b, o, cap, r, c, h1, _, h2, h3⟩
  · exact .inl h
  · exact .inr ⟨b, o, cap, r, c, h1, h2, h3⟩
theorem cell_heap {W : World} {a : Addr} {v : Value} (h : W.cell? a = some v) : a.spot = none ∧ ∃ c t fz, W.heap[a.block]? = some (.cells c t fz) ∧ c[a.off]? = some v := by
  unfold World.cell? at h
  split at h
  · rename_i c t fz e
    split at h
    · cases h
    · rename_i hs
      exact ⟨by simpa using hs, c, t, fz, e, h⟩
  · cases h
theorem mem0_arg {A : List Arg0} {i : Nat} {a : Arg0} (h : A[i]? = some a) (b : Bool) : Mem.get (mem0 b A) (4 + i) = .cells false a.cs := by
  obtain ⟨hi, e⟩ := List.getElem?_eq_some_iff.1 h
  rw [mem0_get, if_neg (by omega), if_neg (by omega), if_neg (by omega), if_neg (by omega), dif_pos (by omega)]
  simp only [Nat.add_sub_cancel_left, e]
theorem beta0_arg {A : List Arg0} {i : Nat} {a : Arg0} (h : A[i]? = some a) (bm : Nat) : (beta0 bm A).blk (4 + i) = a.blk ∧ (beta0 bm A).sh (4 + i) = a.off ∧ (beta0 bm A).cap (4 + i) = a.off + max a.cs.size a.cap := by
  have e : A.getD (4 + i - 4) arg0 = a := by rw [Nat.add_sub_cancel_left, List.getD_eq_getElem?_getD, h]; rfl
  refine ⟨?_, ?_, ?_⟩
  · simp only [beta0]; rw [if_neg (by omega), if_neg (by omega), e]
  · simp only [beta0]; rw [if_neg (by omega), e]
  · simp only [beta0]; rw [if_neg (by omega), e]
/-- An argument that is a slice: what is laid for it, and what it holds. -/
theorem ints_arg {H : Type} {enc : TypeId × Value → H} {W : World} {k : IntKind} {t e : TypeId} {r : Reach} {base : Nat} {v : Value} {d : DataW H} {p : List MemPlace} (hL : laidMetH Tryd.prog laid3 W)
    (ht : Tryd.prog.underlying t = some (.slice e)) (he : Tryd.prog.underlying e = some (.int k)) (hc : Tryd.prog.cellsOf e = 1)
    (hval : Value.okWide Tryd.prog W r base t v) (hd : DataW.Trod enc Tryd.prog W 0 (fun _ => true) true t v d p) :
    ∃ (a : Arg0) (l : List Int) (f : Nat → Value), a.ok W ∧ (∀ n ∈ l, (Lit.int k n).wf = true) ∧ ∀ (A : List Arg0) (i : Nat), A[i]? = some a → (∀ b, KAt k (mem0 b A) (f i) l) ∧ ∀ bm, VRel (beta0 bm A) (4 + A.length) (f i) v := by
  obtain ⟨⟨bm0, c0, t0, fz0, _, _, _, _, _, h0, _⟩, _⟩ := of_laid hL
  have ok0 : Arg0.ok W ⟨0, 0, 0, #[]⟩ := ⟨c0, t0, fz0, h0, fun i v h => by simp at h⟩
  have hv := hval
  obtain ⟨q, len, cap, rfl⟩ := okWide_slice ht hv
  obtain ⟨fuel, hf⟩ := hd
  rcases open_ints ht he hc hf with ⟨hcs, _⟩ | ⟨x, ln, cp, zs, hcs, _, hl, hm, hz, _, hcell, hwz⟩
  · simp [Value.cells] at hcs
    obtain ⟨rfl, rfl, rfl⟩ := hcs
    exact ⟨_, [], fun _ => .slice none 0 0, ok0, by simp, fun A i _ => ⟨fun b => .inl ⟨rfl, .inl rfl⟩, fun bm => .sliceNil⟩⟩
  · simp [Value.cells] at hcs
    obtain ⟨rfl, rfl, rfl⟩ := hcs
    rw [if_pos rfl] at hz
    have hsp : x.spot = none := by
      simp only [Value.okWide, ht, Cell.okWide, Cell.ok] at hval
      exact hval.2.2.2.1
    obtain ⟨xb, xo, xs⟩ := x
    obtain rfl : xs = none := hsp
    by_cases h0c : cap = 0
    · subst h0c
      obtain rfl : len = 0 := by omega
      exact ⟨_, [], fun _ => .slice (some ⟨0, 1, none⟩) 0 0, ok0, by simp, fun A i _ => ⟨fun b => .inl ⟨rfl, .inr ⟨_, _, rfl⟩⟩, fun bm => .empty _ _ rfl⟩⟩
    · obtain ⟨_, c, t1, fz, hh, _⟩ := cell_heap (hcell 0 (by omega))
      have hh' : W.heap[xb]? = some (.cells c t1 fz) := hh
      have hcs : ∀ j, j < len → c[xo + j]? = some (.int k (zs.getD j 0)) := fun j hj => by
        obtain ⟨_, c', t2, fz2, h2, h3⟩ := cell_heap (hcell j (by omega))
        have e1 : ((⟨xb, xo, none⟩ : Addr).add j).block = xb := by unfold Addr.add; split <;> rfl
        have e2 : ((⟨xb, xo, none⟩ : Addr).add j).off = xo + j := by unfold Addr.add; split <;> simp_all
        rw [e1, hh'] at h2
        obtain ⟨rfl, rfl, rfl⟩ : c = c' ∧ t1 = t2 ∧ fz = fz2 := by injection h2 with h2; injection h2 with a b c; exact ⟨a, b, c⟩
        rwa [e2] at h3
      have hlz : (zs.take len).length = len := by rw [List.length_take]; omega
      refine ⟨⟨xb, xo, cap, ((zs.take len).map fun n => Value.int k n).toArray⟩, zs.take len, fun i => .slice (some ⟨4 + i, 0, some 1⟩) len cap, ⟨c, t1, fz, hh', fun j y hy => ?_⟩, fun n hn => hwz n (List.mem_of_mem_take hn), fun A i hA => ⟨fun b => ?_, fun bm => ?_⟩⟩
      · simp only [List.getElem?_toArray, List.getElem?_map, Option.map_eq_some_iff] at hy
        obtain ⟨n, hn, rfl⟩ := hy
        rw [List.getElem?_take] at hn
        split at hn
        · refine ⟨?_, _, _, rfl⟩
          rw [hcs j (by assumption), List.getD_eq_getElem?_getD, hn]; rfl
        · cases hn
      · refine .inr ⟨4 + i, 0, cap, false, _, by rw [hlz], by rw [hlz]; exact hl, mem0_arg hA b, fun j n hn => ?_⟩
        simp only [List.getElem?_toArray, List.getElem?_map, hn, Option.map_some, Nat.zero_add]
      · obtain ⟨e1, e2, e3⟩ := beta0_arg hA bm
        have hi := (List.getElem?_eq_some_iff.1 hA).1
        have := VRel.slice (β := beta0 bm A) (N := 4 + A.length) (4 + i) 0 1 len cap cap (by omega) (by omega) hl (Nat.le_refl _) (by rw [e2, e3]; simp only; omega)
        rwa [e1, e2] at this
theorem arel_nil {β : Beta} {N : Nat} : ARel β N #[] #[] := ⟨rfl, fun i v v' h => by simp at h⟩
theorem arel_cons {β : Beta} {N : Nat} {v v' : Value} {l l' : List Value} (hv : VRel β N v v') (h : ARel β N l.toArray l'.toArray) : ARel β N (v :: l).toArray (v' :: l').toArray := by
  refine ⟨by have := h.1; simp at this ⊢; exact this, fun i x x' h1 h2 => ?_⟩
  cases i with
  | zero => simp at h1 h2; subst h1 h2; exact hv
  | succ i => exact h.2 i x x' (by simpa using h1) (by simpa using h2)
theorem u8_nat {n : Int} (h : (Lit.int .u8 n).wf = true) : ∃ c : Nat, c < 256 ∧ n = Int.ofNat c := by
  have h' : 0 ≤ n ∧ n < 256 := by
    simp [Lit.wf, IntKind.min, IntKind.max, IntKind.signed, IntKind.bits] at h
    omega
  exact ⟨n.toNat, by omega, by simp; omega⟩
theorem i64_lt {n : Int} (h : (Lit.int .i64 n).wf = true) : n < 9223372036854775808 := by
  simp [Lit.wf, IntKind.min, IntKind.max, IntKind.signed, IntKind.bits] at h
  omega
theorem u22 : Tryd.prog.underlying 22 = some (.slice 3) := by kernel_rfl
theorem u3 : Tryd.prog.underlying 3 = some (.int .i64) := by kernel_rfl
theorem u35 : Tryd.prog.underlying 35 = some (.slice 5) := by kernel_rfl
theorem c3 : Tryd.prog.cellsOf 3 = 1 := by kernel_rfl
theorem c5 : Tryd.prog.cellsOf 5 = 1 := by kernel_rfl
theorem laidOut : laidOutB Tryd.prog = true := by kernel_rfl
end Go.AM
