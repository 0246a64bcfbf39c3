/- Part 4 of the proof: Plain laws, and contracts of the program's functions. -/
import Derived.Test.YtdokoekgdeebpaaDoorPartC
import Derived.Test.YtdokoekgdeebpaaDoorProg
import Derived.KernelRfl
import Derived.Shelf.Spec.SlicesInsert
import Derived.Shelf.Spec.SlicesInsertGrow
import Derived.Test.YtdokoekgdeebpaaDoorPartB
set_option linter.unusedVariables false
set_option linter.unusedSimpArgs false
set_option maxRecDepth 100000
/-! PD0 -/
namespace Go.AM
open Go.Proofs
theorem mixed : Tryd.prog.follows .mixedOrders = true := by kernel_rfl
def H0 : Nat → List (Nat × Nat) := fun _ => []
theorem T34 : undOf Tryd.prog 34 = some (.slice 22) := by kernel_rfl
theorem T22 : undOf Tryd.prog 22 = some (.slice 3) := by kernel_rfl
theorem T28 : undOf Tryd.prog 28 = some (.slice 49) := by kernel_rfl
theorem S3 : szOf Tryd.prog 3 = some 1 := by kernel_rfl
theorem S4 : szOf Tryd.prog 4 = some 1 := by kernel_rfl
theorem S5 : szOf Tryd.prog 5 = some 1 := by kernel_rfl
theorem S22 : szOf Tryd.prog 22 = some 1 := by kernel_rfl
theorem S25 : szOf Tryd.prog 25 = some 1 := by kernel_rfl
theorem S28 : szOf Tryd.prog 28 = some 1 := by kernel_rfl
theorem S30 : szOf Tryd.prog 30 = some 3 := by kernel_rfl
theorem S49 : szOf Tryd.prog 49 = some 4 := by kernel_rfl
theorem A3 : isAggT Tryd.prog 3 = some false := by kernel_rfl
theorem A4 : isAggT Tryd.prog 4 = some false := by kernel_rfl
theorem A5 : isAggT Tryd.prog 5 = some false := by kernel_rfl
theorem A22 : isAggT Tryd.prog 22 = some false := by kernel_rfl
theorem A25 : isAggT Tryd.prog 25 = some false := by kernel_rfl
theorem A28 : isAggT Tryd.prog 28 = some false := by kernel_rfl
theorem A30 : isAggT Tryd.prog 30 = some true := by kernel_rfl
theorem A49 : isAggT Tryd.prog 49 = some true := by kernel_rfl
theorem A131 : isAggT Tryd.prog 131 = some false := by kernel_rfl
theorem Z3 : zeroOf Tryd.prog 3 = some (nv 0) := by kernel_rfl
theorem Z4 : zeroOf Tryd.prog 4 = some (.bool false) := by kernel_rfl
theorem Z22 : zeroOf Tryd.prog 22 = some (.slice none 0 0) := by kernel_rfl
theorem Z28 : zeroOf Tryd.prog 28 = some (.slice none 0 0) := by kernel_rfl
theorem Z25 : zeroOf Tryd.prog 25 = some (nv 0) := by kernel_rfl
theorem Z30 : zeroOf Tryd.prog 30 = some (.agg #[nv 0, nv 0, .slice none 0 0]) := by kernel_rfl
theorem Z49 : zeroOf Tryd.prog 49 = some (.agg #[nv 0, .slice none 0 0, nv 0, nv 0]) := by kernel_rfl
theorem F30_0 {b o : Nat} : aFieldAddr Tryd.prog 30 (.pointer (some ⟨b, o, none⟩)) 0 = some (.pointer (some ⟨b, o, none⟩)) := by kernel_rfl
theorem F30_1 {b o : Nat} : aFieldAddr Tryd.prog 30 (.pointer (some ⟨b, o, none⟩)) 1 = some (.pointer (some ⟨b, o + 1, none⟩)) := by kernel_rfl
theorem F30_2 {b o : Nat} : aFieldAddr Tryd.prog 30 (.pointer (some ⟨b, o, none⟩)) 2 = some (.pointer (some ⟨b, o + 2, none⟩)) := by kernel_rfl
theorem F49_0 {b o : Nat} : aFieldAddr Tryd.prog 49 (.pointer (some ⟨b, o, none⟩)) 0 = some (.pointer (some ⟨b, o, none⟩)) := by kernel_rfl
theorem F49_1 {b o : Nat} : aFieldAddr Tryd.prog 49 (.pointer (some ⟨b, o, none⟩)) 1 = some (.pointer (some ⟨b, o + 1, none⟩)) := by kernel_rfl
theorem F49_2 {b o : Nat} : aFieldAddr Tryd.prog 49 (.pointer (some ⟨b, o, none⟩)) 2 = some (.pointer (some ⟨b, o + 2, none⟩)) := by kernel_rfl
theorem F49_3 {b o : Nat} : aFieldAddr Tryd.prog 49 (.pointer (some ⟨b, o, none⟩)) 3 = some (.pointer (some ⟨b, o + 3, none⟩)) := by kernel_rfl
theorem bytes3 : bytesOf' Tryd.prog 3 = some 8 := by kernel_rfl
theorem App22 : AppT Tryd.prog 22 22 := ⟨_, _, _, T22, T22, rfl, S3, Z3, rfl, by kernel_rfl⟩
theorem U3 : undOf Tryd.prog 3 = some (.int .i64) := by kernel_rfl
theorem call15 : callable Tryd.prog 15 = true := by kernel_rfl
theorem call28 : callable Tryd.prog 28 = true := by kernel_rfl
theorem call20 : callable Tryd.prog 20 = true := by kernel_rfl
theorem call26 : callable Tryd.prog 26 = true := by kernel_rfl
theorem call107 : callable Tryd.prog 107 = true := by kernel_rfl
theorem call83 : callable Tryd.prog 83 = true := by kernel_rfl
theorem call84 : callable Tryd.prog 84 = true := by kernel_rfl
theorem call138 : callable Tryd.prog 138 = true := by kernel_rfl
end Go.AM

/-! M0 -/
namespace Go.AM
def popF : Nat → Nat → Nat
  | 0, _ => 0
  | f + 1, x => if x = 0 then 0 else x % 2 + popF f (x / 2)
@[simp] theorem popF_zero (x : Nat) : popF 0 x = 0 := rfl
theorem popF_fuel : ∀ (f g x : Nat), x < 2 ^ f → x < 2 ^ g → popF f x = popF g x
  | 0, 0, x, _, _ => rfl
  | 0, g + 1, x, h, _ => by obtain rfl : x = 0 := by omega
                            simp [popF]
  | f + 1, 0, x, _, h => by obtain rfl : x = 0 := by omega
                            simp [popF]
  | f + 1, g + 1, x, h, h' => by
    rw [popF, popF]
    split
    · rfl
    · rw [popF_fuel f g (x / 2) (by rw [Nat.pow_succ] at h; omega) (by rw [Nat.pow_succ] at h'; omega)]
def popc (x : Nat) : Nat := popF x x
def blen (x : Nat) : Nat := if x = 0 then 0 else x.log2 + 1
end Go.AM

/-! M1 -/
namespace Go.AM
theorem xor_swap4 (a b c d : Nat) : (a ^^^ b) ^^^ (c ^^^ d) = (a ^^^ c) ^^^ (b ^^^ d) := by
 rw [Nat.xor_assoc, Nat.xor_assoc, ← Nat.xor_assoc b c d, Nat.xor_comm b c, Nat.xor_assoc c b d]
theorem xor_div_two (a b : Nat) : (a ^^^ b) / 2 = a / 2 ^^^ b / 2 := by
 apply Nat.eq_of_testBit_eq; intro i
 rw [Nat.testBit_xor, Nat.testBit_div_two, Nat.testBit_div_two, Nat.testBit_div_two, Nat.testBit_xor]
/-! ### Sums of rows -/
def total : List Nat → Nat → Nat
  | [], _ => 0
  | r :: l, w => (if w.testBit 0 then r else 0) ^^^ total l (w / 2)
theorem total_zero : ∀ l : List Nat, total l 0 = 0
 | [] => rfl
 | r :: l => by simp [total, total_zero l]
theorem total_xor : ∀ (l : List Nat) (a b : Nat), total l (a ^^^ b) = total l a ^^^ total l b
 | [], a, b => by simp [total]
 | r :: l, a, b => by
  simp only [total, xor_div_two, total_xor l, Nat.testBit_xor]
  rw [xor_swap4]
  congr 1
  cases a.testBit 0 <;> cases b.testBit 0 <;> simp
theorem total_pow : ∀ (l : List Nat) (i : Nat), total l (2 ^ i) = l.getD i 0
 | [], i => by simp [total]
 | r :: l, 0 => by simp [total, total_zero]
 | r :: l, i + 1 => by
  have : 2 ^ (i + 1) / 2 = 2 ^ i := by rw [Nat.pow_succ]; omega
  simp only [total, this, total_pow l i]
  have : (2 ^ (i + 1)).testBit 0 = false := by rw [Nat.testBit_two_pow]; simp
  simp [this]
theorem total_lt {l : List Nat} {n : Nat} (h : ∀ x ∈ l, x < 2 ^ n) (w : Nat) : total l w < 2 ^ n := by
 induction l generalizing w with
 | nil => exact Nat.two_pow_pos n
 | cons r l ih =>
  simp only [total]
  refine Nat.xor_lt_two_pow ?_ (ih (fun x hx => h x (by simp [hx])) _)
  split
  ·exact h r (by simp)
  ·exact Nat.two_pow_pos n
/-! ### Spans -/
def InSpan (l : List Nat) (x : Nat) : Prop := ∃ w, total l w = x
theorem InSpan.zero (l : List Nat) : InSpan l 0 := ⟨0, total_zero l⟩
theorem InSpan.xor {l : List Nat} {x y : Nat} (hx : InSpan l x) (hy : InSpan l y) : InSpan l (x ^^^ y) := by
 obtain ⟨a, rfl⟩ := hx
 obtain ⟨b, rfl⟩ := hy
 exact ⟨a ^^^ b, total_xor l a b⟩
theorem InSpan.mem {l : List Nat} {x : Nat} (h : x ∈ l) : InSpan l x := by
 obtain ⟨i, hi, rfl⟩ := List.mem_iff_getElem.1 h
 refine ⟨2 ^ i, ?_⟩
 rw [total_pow]; simp [hi]
theorem InSpan.trans {l r : List Nat} (h : ∀ x ∈ l, InSpan r x) {y : Nat} (hy : InSpan l y) : InSpan r y := by
 obtain ⟨w, rfl⟩ := hy
 induction l generalizing w with
 | nil => exact .zero r
 | cons a l ih =>
  simp only [total]
  refine .xor ?_ (ih (fun x hx => h x (by simp [hx])) _)
  split
  ·exact h a (by simp)
  ·exact .zero r
theorem InSpan.lt {l : List Nat} {n : Nat} (h : ∀ x ∈ l, x < 2 ^ n) {x : Nat} (hx : InSpan l x) : x < 2 ^ n := by
 obtain ⟨w, rfl⟩ := hx; exact total_lt h w
theorem InSpan.take {l : List Nat} {k x : Nat} (h : InSpan (l.take k) x) : InSpan l x := h.trans fun y hy => .mem (List.mem_of_mem_take hy)
def SameSpan (l r : List Nat) : Prop := ∀ x, InSpan l x ↔ InSpan r x
theorem SameSpan.symm {l r : List Nat} (h : SameSpan l r) : SameSpan r l := fun x => (h x).symm
theorem SameSpan.trans {l r s : List Nat} (h : SameSpan l r) (h' : SameSpan r s) : SameSpan l s := fun x => (h x).trans (h' x)
end Go.AM
namespace Go.AM
end Go.AM

/-! M2 -/
namespace Go.AM
abbrev Sys := List (Nat × Nat)
def Sys.at (s : Sys) (k : Nat) : Nat × Nat := s.getD k (0, 0)
/-- Rows at work: by their leads; what they are made of. -/
structure Good (s : Sys) (l : List Nat) (i : Nat) : Prop where
  len : s.length = 24
  lead : ∀ k, k < 24 → (s.at k).1 = 0 ∨ blen (s.at k).1 = k + 1
  zero : ∀ k, k < 24 → (s.at k).1 = 0 → (s.at k).2 = 0
  of : ∀ k, total l (s.at k).2 = (s.at k).1
  lt : ∀ k, (s.at k).2 < 2 ^ i
  piv : ∀ k b, (s.at k).2.testBit b = true → ¬ InSpan (l.take b) (l.getD b 0)
  sp : ∀ b, b < i → InSpan (s.map (·.1)) (l.getD b 0)
end Go.AM

/-! M3 -/
namespace Go.AM
theorem getD_mem {t : List Nat} {k : Nat} (h : k < t.length) : t.getD k 0 ∈ t := by
 rw [List.getD_eq_getElem?_getD, List.getElem?_eq_getElem h]; exact List.getElem_mem _
theorem getD_out {t : List Nat} {k : Nat} (h : t.length ≤ k) : t.getD k 0 = 0 := by
 rw [List.getD_eq_getElem?_getD, List.getElem?_eq_none h]; rfl
theorem InSpan.getD (t : List Nat) (k : Nat) : InSpan t (t.getD k 0) := by
 by_cases h : k < t.length
 ·exact .mem (getD_mem h)
 ·rw [getD_out (by omega)]; exact .zero t
/-! ### Lists of reduced rows -/
def Fall (l : List Nat) : Prop := l.Pairwise fun a b => blen b < blen a
structure Rref (r : List Nat) : Prop where
  fall : Fall r
  ne : ∀ a ∈ r, a ≠ 0
  alone : ∀ a ∈ r, ∀ b ∈ r, a ≠ b → b.testBit (blen a - 1) = false
end Go.AM

/-! M4 -/
namespace Go.AM
end Go.AM

/-! M8 -/
namespace Go.AM
/-! ### The stages -/
def s1 (x : Nat) : Nat := (x >>> 1 &&& 6148914691236517205) + (x &&& 6148914691236517205)
def s2 (x : Nat) : Nat := (x >>> 2 &&& 3689348814741910323) + (x &&& 3689348814741910323)
def s3 (x : Nat) : Nat := (x >>> 4) + x &&& 1085102592571150095
def t1 (b : Nat) : Nat := (b / 2 &&& 85) + (b &&& 85)
def t2 (b : Nat) : Nat := (b / 4 &&& 51) + (b &&& 51)
section
variable {a b c d e f g h : Nat} (ha : a < 256) (hb : b < 256) (hc : c < 256) (hd : d < 256) (he : e < 256) (hf : f < 256) (hg : g < 256) (hh : h < 256)
include ha hb hc hd he hf hg hh
end
end Go.AM

/-! G1 -/
namespace Go.AM
/-- Numbers as cells. -/
def cellsN (l : List Nat) : Array Value := (l.map nv).toArray
@[simp] theorem cellsN_size (l : List Nat) : (cellsN l).size = l.length := by simp [cellsN]
theorem cellsN_get {l : List Nat} {i x : Nat} (h : l[i]? = some x) : (cellsN l)[i]? = some (nv x) := by simp [cellsN, h]
theorem cellsN_set (l : List Nat) (i x : Nat) : (cellsN l).setIfInBounds i (nv x) = cellsN (l.set i x) := by
 apply Array.ext_getElem?
 intro j
 simp only [cellsN, Array.getElem?_setIfInBounds, List.getElem?_toArray, List.getElem?_map, List.getElem?_set]
 split <;> simp
theorem OwnF.ofCells {N : Nat} {m : Mem} {b : Nat} {l r : List Nat} (hN : N ≤ b) (h : Mem.get m b = .cells true (cellsN (l ++ r))) : OwnF N m (.slice (some ⟨b, 0, some 1⟩) l.length (l ++ r).length) (ofs l) := by
 refine .inr ⟨b, _, _, by rw [ofs_length], hN, h, by simp, by simp, fun i x hi => ?_⟩
 simp only [ofs, List.getElem?_map, Option.map_eq_some_iff] at hi
 obtain ⟨y, hy, rfl⟩ := hi
 refine cellsN_get ?_
 rw [List.getElem?_append_left (List.getElem?_eq_some_iff.1 hy).1]; exact hy
theorem fill1 {a : Int} : Instr.fill (fun i => some (i * 1, 1)) (if 1 * 1 = 0 then #[] else (Array.range (1 * 1)).map ((nv 0).cells[· % (nv 0).cells.size]!)) [(0, .int .i64 a)] = some #[.int .i64 a] := by kernel_rfl
theorem one_ints {m : Mem} {k : Nat} : IntsAt (m.push (.cells true #[nv k])) (.slice (some ⟨m.size, 0, some 1⟩) 1 1) [Int.ofNat k] :=
 .inr ⟨m.size, 0, 1, true, _, rfl, gP rfl, fun i x hi => by
  match i with
  | 0 => simp at hi; subst hi; rfl
  | i + 1 => simp at hi⟩
def nats (l : List Int) : List Nat := l.map Int.toNat
@[simp] theorem nats_ofs (l : List Nat) : nats (ofs l) = l := by
  simp only [nats, ofs, List.map_map]
  conv => rhs; rw [← List.map_id l]
  exact List.map_congr_left fun x _ => rfl
theorem bit_one (w i : Nat) : (w >>> i &&& 1 = 1) ↔ w.testBit i = true := by
 rw [Nat.testBit, Nat.and_one_is_mod, Nat.one_and_eq_mod_two]; simp
theorem neqF {a b : Nat} (h : a = b) : aInt .neq .i64 (Int.ofNat a) (Int.ofNat b) = some (.bool false) := by rw [aInt_neq, decide_eq_false (by simpa using h)]
theorem eqlT {a b : Nat} (h : a = b) : aInt .eql .i64 (Int.ofNat a) (Int.ofNat b) = some (.bool true) := by rw [aInt_eql, decide_eq_true h]
/-! ### Rows of rows -/
def RowsAt (m : Mem) (v : Value) (G : List (List Int)) : Prop :=
  (G = [] ∧ (v = .slice none 0 0 ∨ ∃ b o, v = .slice (some ⟨b, o, none⟩) 0 0)) ∨
  ∃ b o cap r c, v = .slice (some ⟨b, o, some 1⟩) G.length cap ∧ Mem.get m b = .cells r c ∧ ∀ i g, G[i]? = some g → ∃ s, c[o + i * 1]? = some s ∧ IntsAt m s g
theorem RowsAt.len {m : Mem} {v : Value} {G : List (List Int)} (h : RowsAt m v G) : ∃ q cap, v = .slice q G.length cap := by
 rcases h with ⟨rfl, rfl | ⟨b, o, rfl⟩⟩ | ⟨b, o, cap, r, c, rfl, _, _⟩
 ·exact ⟨_, _, rfl⟩
 ·exact ⟨_, _, rfl⟩
 ·exact ⟨_, _, rfl⟩
theorem RowsAt.at {m : Mem} {v : Value} {G : List (List Int)} (h : RowsAt m v G) (hl : 0 < G.length) : ∃ b o cap r c, v = .slice (some ⟨b, o, some 1⟩) G.length cap ∧ Mem.get m b = .cells r c ∧ ∀ i g, G[i]? = some g → ∃ s, c[o + i * 1]? = some s ∧ IntsAt m s g := by
 rcases h with ⟨rfl, _⟩ | h
 ·simp at hl
 ·exact h
/-- Rows of numbers that are not below 0. -/
def ofs2 (G : List (List Nat)) : List (List Int) := G.map ofs
@[simp] theorem ofs2_length (G : List (List Nat)) : (ofs2 G).length = G.length := by simp [ofs2]
theorem ofs2_get {G : List (List Nat)} {i : Nat} {g : List Nat} (h : G[i]? = some g) : (ofs2 G)[i]? = some (ofs g) := by simp [ofs2, h]
/-! ### Maps of numbers to numbers -/
def MapAt (m : Mem) (b : Nat) (es : List (Nat × Nat)) : Prop := Mem.get m b = .map true (es.map fun p => (nv p.1, nv p.2))
def findE : List (Nat × Nat) → Nat → Nat → Option (Nat × Nat)
  | [], _, _ => none
  | p :: es, k, i => if k = p.1 then some (i, p.2) else findE es k (i + 1)
def lookE (es : List (Nat × Nat)) (k : Nat) : Option Nat := (findE es k 0).map (·.2)
end Go.AM

/-! M9 -/
namespace Go.AM
end Go.AM

/-! G2 -/
namespace Go.AM
theorem ACalls.callee {P : Program} {f : FuncId} {x : Array Value} {m : Mem} {v : Value} (h : ∃ w m', ACalls P f x m w m' ∧ (w = v ∧ m' = m)) : ACalls P f x m v m := by
 obtain ⟨w, m', h, rfl, rfl⟩ := h; exact h
def SysLt (s : Sys) : Prop := ∀ k, (s.at k).1 < 2 ^ 62 ∧ (s.at k).2 < 2 ^ 62
/-- All that was there, but one block, is as it was. -/
def But (p : Nat) (m m' : Mem) : Prop := m.size ≤ m'.size ∧ ∀ b, b < m.size → b ≠ p → Mem.get m' b = Mem.get m b
theorem But.trans {p : Nat} {a b c : Mem} (h : But p a b) (h' : But p b c) : But p a c :=
 ⟨Nat.le_trans h.1 h'.1, fun i hi hp => (h'.2 i (Nat.lt_of_lt_of_le hi h.1) hp).trans (h.2 i hi hp)⟩
theorem But.set {p : Nat} {a b : Mem} (h : But p a b) {i : Nat} (hi : i = p ∨ a.size ≤ i) (o : AObj) : But p a (b.setIfInBounds i o) :=
 ⟨by simpa using h.1, fun j hj hp => by rw [get_set, if_neg (by omega)]; exact h.2 j hj hp⟩
theorem But.cells {p : Nat} {m m' : Mem} (h : But p m m') {b : Nat} {r : Bool} {c : Array Value} (hb : Mem.get m b = .cells r c) (hp : b ≠ p) : Mem.get m' b = .cells r c := by
 rw [h.2 b (live hb) hp, hb]
/-- Rows at work: bounds. -/
def SysOk (s : Sys) : Prop := ∀ k, (s.at k).1 < 2 ^ 24 ∧ (s.at k).2 < 2 ^ 40
theorem SysOk.lt {s : Sys} (h : SysOk s) : SysLt s := fun k => by have := h k; omega
theorem sCallF1 {P : Program} {ρ : Env} {m m' : Mem} {K : Env → Mem → Prop} {ops : Array Oper} {l : List Oper} {d : Option Nat} {ty : TypeId} {pos : String} {af : Array Edge} {v : Value} {f x : Operand} {tys : Array TypeId} {g : FuncId} {a b : Value}
  (hv : evR ρ f = .func (.func g) #[a] #[]) (hk : callable P g = true) (h1 : evR ρ x = b) (h : ACalls P g #[a, b] m v m') (hK : wpOps P ops K l (updO ρ d v) m') :
  wpOps P ops K (⟨d, .call ⟨.value f, ⟨[x]⟩, tys⟩, ty, pos, af, none⟩ :: l) ρ m := sCall hv hk (by simpa [h1] using h) hK
theorem aInt_lssNI {a : Nat} {b : Int} : aInt .lss .i64 (Int.ofNat a) b = some (.bool (decide (Int.ofNat a < b))) := by simp [aInt]
/-- What the table of math/bits for TrailingZeros64 holds. -/
def deB : List Nat := [0, 1, 56, 2, 57, 49, 28, 3, 61, 58, 42, 50, 38, 29, 17, 4, 62, 47, 59, 36, 45, 43, 51, 22, 53, 39, 33, 30, 24, 18, 12, 5, 63, 55, 48, 27, 60, 41, 37, 16, 46, 35, 44, 21, 52, 32, 23, 11, 54, 26, 40, 15, 34, 20, 31, 10, 25, 14, 19, 9, 13, 8, 7, 6]
def cellsB (l : List Nat) : Array Value := (l.map fun x => Value.int .u8 (Int.ofNat x)).toArray
/-- What the variables of the packages hold. -/
structure Glob (m : Mem) : Prop where
  col : ∃ r q rw es i j, Mem.get m 0 = .cells r #[.map (some q)] ∧ Mem.get m q = .map rw es ∧ aFindNow .bool (.bool true) es 0 = some (some (i, .agg #[.func (.func 139) #[] #[]])) ∧ aFindNow .bool (.bool false) es 0 = some (some (j, .agg #[.func (.func 140) #[] #[]]))
  deb : ∃ r, Mem.get m 2 = .cells r (cellsB deB)
/-- A slice of bytes that lies from N0 to N. -/
def BytesIn (N0 N : Nat) (m : Mem) (v : Value) (l : List Int) : Prop :=
  (l = [] ∧ ∃ q c, v = .slice q 0 c) ∨ ∃ b o cap r c, v = .slice (some ⟨b, o, some 1⟩) l.length cap ∧ N0 ≤ b ∧ b < N ∧ Mem.get m b = .cells r c ∧ ∀ i x, l[i]? = some x → c[o + i * 1]? = some (.int .u8 x)
theorem BytesIn.keep {N0 N : Nat} {m m' : Mem} {v : Value} {l : List Int} (h : BytesIn N0 N m v l) (hh : ∀ c, N0 ≤ c → c < N → Mem.get m' c = Mem.get m c) : BytesIn N0 N m' v l := by
 rcases h with h | ⟨b, o, cap, r, c, h1, h2, h3, h4, h5⟩
 ·exact .inl h
 ·exact .inr ⟨b, o, cap, r, c, h1, h2, h3, by rw [hh b h2 h3]; exact h4, h5⟩
/-- A store of bytes, that has been asked no more than k times: it lies from N0 to N. -/
def StoreAt (N0 N : Nat) (m : Mem) (b k : Nat) : Prop :=
  N ≤ b + 1 ∧ b < N ∧ N ≤ m.size ∧ ∃ bs nx st l, Mem.get m b = .cells true #[bs, nv nx, .int .u32 (Int.ofNat st)] ∧ nx ≤ k ∧ st < 4294967296 ∧ BytesIn N0 b m bs l ∧ l.length ≤ 300
theorem StoreAt.keep {N0 N : Nat} {m m' : Mem} {b k : Nat} (h : StoreAt N0 N m b k) (hN : N0 ≤ b) (hs : m.size ≤ m'.size) (hh : ∀ c, N0 ≤ c → c < N → Mem.get m' c = Mem.get m c) : StoreAt N0 N m' b k := by
 obtain ⟨h1, h2, h3, bs, nx, st, l, g1, g2, g3, g4, g5⟩ := h
 exact ⟨h1, h2, by omega, bs, nx, st, l, by rw [hh b (by omega) h2]; exact g1, g2, g3, g4.keep fun c a1 a2 => hh c a1 (by omega), g5⟩
/-- A slice of bytes that may be read. -/
def BytesAt (m : Mem) (v : Value) (l : List Int) : Prop :=
  (l = [] ∧ (v = .slice none 0 0 ∨ ∃ b o, v = .slice (some ⟨b, o, none⟩) 0 0)) ∨
  ∃ b o cap r c, v = .slice (some ⟨b, o, some 1⟩) l.length cap ∧ l.length ≤ cap ∧ Mem.get m b = .cells r c ∧ ∀ i x, l[i]? = some x → c[o + i]? = some (.int .u8 x)
theorem BytesAt.len {m : Mem} {v : Value} {l : List Int} (h : BytesAt m v l) : ∃ q cap, v = .slice q l.length cap := by
 rcases h with ⟨rfl, rfl | ⟨b, o, rfl⟩⟩ | ⟨b, o, cap, r, c, rfl, _, _⟩
 ·exact ⟨_, _, rfl⟩
 ·exact ⟨_, _, rfl⟩
 ·exact ⟨_, _, rfl⟩
theorem BytesIn.len {N0 N : Nat} {m : Mem} {v : Value} {l : List Int} (h : BytesIn N0 N m v l) : ∃ q cap, v = .slice q l.length cap := by
 rcases h with ⟨rfl, q, c, rfl⟩ | ⟨b, o, cap, r, c, rfl, _⟩
 ·exact ⟨_, _, rfl⟩
 ·exact ⟨_, _, rfl⟩
/-- Rows that are right. -/
structure Right (L : List Nat) (n : Nat) : Prop where
  n1 : 1 ≤ n
  n2 : n ≤ 16
  len : L.length ≤ 24
  lt : ∀ x ∈ L, x < 2 ^ n
theorem Ext.lowx {m0 m m' : Mem} {b : Nat} (h : Ext m0 m) (hx : LowX m.size b m m') (hb : m0.size ≤ b) : Ext m0 m' :=
 ⟨Nat.le_trans h.1 hx.1, fun c hc => (hx.2 c (by have := h.1; omega) (by omega)).trans (h.2 c hc)⟩
theorem Ext.only {m0 m m' : Mem} {b : Nat} (h : Ext m0 m) (hx : Only b m m') (hb : m0.size ≤ b) : Ext m0 m' := h.lowx hx.x hb
theorem OwnF.lowx {N b : Nat} {m m' : Mem} {v : Value} {l : List Int} (h : OwnF N m v l) (hx : LowX m.size b m m') (hb : b < N) : OwnF N m' v l := h.up fun c h1 h2 => hx.2 c h2 (by omega)
theorem StoreAt.lowx {N0 N : Nat} {m m' : Mem} {b k c : Nat} (h : StoreAt N0 N m b k) (hN0 : N0 ≤ b) (hx : LowX m.size c m m') (hc : c < N0 ∨ N ≤ c) : StoreAt N0 N m' b k :=
 h.keep hN0 hx.1 fun d h1 h2 => hx.2 d (by have := h.2.2.1; omega) (by omega)
theorem StoreAt.only {N0 N : Nat} {m m' : Mem} {b k c : Nat} (h : StoreAt N0 N m b k) (hN0 : N0 ≤ b) (hx : Only c m m') (hc : c < N0 ∨ N ≤ c) : StoreAt N0 N m' b k := h.lowx hN0 hx.x hc
theorem StoreAt.lt {N0 N : Nat} {m : Mem} {b k : Nat} (h : StoreAt N0 N m b k) : b < N ∧ N ≤ m.size := ⟨h.2.1, h.2.2.1⟩
end Go.AM

/-! P1 -/
namespace Go.AM
open Go.Proofs
theorem okf28 : okF Tryd.prog H0 28 26 = true := by kernel_rfl
theorem spec_Equal {m : Mem} {a b : Value} {l r : List Int} (ha : IntsAt m a l) (hb : IntsAt m b r) (hl : l.length < 4611686018427387904) : ACalls Tryd.prog 28 #[a, b] m (.bool (decide (l = r))) m := by
 suffices h : ∃ v m', ACalls Tryd.prog 28 #[a, b] m v m' ∧ (v = .bool (decide (l = r)) ∧ m' = m) by
  obtain ⟨v, m', h, rfl, rfl⟩ := h; exact h
 obtain ⟨qa, ca, rfl⟩ := ha.len
 obtain ⟨qb, cb, rfl⟩ := hb.len
 refine wpF (args := [_, _]) mixed okf28 (fn := Tryd.f28) rfl rfl rfl (by simp) ?_
 refine cSR ?_
 refine sAb rfl ?_
 refine sNil (kSeqN (cSeq ?_))
 refine cSR ?_
 refine sMs rfl ?_
 refine sLen T22 rfl ?_
 refine sMs rfl ?_
 refine sLen T22 rfl ?_
 refine sBin rfl rfl aInt_neq ?_
 refine sN ?_
 refine cCond rfl (fun hc => ?_) (fun hc => ?_)
 ·refine cSR ?_
  refine sAb rfl ?_
  refine sNil (kSeqN (cRet ?_))
  refine ⟨.inr rfl, _, rfl, ?_, rfl⟩
  have : l ≠ r := fun e => hc (by rw [e])
  simp [oneOf, this, updO]
 have hlen : l.length = r.length := Decidable.not_not.1 hc
 refine cSkip (kSeqN (cSeq ?_))
 refine cSR ?_
 refine sMs rfl ?_
 refine sLen T22 rfl ?_
 refine sMn rfl ?_
 refine sNil (kSeqN (cBlock ?_))
 refine wpC_loop (fun k ρ m' => ∃ i, k = l.length - i ∧ i ≤ l.length ∧ m' = m ∧ (∀ j, j < i → l[j]? = r[j]?) ∧ Has ρ [(0, .slice qa l.length ca), (1, .slice qb r.length cb), (12, nv l.length), (13, nv i)]) ⟨0, rfl, by omega, rfl, by omega, rfl, rfl, rfl, rfl, trivial⟩ ?_
 rintro k ρ _ ⟨i, rfl, hi, rfl, hj, hh⟩
 rw [hh.env]; clear hh
 refine cSR ?_
 refine sBin rfl rfl aInt_lss ?_
 refine sNil (kSeqN (cSeq ?_))
 refine cCond rfl (fun hc => ?_) (fun hc => ?_)
 rotate_left
 ·have hil : i = l.length := by omega
  subst hil
  have he : l = r := by
   apply List.ext_getElem? fun j => ?_
   by_cases h : j < l.length
   ·exact hj j h
   ·rw [List.getElem?_eq_none (by omega), List.getElem?_eq_none (by omega)]
  refine cExit (kSeqE (kSeqE (kBlkS (kSeqN (cSR ?_)))))
  refine sAb rfl ?_
  refine sNil (kSeqN (cRet ?_))
  exact ⟨.inr rfl, _, rfl, by simp [oneOf, he, updO], rfl⟩
 refine cSkip (kSeqN (cSeq (cBlock ?_)))
 obtain ⟨b1, o1, p1, r1, c1, e1, g1, x1⟩ := ha.at (by omega)
 obtain ⟨b2, o2, p2, r2, c2, e2, g2, x2⟩ := hb.at (by omega)
 cases e1; cases e2
 refine cSR ?_
 refine sMn rfl ?_
 refine sAn rfl ?_
 refine sNil (kSeqN (cSeq (cDraw rfl ?_)))
 refine sMs rfl ?_
 refine sMn rfl ?_
 refine sIx T22 S3 rfl rfl (by omega) ?_
 refine sLd A3 rfl g1 (x1 i l[i] (by simp)) ?_
 refine sMs rfl ?_
 refine sMn rfl ?_
 refine sIx T22 S3 rfl rfl (by omega) ?_
 refine sLd A3 rfl g2 (x2 i (r[i]'(by omega)) (by simp)) ?_
 refine sBinI rfl rfl aInt_neqI ?_
 refine sN ?_
 refine cCond rfl (fun hd => ?_) (fun hd => ?_)
 ·refine cSR ?_
  refine sAb rfl ?_
  refine sNil (kSeqN (cRet (kBlkR (kSeqR (kSeqR (kBlkR (kSeqR ?_)))))))
  have : l ≠ r := fun e => hd (by subst e; rfl)
  exact ⟨.inr rfl, _, rfl, by simp [oneOf, this, updO], rfl⟩
 refine cSkip (kBlkN (kSeqN (cRegion ?_)))
 refine sBin rfl rfl (aInt_add (b := 1) (by omega)) ?_
 refine sMn rfl ?_
 refine sNil (kSeqN ⟨_, ?_, i + 1, rfl, by omega, rfl, ?_, rfl, rfl, rfl, rfl, trivial⟩)
 ·omega
 ·intro j hji
  by_cases h : j < i
  ·exact hj j h
  ·obtain rfl : j = i := by omega
   rw [List.getElem?_eq_getElem (by omega), List.getElem?_eq_getElem (by omega), Decidable.not_not.1 hd]
theorem okf138 : okF Tryd.prog H0 138 19 = true := by kernel_rfl
theorem spec_IndexFunc {m : Mem} {a : Value} {l : List Int} {g : FuncId} {cp : Array Value} {p : Int → Bool} (ha : IntsAt m a l) (hl : l.length < 4611686018427387904) (hk : callable Tryd.prog g = true)
  (hp : ∀ x, x ∈ l → ACalls Tryd.prog g (#[.int .i64 x] ++ cp) m (.bool (p x)) m) : ∃ i : Int, ACalls Tryd.prog 138 #[a, .func (.func g) #[] cp] m (.int .i64 i) m ∧ (0 ≤ i ↔ l.any p = true) := by
 suffices h : ∃ v m', ACalls Tryd.prog 138 #[a, .func (.func g) #[] cp] m v m' ∧ (∃ i : Int, v = .int .i64 i ∧ m' = m ∧ (0 ≤ i ↔ l.any p = true)) by
  obtain ⟨v, m', h, i, rfl, rfl, h2⟩ := h; exact ⟨i, h, h2⟩
 obtain ⟨q, cap, rfl⟩ := ha.len
 refine wpF (args := [_, _]) mixed okf138 (fn := Tryd.f138) rfl rfl rfl (by simp) ?_
 refine cSR ?_
 refine sAn rfl ?_
 refine sN ?_
 refine cSeq (cSR ?_)
 refine sMs rfl ?_
 refine sLen T22 rfl ?_
 refine sMn rfl ?_
 refine sN ?_
 refine cBlock ?_
 refine wpC_loop (fun k ρ m' => ∃ i, k = l.length - i ∧ i ≤ l.length ∧ (∀ j x, j < i → l[j]? = some x → p x = false) ∧ m' = m ∧ Has ρ [(0, .slice q l.length cap), (1, .func (.func g) #[] cp), (7, nv l.length), (8, nv i)]) ⟨0, rfl, by omega, by omega, rfl, rfl, rfl, rfl, rfl, trivial⟩ ?_
 rintro k ρ _ ⟨i, rfl, hi, hj, rfl, hh⟩
 rw [hh.env]; clear hh
 refine cSR ?_
 refine sBin rfl rfl (aInt_lss) ?_
 refine sN ?_
 refine cSeq ?_
 refine cCond rfl (fun hc => ?_) (fun hc => ?_)
 ·refine cSkip (kSeqN ?_)
  obtain ⟨b1, o1, p1, r1, c1, e1, g1, x1⟩ := ha.at (by omega)
  cases e1
  refine cSeq (cBlock (cSR ?_))
  refine sMn rfl ?_
  refine sAn rfl ?_
  refine sN ?_
  refine cSR ?_
  refine sMv (v := .func _ _ _) rfl ?_
  refine sMs rfl ?_
  refine sMn rfl ?_
  refine sIx T22 S3 rfl rfl (by omega) ?_
  refine sLd A3 rfl g1 (x1 i l[i] (by simp)) ?_
  refine sCall rfl hk (by simpa [evR, updO] using hp l[i] (by simp)) ?_
  refine sN ?_
  refine cCond (p := p l[i] = true) (by simp [evR, updO]) (fun hd => ?_) (fun hd => ?_)
  ·refine cSeq ?_
   refine cRegion ?_
   refine sMn rfl ?_
   refine sAn rfl ?_
   refine sN ?_
   refine cRet (kBlkR (kSeqR (kSeqR (kBlkR (kSeqR ?_)))))
   refine ⟨.inr rfl, _, rfl, Int.ofNat i, by simp [oneOf, updO], rfl, ?_⟩
   have : l.any p = true := List.any_eq_true.2 ⟨l[i], by simp, hd⟩
   simp [this]
  ·refine cSkip (kBlkN (kSeqN ?_))
   refine cRegion ?_
   refine sBin rfl rfl (aInt_add (b := 1) (by omega)) ?_
   refine sMn rfl ?_
   refine sN ?_
   refine ⟨_, ?_, i + 1, rfl, by omega, ?_, rfl, rfl, rfl, rfl, rfl, trivial⟩
   ·omega
   ·intro j x hji hx
    by_cases h : j < i
    ·exact hj j x h hx
    ·obtain rfl : j = i := by omega
     rw [List.getElem?_eq_getElem (by omega)] at hx
     cases hx
     simpa using hd
 ·refine cExit (kSeqE (kSeqE (kBlkS (kSeqN ?_))))
  refine cSR ?_
  refine sAs (v := .int _ _) rfl ?_
  refine sN ?_
  refine cRet ?_
  refine ⟨.inr rfl, _, rfl, Int.negSucc 0, rfl, rfl, ?_⟩
  have : l.any p = false := by
   rw [Bool.eq_false_iff]
   intro h
   obtain ⟨x, hx, hpx⟩ := List.any_eq_true.1 h
   obtain ⟨j, hjl, rfl⟩ := List.getElem_of_mem hx
   have := hj j l[j] (by omega) (by simp)
   rw [this] at hpx; cases hpx
  simp [this]
theorem okf107 : okF Tryd.prog H0 107 9 = true := by kernel_rfl
theorem spec_ContainsFunc {m : Mem} {a : Value} {l : List Int} {g : FuncId} {cp : Array Value} {p : Int → Bool} (ha : IntsAt m a l) (hl : l.length < 4611686018427387904) (hk : callable Tryd.prog g = true)
  (hp : ∀ x, x ∈ l → ACalls Tryd.prog g (#[.int .i64 x] ++ cp) m (.bool (p x)) m) : ACalls Tryd.prog 107 #[a, .func (.func g) #[] cp] m (.bool (l.any p)) m := by
 suffices h : ∃ v m', ACalls Tryd.prog 107 #[a, .func (.func g) #[] cp] m v m' ∧ (v = .bool (l.any p) ∧ m' = m) by
  obtain ⟨v, m', h, rfl, rfl⟩ := h; exact h
 obtain ⟨i, hi, hi2⟩ := spec_IndexFunc ha hl hk hp
 obtain ⟨q, cap, rfl⟩ := ha.len
 refine wpF (args := [_, _]) mixed okf107 (fn := Tryd.f107) rfl rfl rfl (by simp) ?_
 refine cSR ?_
 refine sAb rfl ?_
 refine sN ?_
 refine cSR ?_
 refine sMs rfl ?_
 refine sMv (v := .func _ _ _) rfl ?_
 refine sCall rfl call138 (by simpa [evR, updO] using hi) ?_
 refine sP (v := .bool (l.any p)) ?_ ?_
 ·have : (decide (i ≥ 0)) = l.any p := by rw [Bool.eq_iff_iff, ← hi2]; simp
  simp [aPure, evR, updO, aBin, aInt]
  simpa using this
 refine sAb rfl ?_
 refine sN ?_
 refine cRet ?_
 exact ⟨.inr rfl, _, rfl, rfl, rfl⟩
end Go.AM

/-! P2 -/
namespace Go.AM
open Go.Proofs
theorem eq22 {q : Option Addr} {n c : Nat} : aBin Tryd.prog .eql 22 (.slice q n c) (.slice none 0 0) = some (.bool (decide (q = none))) := by
 cases q <;> kernel_rfl
theorem okf15 : okF Tryd.prog H0 15 8 = true := by kernel_rfl
theorem spec_Clone {m : Mem} {a : Value} {l : List Int} (ha : IntsAt m a l) (hl : l.length ≤ 1000000) : ∃ v m', ACalls Tryd.prog 15 #[a] m v m' ∧ (OwnF m.size m' v l ∧ Ext m m') := by
 obtain ⟨q, cap, rfl⟩ := ha.len
 refine wpF (args := [_]) mixed okf15 (fn := Tryd.f15) rfl rfl rfl (by simp) ?_
 refine cSR ?_
 refine sAs (v := .slice _ _ _) rfl ?_
 refine sN ?_
 refine cSeq (cSR ?_)
 refine sMs rfl ?_
 refine sP (v := .bool (decide (q = none))) eq22 ?_
 refine sN ?_
 refine cCond rfl (fun c0 => ?_) (fun c0 => ?_)
 ·
  refine cSR ?_
  refine sAs (v := .slice _ _ _) rfl ?_
  refine sN ?_
  refine cRet (kSeqR ?_)
  subst c0
  have : l = [] := by
   rcases ha with ⟨h, _⟩ | ⟨b, o, cp, r, c, h, _⟩
   ·exact h
   ·cases h
  subst this
  exact ⟨.inr rfl, _, rfl, .nil _ _, .refl _⟩
 ·
  refine cSkip (kSeqN ?_)
  refine cSR ?_
  refine sBuildS (c := #[]) T22 S3 Z3 (by decide) (by decide) (by decide) (by kernel_rfl) rfl rfl ?_
  refine sMs rfl ?_
  refine sApp App22 rfl rfl (N := m.size) (p := []) (.inr ⟨m.size, 0, #[], rfl, Nat.le_refl _, gP rfl, by simp, by simp, by simp⟩) (ha.ext (.push _ _)) (by simp) (by simp; omega) fun v3 m3 hO3 hL3 => ?_
  rw [List.nil_append] at hO3
  obtain ⟨q3, cp3, rfl⟩ := hO3.ints.len
  refine sAs (v := .slice _ _ _) rfl ?_
  refine sN ?_
  refine cRet ?_
  exact ⟨.inr rfl, _, rfl, hO3, hL3.to_ext (.push _ _) (Nat.le_refl _)⟩
end Go.AM

/-! M20 -/
namespace Go.AM
/-- A right graph in whole numbers that are not below 0. -/
structure Dag (N : List (List Nat)) : Prop where
  one : 1 ≤ N.length
  ten : N.length ≤ 10
  two : ∀ g ∈ N, g.length ≤ 2
  less : ∀ (i : Nat) (g : List Nat), N[i]? = some g → ∀ k ∈ g, k < i
  rise : ∀ g ∈ N, g.Pairwise (· < ·)
/-- Some nodes as a position. -/
def posFrom (x : Nat) (l : List Nat) : Nat := l.foldl (fun x n => x ||| 2 ^ n) x
def posM (l : List Nat) : Nat := posFrom 0 l
theorem posFrom_bit (i : Nat) : ∀ (l : List Nat) (x : Nat), (posFrom x l).testBit i = (x.testBit i || decide (i ∈ l))
 | [], x => by simp [posFrom]
 | n :: l, x => by
  rw [posFrom, List.foldl_cons]
  rw [show l.foldl (fun x n => x ||| 2 ^ n) (x ||| 2 ^ n) = posFrom (x ||| 2 ^ n) l from rfl, posFrom_bit i l, Nat.testBit_or, Nat.testBit_two_pow]
  by_cases h : n = i
  ·subst h; simp
  ·have h' : ¬ i = n := fun e => h e.symm
   simp [h, h']
theorem posM_bit (i : Nat) (l : List Nat) : (posM l).testBit i = decide (i ∈ l) := by rw [posM, posFrom_bit]; simp
theorem posFrom_lt {n : Nat} : ∀ {l : List Nat} {x : Nat}, x < 2 ^ n → (∀ k ∈ l, k < n) → posFrom x l < 2 ^ n
 | [], x, hx, _ => hx
 | k :: l, x, hx, h => by
  rw [posFrom, List.foldl_cons]
  exact posFrom_lt (Nat.or_lt_two_pow hx (Nat.pow_lt_pow_right (by omega) (h k (by simp)))) fun j hj => h j (by simp [hj])
theorem posM_lt {n : Nat} {l : List Nat} (h : ∀ k ∈ l, k < n) : posM l < 2 ^ n := posFrom_lt (Nat.two_pow_pos n) h
/-- What the nodes need, as positions. -/
def needsM (N : List (List Nat)) : List Nat := N.map posM
@[simp] theorem needsM_length (N : List (List Nat)) : (needsM N).length = N.length := by simp [needsM]
theorem Dag.needs_lt {N : List (List Nat)} (h : Dag N) {i x : Nat} (hi : (needsM N)[i]? = some x) : x < 2 ^ i := by
  simp only [needsM, List.getElem?_map, Option.map_eq_some_iff] at hi
  obtain ⟨g, hg, rfl⟩ := hi
  exact posM_lt (h.less i g hg)
structure Goals (n : Nat) (gs : List Nat) : Prop where
  pos : 0 < gs.length
  lt : ∀ g ∈ gs, g < n
  rise : gs.Pairwise (· < ·)
end Go.AM

/-! P3 -/
namespace Go.AM
open Go.Proofs
end Go.AM

/-! G3 -/
namespace Go.AM
theorem resRs_agg2 {P : Program} {ρ : Env} {m : Mem} {a ty b s t : Nat} {r : Bool} {c : Array Value} (ht : isAggT P ty = some true) (hs : szOf P ty = some s) (hx : ρ a = .pointer (some ⟨b, 0, none⟩)) (hb : Mem.get m b = .cells r c) (hc : c.size = s) :
  resRs P ρ m [.cell a ty, .tmp t] = some [.agg c, ρ t] := by
 have : aLoad P m ty (ρ a) = some (.agg c) := by
  simp only [aLoad, hx, hb, ht, hs]
  rw [if_pos (by omega), Nat.zero_add, ← hc, Array.extract_size]
 simp only [resRs, resR, this]
theorem Low.le {N N' : Nat} {m m' : Mem} (h : Low N m m') (hN : N' ≤ N) : Low N' m m' := ⟨h.1, fun b hb => h.2 b (by omega)⟩
section
variable {P : Program} {n : Nat} {ρ : Env} {m m' : Mem} {K : List Ent → Env → Mem → Prop} {ops : Array Oper} {l : List Oper} {log : List Ent}
  {d : Option Nat} {i : Nat} {op : Op} {ty t tz : TypeId} {pos : String} {af : Array Edge} {v : Value} {x y : Operand}
theorem readLdA {m : Mem} {bl s : Nat} {rw_ : Bool} {c : Array Value} (ht : isAggT P t = some true) (hs : szOf P t = some s) (hx : evR ρ x = .pointer (some ⟨bl, 0, none⟩)) (hb : Mem.get m bl = .cells rw_ c) (hc : c.size = s) : aRead P m (evR ρ) (.load t x) = some (.agg c) := by
 simp only [aRead, aLoad, hx, hb, ht, hs]
 rw [if_pos (by omega), Nat.zero_add, ← hc, Array.extract_size]
theorem lStepLdA {bl s : Nat} {rw_ : Bool} {c : Array Value} (ht : isAggT P t = some true) (hs : szOf P t = some s) (hx : evR ρ x = .pointer (some ⟨bl, 0, none⟩)) (hb : Mem.get m bl = .cells rw_ c) (hc : c.size = s)
  (hk : ∀ e : Ent, e.m = m → e.v = .agg c → (∀ M r, Mem.get M bl = .cells r c → aRead P M (evR e.ρ) (.load t x) = some (.agg c)) → wpLog P ops K l (log ++ [e]) (updO ρ d (.agg c)) m) :
  wpLog P ops K (⟨d, .load t x, ty, pos, af, none⟩ :: l) log ρ m := by
 refine ⟨fun hw => ?_, fun hn => absurd trivial hn⟩
 refine wpOp_opF (v := .agg c) (m' := m) (opF_read rfl (readLdA ht hs hx hb hc)) ?_
 exact hk ⟨ρ, m, .agg c⟩ rfl rfl fun M r h1 => readLdA ht hs hx h1 hc
theorem lStepLen {e : TypeId} {q : Option Addr} {len cap : Nat} {tys : TypeId} (ht : undOf P tys = some (.slice e)) (hx : evR ρ x = .slice q len cap)
  (hk : ∀ e : Ent, e.m = m → e.v = nv len → aPure P (evR e.ρ) (.call ⟨.builtin .len, ⟨[x]⟩, ⟨[tys]⟩⟩) = some (nv len) → wpLog P ops K l (log ++ [e]) (updO ρ d (nv len)) m) :
  wpLog P ops K (⟨d, .call ⟨.builtin .len, ⟨[x]⟩, ⟨[tys]⟩⟩, ty, pos, af, none⟩ :: l) log ρ m := by
 have h : aPure P (evR ρ) (.call ⟨.builtin .len, ⟨[x]⟩, ⟨[tys]⟩⟩) = some (nv len) := by
  simp only [aPure, hx, aLen, ht]; rfl
 refine ⟨fun hw => ?_, fun hn => absurd trivial hn⟩
 exact wpOp_opF (v := nv len) (m' := m) (opF_pure h) (hk ⟨ρ, m, nv len⟩ rfl rfl h)
theorem lG {j : Nat} {q : Bool} {dj : Nat} (hd : (ops.toList[j]?).bind (·.dst) = some dj) (hq : ρ dj = .bool q) (h : wpLog P ops K (⟨d, op, ty, pos, af, none⟩ :: l) log ρ m) :
  wpLog P ops K (⟨d, op, ty, pos, af, some (j, q)⟩ :: l) log ρ m :=
 ⟨fun _ => h.1 trivial, fun hn => absurd (by unfold wantR; simp only [hd]; exact hq) hn⟩
theorem lGno {j : Nat} {q q' : Bool} {dj : Nat} (hd : (ops.toList[j]?).bind (·.dst) = some dj) (hq : ρ dj = .bool q') (hne : q' ≠ q) (h : ∀ e : Ent, e.m = m → e.ρ dj = .bool q' → wpLog P ops K l (log ++ [e]) (updO ρ d Go.undef) m) :
  wpLog P ops K (⟨d, op, ty, pos, af, some (j, q)⟩ :: l) log ρ m :=
 ⟨fun hw => absurd hw (by unfold wantR; simp only [hd]; rw [hq]; simpa using hne), fun _ => h ⟨ρ, m, Go.undef⟩ rfl hq⟩
end
theorem obl_no {P : Program} {l : List Oper} {log : List Ent} {m' : Mem} {i k : Nat} {hs : List (Nat × Nat)} {e : Ent} {o : Oper} {v : Value} {j dj : Nat} {q : Bool} (h1 : log[i]? = some e) (h2 : l[i]? = some o) (hg : o.guard = some (j, q)) (hd : (l[j]?).bind (·.dst) = some dj) (hv : e.ρ dj = v) (hne : v ≠ .bool q)
  (hr : obl P ⟨l⟩ log m' hs) : obl P ⟨l⟩ log m' ((i, k) :: hs) := by
 refine ⟨?_, hr⟩
 have h2' : (Array.mk l).toList[i]? = some o := h2
 rw [h1, h2']
 intro hw
 have hd' : ((Array.mk l).toList[j]?).bind (·.dst) = some dj := hd
 simp only [wantR, hg, hd', hv] at hw
 exact absurd hw hne
/-! ### Maps -/
section
variable {P : Program} {ρ : Env} {m m' : Mem} {K : Env → Mem → Prop} {ops : Array Oper} {l : List Oper}
  {d : Option Nat} {ty t : TypeId} {pos : String} {af : Array Edge} {v : Value} {x y z : Operand}
theorem MapAt.lt {m : Mem} {b : Nat} {es : List (Nat × Nat)} (h : MapAt m b es) : b < m.size := Mem.lt_of_live (by rw [h]; rfl)
theorem sMkMap (hk : wpOps P ops K l (updO ρ d (.map (some m.size))) (m.push (.map true []))) : wpOps P ops K (⟨d, .makeMap t none, ty, pos, af, none⟩ :: l) ρ m :=
 sO (opF_eff rfl rfl (by simp only [aEff, aMakeMap, Option.map_none])) hk
structure MapT (P : Program) (t : TypeId) : Prop where
  e : ∃ kt et, undOf P t = some (.map kt et) ∧ undOf P kt = some (.int .i64) ∧ zeroOf P et = some (nv 0)
end
/-! ### Rows whose elements are several cells -/
structure ElemT (P : Program) (t xt : TypeId) (w : Nat) : Prop where
  e : ∃ e ux z k, undOf P t = some (.slice e) ∧ undOf P xt = some ux ∧ isIntT ux = false ∧ szOf P e = some w ∧ zeroOf P e = some z ∧ z.cells.size = w ∧ bytesOf' P e = some k ∧ k ≤ 1000 ∧ 0 < w
/-- A slice of one's own with n elements of w cells. -/
def OwnC (N : Nat) (m : Mem) (v : Value) (w n : Nat) (cs : Array Value) : Prop :=
  (v = .slice none 0 0 ∧ n = 0 ∧ cs = #[]) ∨ ∃ b cap c, v = .slice (some ⟨b, 0, some w⟩) n cap ∧ N ≤ b ∧ Mem.get m b = .cells true c ∧ n ≤ cap ∧ c.size = cap * w ∧ cs.size = n * w ∧ ∀ i, i < n * w → c[i]? = cs[i]?
theorem OwnC.nil (N : Nat) (m : Mem) (w : Nat) : OwnC N m (.slice none 0 0) w 0 #[] := .inl ⟨rfl, rfl, rfl⟩
theorem OwnC.len {N : Nat} {m : Mem} {v : Value} {w n : Nat} {cs : Array Value} (h : OwnC N m v w n cs) : ∃ q cap, v = .slice q n cap := by
 rcases h with ⟨rfl, rfl, _⟩ | ⟨b, cap, c, rfl, _⟩ <;> exact ⟨_, _, rfl⟩
theorem OwnC.size {N : Nat} {m : Mem} {v : Value} {w n : Nat} {cs : Array Value} (h : OwnC N m v w n cs) : cs.size = n * w := by
 rcases h with ⟨rfl, rfl, rfl⟩ | ⟨b, cap, c, rfl, _, _, _, _, h, _⟩
 ·simp
 ·exact h
theorem OwnC.up {N : Nat} {m m' : Mem} {v : Value} {w n : Nat} {cs : Array Value} (h : OwnC N m v w n cs) (hu : ∀ b, N ≤ b → b < m.size → Mem.get m' b = Mem.get m b) : OwnC N m' v w n cs := by
 rcases h with h | ⟨b, cap, c, h1, h2, h3, h4⟩
 ·exact .inl h
 ·exact .inr ⟨b, cap, c, h1, h2, by rw [hu b h2 (live h3), h3], h4⟩
theorem OwnC.ext {N : Nat} {m m' : Mem} {v : Value} {w n : Nat} {cs : Array Value} (h : OwnC N m v w n cs) (he : Ext m m') : OwnC N m' v w n cs := h.up fun b _ hb => he.2 b hb
theorem OwnC.mono {N N' : Nat} {m : Mem} {v : Value} {w n : Nat} {cs : Array Value} (h : OwnC N m v w n cs) (hN : N' ≤ N) : OwnC N' m v w n cs := by
 rcases h with h | ⟨b, cap, c, h1, h2, h3⟩
 ·exact .inl h
 ·exact .inr ⟨b, cap, c, h1, by omega, h3⟩
theorem OwnC.at {N : Nat} {m : Mem} {v : Value} {w n : Nat} {cs : Array Value} (h : OwnC N m v w n cs) (hn : 0 < n) : ∃ b cap c, v = .slice (some ⟨b, 0, some w⟩) n cap ∧ N ≤ b ∧ Mem.get m b = .cells true c ∧ n * w ≤ c.size ∧ ∀ i, i < n * w → c[i]? = cs[i]? := by
 rcases h with ⟨rfl, rfl, _⟩ | ⟨b, cap, c, h1, h2, h3, h4, h5, h6, h7⟩
 ·omega
 ·exact ⟨b, cap, c, h1, h2, h3, by rw [h5]; exact Nat.mul_le_mul_right w h4, h7⟩
/-- The block of a slice. -/
def blkOf : Value → Option Nat
  | .slice (some q) _ _ => some q.block
  | _ => none
/-- Behind an append: what another block held is as it was; the slice is where it was, or new. -/
def Grew (m : Mem) (v : Value) (m' : Mem) (v' : Value) : Prop := m.size ≤ m'.size ∧ (∀ b, b < m.size → blkOf v ≠ some b → Mem.get m' b = Mem.get m b) ∧ (blkOf v' = blkOf v ∨ ∃ b, blkOf v' = some b ∧ m.size ≤ b)
theorem ownC_append {P : Program} {t xt : TypeId} {N : Nat} {m : Mem} {v : Value} {w n bx k : Nat} {rx : Bool} {cs d : Array Value} (hT : ElemT P t xt w) (h : OwnC N m v w n cs) (hx : Mem.get m bx = .cells rx d) (hd : d.size = w) (h1 : d.all Value.oneCell' = true) (hN : N ≤ m.size) (hn : n ≤ 1000000) :
  ∃ v' m', aAppend P m t xt v (.slice (some ⟨bx, 0, some w⟩) 1 k) = some (v', m') ∧ OwnC N m' v' w (n + 1) (cs ++ d) ∧ Low N m m' ∧ Grew m v m' v' := by
 obtain ⟨e, ux, z, kb, t1, t2, t3, t4, t5, t6, t7, t8, t9⟩ := hT.e
 have hf : aFirst m w 1 (.slice (some ⟨bx, 0, some w⟩) 1 k) = some d := by
  unfold aFirst
  simp only [hx]
  rw [if_neg (by omega), if_pos (by omega)]
  congr 1
  have : 0 + 1 * w = d.size := by omega
  rw [this, Array.extract_size]
 have hl : aLenOf (.slice (some ⟨bx, 0, some w⟩) 1 k) = some 1 := rfl
 unfold aAppend
 simp only [t1, t2, t3, t4, t5, t7, hl, hf]
 rw [if_pos ⟨t9, t6, by omega, h1⟩]
 rcases h with ⟨rfl, rfl, rfl⟩ | ⟨b, cap, c, rfl, g2, g3, g4, g5, g6, g7⟩
 ·simp only [if_neg (show ¬ (1 = 0) by decide)]
  rw [if_pos ⟨by omega, by omega⟩]
  exact ⟨_, _, rfl, .inr ⟨m.size, 1, d, rfl, hN, gP rfl, by omega, by omega, by simp; omega, fun i _ => by simp⟩, .push N hN _, by simp, fun b hb _ => gPn hb, .inr ⟨m.size, rfl, Nat.le_refl _⟩⟩
 ·have hb := live g3
  simp only [if_true, g3, if_neg (show ¬ (1 = 0) by decide)]
  have e1 : n * w + w = (n + 1) * w := by rw [Nat.add_mul, Nat.one_mul]
  by_cases hc : n + 1 ≤ cap
  ·have hcw : (n + 1) * w ≤ cap * w := Nat.mul_le_mul_right w hc
   rw [if_pos hc, if_pos (by omega)]
   refine ⟨_, _, rfl, .inr ⟨b, cap, lay c (0 + n * w) d, rfl, g2, gS rfl hb, hc, by rw [lay_size]; exact g5, by rw [Array.size_append]; omega, fun i hi => ?_⟩, .set g2 _, by simp, fun b' _ hne => gSn (fun e => hne (by rw [← e]; rfl)), .inl rfl⟩
   rw [lay_get', hd]
   by_cases hil : i < n * w
   ·rw [if_neg (by omega), g7 i hil, Array.getElem?_append_left (by omega)]
   ·rw [if_pos (by omega), Array.getElem?_append_right (by omega)]
    congr 1; omega
  ·rw [if_neg hc]
   have hle : n * w ≤ c.size := by rw [g5]; exact Nat.mul_le_mul_right w g4
   have hbb : (n + 1) * kb ≤ 70368744177664 := Nat.le_trans (Nat.mul_le_mul (show n + 1 ≤ 1000001 by omega) t8) (by decide)
   rw [if_pos ⟨trivial, hle, by omega, hbb⟩]
   refine ⟨_, _, rfl, .inr ⟨m.size, n + 1, _, rfl, hN, gP (by simp), Nat.le_refl _, ?_, by rw [Array.size_append]; omega, fun i hi => ?_⟩, .push' (.set g2 _) (by simpa using hN) _, by simp, fun b' hb' hne => by rw [gPn (by simpa using hb'), gSn (fun e => hne (by rw [← e]; rfl))], .inr ⟨m.size, rfl, Nat.le_refl _⟩⟩
   ·simp only [Array.size_append, Array.size_extract]; omega
   ·by_cases hil : i < n * w
    ·rw [Array.getElem?_append_left (by simp; omega), Array.getElem?_append_left (by omega), Array.getElem?_extract, if_pos (by omega)]
     simpa using g7 i hil
    ·rw [Array.getElem?_append_right (by simp; omega), Array.getElem?_append_right (by omega)]
     congr 1
     simp; omega
theorem sAppC {P : Program} {ρ : Env} {m : Mem} {K : Env → Mem → Prop} {ops : Array Oper} {l : List Oper} {dd : Option Nat} {ty : TypeId} {pos : String} {af : Array Edge} {x y : Operand} {t xt : TypeId} {N : Nat} {v : Value} {w n bx k : Nat} {rx : Bool} {cs d : Array Value}
  (hT : ElemT P t xt w) (hx : evR ρ x = v) (hy : evR ρ y = .slice (some ⟨bx, 0, some w⟩) 1 k) (h : OwnC N m v w n cs) (hb : Mem.get m bx = .cells rx d) (hd : d.size = w) (h1 : d.all Value.oneCell' = true) (hN : N ≤ m.size) (hn : n ≤ 1000000)
  (hk : ∀ v' m', OwnC N m' v' w (n + 1) (cs ++ d) → Low N m m' → Grew m v m' v' → wpOps P ops K l (updO ρ dd v') m') : wpOps P ops K (⟨dd, .call ⟨.builtin .append, ⟨[x, y]⟩, ⟨[t, xt]⟩⟩, ty, pos, af, none⟩ :: l) ρ m := by
 obtain ⟨v', m', e1, h2, h3, h4⟩ := ownC_append (k := k) hT h hb hd h1 hN hn
 refine sO (opF_eff rfl rfl ?_) (hk v' m' h2 h3 h4)
 simp only [aEff, hx, hy, e1]
/-- Rows of one's own: each row in a place of its own. -/
def OwnR (N : Nat) (m : Mem) (v : Value) (cs : Array Value) (G : List (List Int)) : Prop :=
  OwnC N m v 1 G.length cs ∧ ∀ (i : Nat) (g : List Int), G[i]? = some g → ∃ s, cs[i]? = some s ∧ OwnF N m s g ∧ ∀ b, blkOf s = some b → blkOf v ≠ some b
theorem OwnC.lt {N : Nat} {m : Mem} {v : Value} {w n b : Nat} {cs : Array Value} (h : OwnC N m v w n cs) (hb : blkOf v = some b) : N ≤ b ∧ b < m.size := by
 rcases h with ⟨rfl, _⟩ | ⟨b', cap, c, rfl, h2, h3, _⟩
 ·cases hb
 ·obtain rfl : b' = b := Option.some.inj hb
  exact ⟨h2, live h3⟩
theorem OwnF.lt {N : Nat} {m : Mem} {v : Value} {l : List Int} {b : Nat} (h : OwnF N m v l) (hb : blkOf v = some b) : N ≤ b ∧ b < m.size := by
 rcases h with ⟨rfl, rfl⟩ | ⟨b', cap, c, rfl, h2, h3, _⟩
 ·cases hb
 ·obtain rfl : b' = b := Option.some.inj hb
  exact ⟨h2, live h3⟩
theorem OwnF.keep {N : Nat} {m m' : Mem} {v : Value} {l : List Int} (h : OwnF N m v l) (hu : ∀ b, blkOf v = some b → Mem.get m' b = Mem.get m b) : OwnF N m' v l := by
 rcases h with h | ⟨b, cap, c, rfl, h2, h3, h4⟩
 ·exact .inl h
 ·exact .inr ⟨b, cap, c, rfl, h2, by rw [hu b rfl, h3], h4⟩
theorem OwnR.rows {N : Nat} {m : Mem} {v : Value} {cs : Array Value} {G : List (List Int)} (h : OwnR N m v cs G) : RowsAt m v G := by
 rcases h with ⟨⟨rfl, h1, _⟩ | ⟨b, cap, c, rfl, h2, h3, h4, h5, h6, h7⟩, hr⟩
 ·exact .inl ⟨List.length_eq_zero_iff.1 h1, .inl rfl⟩
 ·refine .inr ⟨b, 0, cap, true, c, rfl, h3, fun i g hi => ?_⟩
  obtain ⟨s, hs, ho, _⟩ := hr i g hi
  have hl := (List.getElem?_eq_some_iff.1 hi).1
  refine ⟨s, ?_, ho.ints⟩
  rw [Nat.zero_add, Nat.mul_one, h7 i (by omega), hs]
theorem OwnR.up {N : Nat} {m m' : Mem} {v : Value} {cs : Array Value} {G : List (List Int)} (h : OwnR N m v cs G) (hu : ∀ b, N ≤ b → b < m.size → Mem.get m' b = Mem.get m b) : OwnR N m' v cs G :=
 ⟨h.1.up hu, fun i g hi => by
  obtain ⟨s, hs, ho, hb⟩ := h.2 i g hi
  exact ⟨s, hs, ho.up hu, hb⟩⟩
theorem OwnR.only {N b : Nat} {m m' : Mem} {v : Value} {cs : Array Value} {G : List (List Int)} (h : OwnR N m v cs G) (ho : Only b m m') (hb : b < N) : OwnR N m' v cs G := h.up fun c hc _ => ho.2 c (by omega)
theorem OwnR.nil (N : Nat) (m : Mem) : OwnR N m (.slice none 0 0) #[] [] := ⟨.nil _ _ _, fun i g h => by cases i <;> cases h⟩
/-- One row more. -/
theorem OwnR.grew {N : Nat} {m m' : Mem} {v v' s : Value} {cs : Array Value} {G : List (List Int)} {g : List Int} (h : OwnR N m v cs G) (hs : OwnF N m s g) (hap : ∀ b, blkOf s = some b → blkOf v ≠ some b) (hg : Grew m v m' v') (hc : OwnC N m' v' 1 (G.length + 1) (cs ++ #[s])) : OwnR N m' v' (cs ++ #[s]) (G ++ [g]) := by
 have hsz := h.1.size
 have hkeep : ∀ {u : Value} {l : List Int}, OwnF N m u l → (∀ b, blkOf u = some b → blkOf v ≠ some b) → OwnF N m' u l ∧ ∀ b, blkOf u = some b → blkOf v' ≠ some b := fun ho ha =>
  ⟨ho.keep fun b hb => hg.2.1 b (ho.lt hb).2 (ha b hb), fun b hb e => by
   rcases hg.2.2 with h1 | ⟨b', h1, h2⟩
   ·exact ha b hb (by rw [← h1, e])
   ·rw [h1] at e
    obtain rfl := Option.some.inj e
    have := (ho.lt hb).2; omega⟩
 refine ⟨by rw [List.length_append]; exact hc, fun i x hi => ?_⟩
 by_cases hil : i < G.length
 ·rw [List.getElem?_append_left hil] at hi
  obtain ⟨u, hu, ho, hb⟩ := h.2 i x hi
  obtain ⟨k1, k2⟩ := hkeep ho hb
  exact ⟨u, by rw [Array.getElem?_append_left (by omega), hu], k1, k2⟩
 ·rw [List.getElem?_append_right (by omega)] at hi
  have h1 := (List.getElem?_eq_some_iff.1 hi).1
  have h0 : i - G.length = 0 := by simp at h1; omega
  rw [h0] at hi
  obtain rfl : g = x := by simpa using hi
  obtain ⟨k1, k2⟩ := hkeep hs hap
  refine ⟨s, ?_, k1, k2⟩
  rw [Array.getElem?_append_right (by omega)]
  have : i - cs.size = 0 := by omega
  rw [this]; rfl
end Go.AM

/-! P4 -/
namespace Go.AM
open Go.Proofs
def BoardAt (m : Mem) (v : Value) (N : List (List Nat)) : Prop := ∃ q n c q2 n2 c2, v = .agg #[.slice q n c, .slice q2 n2 c2, nv (2 ^ N.length - 1)] ∧ RowsAt m (.slice q n c) (ofs2 N) ∧ IntsAt m (.slice q2 n2 c2) (ofs (needsM N))
def BoardOwn (M : Nat) (m : Mem) (s : Value) (vs : Array Value) (N : List (List Nat)) : Prop := ∃ q2 n2 c2, vs = #[s, .slice q2 n2 c2, nv (2 ^ N.length - 1)] ∧ OwnF M m (.slice q2 n2 c2) (ofs (needsM N))
theorem BoardOwn.at {M : Nat} {m : Mem} {s : Value} {vs : Array Value} {N : List (List Nat)} (h : BoardOwn M m s vs N) (hr : RowsAt m s (ofs2 N)) : BoardAt m (.agg vs) N := by
 obtain ⟨q2, n2, c2, rfl, hO⟩ := h
 obtain ⟨q, cap, rfl⟩ := hr.len
 exact ⟨_, _, _, _, _, _, rfl, hr, hO.ints⟩
theorem BoardOwn.up {M : Nat} {m m' : Mem} {s : Value} {vs : Array Value} {N : List (List Nat)} (h : BoardOwn M m s vs N) (hu : ∀ b, M ≤ b → b < m.size → Mem.get m' b = Mem.get m b) : BoardOwn M m' s vs N := by
 obtain ⟨q2, n2, c2, rfl, hO⟩ := h
 exact ⟨q2, n2, c2, rfl, hO.up hu⟩
end Go.AM

/-! P5 -/
namespace Go.AM
open Go.Proofs
end Go.AM

/-! M21 -/
namespace Go.AM
def nodesUp (x n : Nat) : List Nat := (List.range n).filter fun i => x.testBit i
theorem nodesUp_succ (x n : Nat) : nodesUp x (n + 1) = nodesUp x n ++ (if x.testBit n then [n] else []) := by
 rw [nodesUp, List.range_succ, List.filter_append, nodesUp]
 congr 1
 by_cases h : x.testBit n = true
 ·simp [h]
 ·simp [h]
theorem nodesUp_len (x n : Nat) : (nodesUp x n).length ≤ n := by
 have := List.length_filter_le (fun i => x.testBit i) (List.range n)
 rwa [List.length_range] at this
def mayM (P : List Nat) (x n : Nat) : Bool := decide (x &&& P.getD n 0 = P.getD n 0)
def natsG (G : List (List Int)) : List (List Nat) := G.map nats
@[simp] theorem natsG_ofs2 (N : List (List Nat)) : natsG (ofs2 N) = N := by
  simp only [natsG, ofs2, List.map_map]
  conv => rhs; rw [← List.map_id N]
  exact List.map_congr_left fun x _ => nats_ofs x
end Go.AM

/-! P6 -/
namespace Go.AM
open Go.Proofs
end Go.AM

/-! M22 -/
namespace Go.AM
/-- The nodes of one position that are not in another one. -/
def offM (x y : Nat) : Nat := x &&& (x ^^^ y)
end Go.AM

/-! P7 -/
namespace Go.AM
open Go.Proofs
theorem aInt_andNot {a b : Nat} (h : a < 9223372036854775808 ∧ b < 9223372036854775808) : aInt .andNot .i64 (Int.ofNat a) (Int.ofNat b) = some (nv (offM a b)) := by
 have e : (BitVec.ofInt 64 (Int.ofNat a) &&& ~~~ BitVec.ofInt 64 (Int.ofNat b)).toNat = offM a b := by
  apply Nat.eq_of_testBit_eq
  intro i
  rw [BitVec.testBit_toNat, BitVec.getLsbD_and, BitVec.getLsbD_not, ← BitVec.testBit_toNat, ← BitVec.testBit_toNat, bvN h.1, bvN h.2, offM, Nat.testBit_and, Nat.testBit_xor]
  by_cases hi : i < 64
  ·rw [decide_eq_true hi]; cases a.testBit i <;> cases b.testBit i <;> rfl
  ·rw [Nat.testBit_lt_two_pow (Nat.lt_of_lt_of_le h.1 (Nat.pow_le_pow_right (n := 2) (by decide) (show 63 ≤ i by omega)))]; rfl
 have hl : offM a b < 9223372036854775808 := Nat.lt_of_le_of_lt Nat.and_le_left h.1
 show some (Value.int .i64 (IntKind.i64.wrap (BitVec.ofInt 64 (Int.ofNat a) &&& ~~~ BitVec.ofInt 64 (Int.ofNat b)).toNat)) = _
 rw [e]
 exact congrArg (fun z => some (Value.int .i64 z)) (wrapN hl)
section
variable {P : Program} {n : Nat} {ρ : Env} {m m' : Mem} {K : Env → Mem → Prop} {ops : Array Oper} {l : List Oper}
  {d : Option Nat} {i : Nat} {op : Op} {ty t xt e : TypeId} {pos : String} {af : Array Edge} {v : Value} {x y : Operand}
end
end Go.AM

/-! M23 -/
namespace Go.AM
theorem offM_le (x y : Nat) : offM x y ≤ x := Nat.and_le_left
def lineAt (n i : Nat) : List (List Nat) := (List.range n).map fun j => if 1 ≤ j ∧ j < i then [j - 1] else []
def treeAt (n i : Nat) : List (List Nat) := (List.range (2 * n - 1)).map fun j => if n ≤ j ∧ j < n + i then [2 * (j - n), 2 * (j - n) + 1] else []
@[simp] theorem lineAt_length (n i : Nat) : (lineAt n i).length = n := by simp [lineAt]
@[simp] theorem treeAt_length (n i : Nat) : (treeAt n i).length = 2 * n - 1 := by simp [treeAt]
theorem lineAt_set {n i : Nat} (h : i < n) (h1 : 1 ≤ i) : lineAt n (i + 1) = (lineAt n i).set i [i - 1] := by
  refine List.ext_getElem? fun k => ?_
  rw [List.getElem?_set, lineAt_length]
  simp only [lineAt, List.getElem?_map, List.getElem?_range']
  by_cases hk : i = k
  · subst hk
    rw [if_pos rfl, if_pos h, List.getElem?_range h]
    simp only [Option.map_some]
    rw [if_pos ⟨h1, by omega⟩]
  · rw [if_neg hk]
    by_cases hn : k < n
    · rw [List.getElem?_range hn]
      simp only [Option.map_some]
      congr 1
      by_cases hc : 1 ≤ k ∧ k < i
      · rw [if_pos hc, if_pos (by omega)]
      · rw [if_neg hc, if_neg (by omega)]
    · rw [List.getElem?_eq_none (by simp; omega)]; rfl
end Go.AM

/-! P8 -/
namespace Go.AM
open Go.Proofs
end Go.AM

/-! P9 -/
namespace Go.AM
open Go.Proofs
theorem bytes22 : bytesOf' Tryd.prog 22 = some 24 := by kernel_rfl
end Go.AM

/-! M24 -/
namespace Go.AM
def wayB (P : List Nat) (k x n : Nat) : Bool := mayM P x n && decide (popc (x ^^^ 2 ^ n) ≤ k)
/-- What holds of entries: keys once, below 2^n; distances below the places. -/
structure GoodE (n : Nat) (es : List (Nat × Nat)) : Prop where
  once : (es.map (·.1)).Nodup
  lt : ∀ p ∈ es, p.1 < 2 ^ n
  low : ∀ (i : Nat) (p : Nat × Nat), es[i]? = some p → p.2 ≤ i
theorem GoodE.length {n : Nat} {es : List (Nat × Nat)} (h : GoodE n es) : es.length ≤ 2 ^ n := by
 have h1 : (es.map (·.1)).length ≤ (List.range (2 ^ n)).length := by
  refine h.once.length_le_of_subset fun x hx => ?_
  obtain ⟨p, hp, rfl⟩ := List.mem_map.1 hx
  exact List.mem_range.2 (h.lt p hp)
 rwa [List.length_map, List.length_range] at h1
theorem GoodE.nil (n : Nat) : GoodE n [] := ⟨by simp, by simp, by simp⟩
end Go.AM

/-! P10 -/
namespace Go.AM
open Go.Proofs
end Go.AM

/-! P11 -/
namespace Go.AM
open Go.Proofs
abbrev keysE (es : List (Nat × Nat)) : List Nat := es.map (·.1)
/-- Far at work: entries, the list of positions v, how far the list is done. -/
structure FarV (m0 : Mem) (vs : Array Value) (c9 i : Nat) (es : List (Nat × Nat)) (v : Value) (m' : Mem) : Prop where
  low : Low (m0.size + 1) (m0.push (.cells true vs)) m'
  gm : Mem.get m' (m0.size + 2) = .cells true #[.map (some (m0.size + 1))]
  map : MapAt m' (m0.size + 1) es
  g9 : Mem.get m' c9 = .cells true #[nv i]
  gl : Mem.get m' (m0.size + 4) = .cells true #[v]
  own : OwnC (m0.size + 1) m' v 1 es.length (cellsN (keysE es))
  o2 : blkOf v ≠ some (m0.size + 2)
  o4 : blkOf v ≠ some (m0.size + 4)
  o9 : blkOf v ≠ some c9
theorem OwnC.keep {N : Nat} {m m' : Mem} {v : Value} {w n : Nat} {cs : Array Value} (h : OwnC N m v w n cs) (hu : ∀ b, blkOf v = some b → Mem.get m' b = Mem.get m b) : OwnC N m' v w n cs := by
 rcases h with h | ⟨b, cap, c, rfl, h2, h3, h4⟩
 ·exact .inl h
 ·exact .inr ⟨b, cap, c, rfl, h2, by rw [hu b rfl, h3], h4⟩
theorem OwnC.live {N : Nat} {m : Mem} {v : Value} {w n b : Nat} {cs : Array Value} (h : OwnC N m v w n cs) (hb : blkOf v = some b) : ∃ c, Mem.get m b = .cells true c := by
 rcases h with ⟨rfl, _⟩ | ⟨b', cap, c, rfl, h2, h3, h4⟩
 ·cases hb
 ·obtain rfl : b' = b := Option.some.inj hb
  exact ⟨c, h3⟩
structure FarJ (m0 : Mem) (vs : Array Value) (c9 i p1 lp x k : Nat) (X : ALoop) (es : List (Nat × Nat)) (v : Value) (m' : Mem) : Prop where
  far : FarV m0 vs c9 i es v m'
  w1 : Mem.get m' p1 = .cells true vs
  w2 : Mem.get m' (p1 + 1) = .cells true #[nv x]
  w3 : Mem.get m' (p1 + 2) = .cells true #[nv k]
  lp : Mem.get m' lp = .loop X
  q1 : blkOf v ≠ some p1
  q2 : blkOf v ≠ some (p1 + 1)
  q3 : blkOf v ≠ some (p1 + 2)
theorem Grew.off {m m' : Mem} {v v' : Value} {b : Nat} (h : Grew m v m' v') (hv : blkOf v ≠ some b) (hb : b < m.size) : blkOf v' ≠ some b := by
 rcases h.2.2 with e | ⟨c, e, hc⟩
 ·rw [e]; exact hv
 ·rw [e]; intro e2; have := Option.some.inj e2; omega
end Go.AM

/-! M25 -/
namespace Go.AM
structure Bfs (P : List Nat) (k g : Nat) (es : List (Nat × Nat)) : Prop where
  good : GoodE P.length es
  zero : ∀ p ∈ es, p.2 = 0 → p.1 = g
  root : (g, 0) ∈ es
  par : ∀ p ∈ es, 0 < p.2 → ∃ n x, n < P.length ∧ (x, p.2 - 1) ∈ es ∧ p.1 = x ^^^ 2 ^ n ∧ wayB P k x n = true
  pop : ∀ p ∈ es, popc p.1 ≤ k
end Go.AM

/-! P12 -/
namespace Go.AM
open Go.Proofs
/-- The shortest game at work: its moves L in the list v, where it is (a, y). -/
structure ShV (M : Mem) (c13 : Nat) (a : Int) (y mb : Nat) (L : List Nat) (v : Value) (m' : Mem) : Prop where
  low : Low M.size M m'
  g9 : Mem.get m' M.size = .cells true #[.map (some mb)]
  gl : Mem.get m' (M.size + 1) = .cells true #[v]
  gw : Mem.get m' c13 = .cells true #[.int .i64 a, nv y]
  own : OwnC M.size m' v 1 L.length (cellsN L)
  o0 : blkOf v ≠ some M.size
  o1 : blkOf v ≠ some (M.size + 1)
  o3 : blkOf v ≠ some c13
structure ShJ (M : Mem) (vs : Array Value) (c13 p1 lp k : Nat) (X : ALoop) (a : Int) (y mb : Nat) (L : List Nat) (v : Value) (m' : Mem) : Prop where
  sh : ShV M c13 a y mb L v m'
  w1 : Mem.get m' p1 = .cells true vs
  w2 : Mem.get m' (p1 + 1) = .cells true #[nv y]
  w3 : Mem.get m' (p1 + 2) = .cells true #[nv k]
  lp : Mem.get m' lp = .loop X
end Go.AM

/-! M26 -/
namespace Go.AM
def cellsP (r : List (Nat × Nat)) : Array Value := (r.flatMap fun p => [nv p.1, nv p.2]).toArray
theorem flat2_len (r : List (Nat × Nat)) : (r.flatMap fun p => [nv p.1, nv p.2]).length = r.length * 2 := by
 induction r with
 | nil => rfl
 | cons p r ih => rw [List.flatMap_cons, List.length_append, ih]; simp; omega
@[simp] theorem cellsP_size (r : List (Nat × Nat)) : (cellsP r).size = r.length * 2 := by
  rw [cellsP, List.size_toArray]; exact flat2_len r
end Go.AM

/-! P13 -/
namespace Go.AM
open Go.Proofs
end Go.AM

/-! M27 -/
namespace Go.AM
def kindM : Nat → Nat
  | 0 => 1
  | 1 => 9
  | _ => 12
end Go.AM

/-! P14 -/
namespace Go.AM
open Go.Proofs
theorem bytes49 : ∃ k, bytesOf' Tryd.prog 49 = some k ∧ k ≤ 1000 := by
 have h : (match bytesOf' Tryd.prog 49 with
  | some k => decide (k ≤ 1000)
  | none => false) = true := by kernel_rfl
 split at h
 ·rename_i k e; exact ⟨k, e, of_decide_eq_true h⟩
 ·cases h
theorem El55 : ElemT Tryd.prog 28 28 4 := by
 obtain ⟨k, h1, h2⟩ := bytes49
 exact ⟨_, _, _, k, T28, T28, rfl, S49, Z49, rfl, h1, h2, by decide⟩
theorem B57_0 : aBuild Tryd.prog 30 [] = some (.agg #[nv 0, nv 0, .slice none 0 0]) := by kernel_rfl
theorem B57_1 {n : Nat} : aBuild Tryd.prog 30 [(0, nv n)] = some (.agg #[nv n, nv 0, .slice none 0 0]) := by kernel_rfl
theorem B105k : aBuild Tryd.prog 139 [(0, nv 1), (1, nv 9), (2, nv 12)] = some (.agg #[nv 1, nv 9, nv 12]) := by kernel_rfl
theorem B76 {k n c : Nat} {q : Option Addr} : aBuild Tryd.prog 49 [(0, nv k), (1, .slice q n c)] = some (.agg #[nv k, .slice q n c, nv 0, nv 0]) := by kernel_rfl
theorem fillA4 {k n c : Nat} {q : Option Addr} : Instr.fill (fun i => some (i * 4, 4)) (if 1 * 4 = 0 then #[] else (Array.range (1 * 4)).map ((Value.agg #[nv 0, .slice none 0 0, nv 0, nv 0]).cells[· % (Value.agg #[nv 0, .slice none 0 0, nv 0, nv 0]).cells.size]!)) [(0, .agg #[nv k, .slice q n c, nv 0, nv 0])] = some #[nv k, .slice q n c, nv 0, nv 0] := by kernel_rfl
theorem idx105_0 : aIndex Tryd.prog 139 (.agg #[nv 1, nv 9, nv 12]) (nv 0) = some (nv 1) := by kernel_rfl
theorem idx105_1 : aIndex Tryd.prog 139 (.agg #[nv 1, nv 9, nv 12]) (nv 1) = some (nv 9) := by kernel_rfl
theorem idx105_2 : aIndex Tryd.prog 139 (.agg #[nv 1, nv 9, nv 12]) (nv 2) = some (nv 12) := by kernel_rfl
theorem idx105 {j : Nat} (h : j ≤ 2) : aIndex Tryd.prog 139 (.agg #[nv 1, nv 9, nv 12]) (nv j) = some (nv (kindM j)) := by
 have : j = 0 ∨ j = 1 ∨ j = 2 := by omega
 rcases this with rfl | rfl | rfl
 ·exact idx105_0
 ·exact idx105_1
 ·exact idx105_2
/-- Gates of one's own: each one's wires in a place of their own. -/
def OwnG (N : Nat) (m : Mem) (v : Value) (cs : Array Value) (Gs : List (Nat × List Nat)) : Prop :=
  OwnC N m v 4 Gs.length cs ∧ ∀ (i : Nat) (g : Nat × List Nat), Gs[i]? = some g → ∃ s, cs[i * 4]? = some (nv g.1) ∧ cs[i * 4 + 1]? = some s ∧ cs[i * 4 + 2]? = some (nv 0) ∧ cs[i * 4 + 3]? = some (nv 0) ∧ OwnF N m s (ofs g.2) ∧ ∀ b, blkOf s = some b → blkOf v ≠ some b
theorem OwnG.nil (N : Nat) (m : Mem) : OwnG N m (.slice none 0 0) #[] [] := ⟨.nil _ _ _, fun i g h => by cases i <;> cases h⟩
theorem OwnG.up {N : Nat} {m m' : Mem} {v : Value} {cs : Array Value} {Gs : List (Nat × List Nat)} (h : OwnG N m v cs Gs) (hu : ∀ b, N ≤ b → b < m.size → Mem.get m' b = Mem.get m b) : OwnG N m' v cs Gs :=
 ⟨h.1.up hu, fun i g hi => by
  obtain ⟨s, h1, h2, h3, h4, ho, hb⟩ := h.2 i g hi
  exact ⟨s, h1, h2, h3, h4, ho.up hu, hb⟩⟩
theorem OwnG.ext {N : Nat} {m m' : Mem} {v : Value} {cs : Array Value} {Gs : List (Nat × List Nat)} (h : OwnG N m v cs Gs) (he : Ext m m') : OwnG N m' v cs Gs := h.up fun b _ hb => he.2 b hb
theorem OwnG.only {N b : Nat} {m m' : Mem} {v : Value} {cs : Array Value} {Gs : List (Nat × List Nat)} (h : OwnG N m v cs Gs) (ho : Only b m m') (hb : b < N) : OwnG N m' v cs Gs := h.up fun c hc _ => ho.2 c (by omega)
theorem OwnG.mono {N N' : Nat} {m : Mem} {v : Value} {cs : Array Value} {Gs : List (Nat × List Nat)} (h : OwnG N m v cs Gs) (hN : N' ≤ N) : OwnG N' m v cs Gs :=
 ⟨h.1.mono hN, fun i g hi => by
  obtain ⟨s, h1, h2, h3, h4, ho, hb⟩ := h.2 i g hi
  exact ⟨s, h1, h2, h3, h4, ho.mono hN, hb⟩⟩
theorem OwnG.grew {N : Nat} {m m' : Mem} {v v' s : Value} {cs : Array Value} {Gs : List (Nat × List Nat)} {k : Nat} {w : List Nat} (h : OwnG N m v cs Gs) (hs : OwnF N m s (ofs w)) (hap : ∀ b, blkOf s = some b → blkOf v ≠ some b) (hg : Grew m v m' v') (hc : OwnC N m' v' 4 (Gs.length + 1) (cs ++ #[nv k, s, nv 0, nv 0])) : OwnG N m' v' (cs ++ #[nv k, s, nv 0, nv 0]) (Gs ++ [(k, w)]) := by
 have hsz := h.1.size
 have hkeep : ∀ {u : Value} {l : List Int}, OwnF N m u l → (∀ b, blkOf u = some b → blkOf v ≠ some b) → OwnF N m' u l ∧ ∀ b, blkOf u = some b → blkOf v' ≠ some b := fun ho ha =>
  ⟨ho.keep fun b hb => hg.2.1 b (ho.lt hb).2 (ha b hb), fun b hb => hg.off (ha b hb) (ho.lt hb).2⟩
 refine ⟨by rw [List.length_append]; exact hc, fun i x hi => ?_⟩
 by_cases hil : i < Gs.length
 ·rw [List.getElem?_append_left hil] at hi
  obtain ⟨u, h1, h2, h3, h4, ho, hb⟩ := h.2 i x hi
  obtain ⟨k1, k2⟩ := hkeep ho hb
  exact ⟨u, by rw [Array.getElem?_append_left (by omega), h1], by rw [Array.getElem?_append_left (by omega), h2], by rw [Array.getElem?_append_left (by omega), h3], by rw [Array.getElem?_append_left (by omega), h4], k1, k2⟩
 ·rw [List.getElem?_append_right (by omega)] at hi
  have h1 := (List.getElem?_eq_some_iff.1 hi).1
  have h0 : i = Gs.length := by simp at h1; omega
  rw [h0, Nat.sub_self] at hi
  obtain rfl : (k, w) = x := by simpa using hi
  obtain ⟨k1, k2⟩ := hkeep hs hap
  refine ⟨s, ?_, ?_, ?_, ?_, k1, k2⟩
  ·rw [Array.getElem?_append_right (by omega), show i * 4 - cs.size = 0 by rw [h0]; omega]; rfl
  ·rw [Array.getElem?_append_right (by omega), show i * 4 + 1 - cs.size = 1 by rw [h0]; omega]; rfl
  ·rw [Array.getElem?_append_right (by omega), show i * 4 + 2 - cs.size = 2 by rw [h0]; omega]; rfl
  ·rw [Array.getElem?_append_right (by omega), show i * 4 + 3 - cs.size = 3 by rw [h0]; omega]; rfl
end Go.AM

/-! M28 -/
namespace Go.AM
def marksM (ps : List Nat) : List Bool := (List.range 1024).map fun i => decide (i ∈ ps)
@[simp] theorem marksM_length (ps : List Nat) : (marksM ps).length = 1024 := by simp [marksM]
theorem marksM_get {ps : List Nat} {i : Nat} (h : i < 1024) : (marksM ps)[i]? = some (decide (i ∈ ps)) := by simp [marksM, h]
end Go.AM

/-! P15 -/
namespace Go.AM
open Go.Proofs
theorem call157 : callable Tryd.prog 157 = true := by kernel_rfl
theorem okf157 : okF Tryd.prog H0 157 61 = true := by kernel_rfl
/-! ### Marks -/
def cellsM (ps : List Nat) : Array Value := ((marksM ps).map Value.bool).toArray
@[simp] theorem cellsM_size (ps : List Nat) : (cellsM ps).size = 1024 := by simp [cellsM]
theorem cellsM_get {ps : List Nat} {i : Nat} (h : i < 1024) : (cellsM ps)[i]? = some (.bool (decide (i ∈ ps))) := by
  simp only [cellsM, List.getElem?_toArray, List.getElem?_map, marksM_get h]; rfl
end Go.AM

/-! P16 -/
namespace Go.AM
open Go.Proofs
structure MkJ (M : Mem) (c : Nat) (acc : List Nat) (vs : Array Value) (p1 lp x k : Nat) (X : ALoop) (m' : Mem) : Prop where
  low : Low c M m'
  gc : Mem.get m' c = .cells true (cellsM acc)
  w1 : Mem.get m' p1 = .cells true vs
  w2 : Mem.get m' (p1 + 1) = .cells true #[nv x]
  w3 : Mem.get m' (p1 + 2) = .cells true #[nv k]
  lp : Mem.get m' lp = .loop X
end Go.AM

/-! P17 -/
namespace Go.AM
open Go.Proofs
end Go.AM

/-! P18 -/
namespace Go.AM
open Go.Proofs
/-- A slice of pairs that may be read. -/
def TwosAt (m : Mem) (v : Value) (r : List (Nat × Nat)) : Prop := (r = [] ∧ v = .slice none 0 0) ∨ ∃ b cap rw_ c, v = .slice (some ⟨b, 0, some 2⟩) r.length cap ∧ Mem.get m b = .cells rw_ c ∧ ∀ (i : Nat) (p : Nat × Nat), r[i]? = some p → c[i * 2]? = some (nv p.1) ∧ c[i * 2 + 1]? = some (nv p.2)
theorem TwosAt.len {m : Mem} {v : Value} {r : List (Nat × Nat)} (h : TwosAt m v r) : ∃ q cap, v = .slice q r.length cap := by
 rcases h with ⟨rfl, rfl⟩ | ⟨b, cap, rw_, c, rfl, _⟩ <;> exact ⟨_, _, rfl⟩
theorem TwosAt.at {m : Mem} {v : Value} {r : List (Nat × Nat)} (h : TwosAt m v r) (h0 : 0 < r.length) : ∃ b cap rw_ c, v = .slice (some ⟨b, 0, some 2⟩) r.length cap ∧ Mem.get m b = .cells rw_ c ∧ ∀ (i : Nat) (p : Nat × Nat), r[i]? = some p → c[i * 2]? = some (nv p.1) ∧ c[i * 2 + 1]? = some (nv p.2) := by
 rcases h with ⟨rfl, _⟩ | h
 ·cases h0
 ·exact h
theorem extract4 {c : Array Value} {o : Nat} {x y z w : Value} (hx : c[o]? = some x) (hy : c[o + 1]? = some y) (hz : c[o + 2]? = some z) (hw : c[o + 3]? = some w) : c.extract o (o + 4) = #[x, y, z, w] := by
 have h1 := (Array.getElem?_eq_some_iff.1 hw).1
 apply Array.ext_getElem?
 intro i
 rw [Array.getElem?_extract]
 match i with
 | 0 => rw [if_pos (by omega)]; simpa using hx
 | 1 => rw [if_pos (by omega)]; simpa using hy
 | 2 => rw [if_pos (by omega)]; simpa using hz
 | 3 => rw [if_pos (by omega)]; simpa using hw
 | i + 4 => rw [if_neg (by omega)]; simp
end Go.AM

/-! P19 -/
namespace Go.AM
open Go.Proofs
/-- A gate as it is compared: kind, wires, two numbers. -/
abbrev GateV := Int × List Int × Int × Int
theorem oneGate {k a b : Int} {q : Option Addr} {n c : Nat} : (#[.int .i64 k, .slice q n c, .int .i64 a, .int .i64 b] : Array Value).all Value.oneCell' = true := by kernel_rfl
def GateAt (m : Mem) (vs : Array Value) (g : GateV) : Prop := ∃ s, vs = #[.int .i64 g.1, s, .int .i64 g.2.2.1, .int .i64 g.2.2.2] ∧ IntsAt m s g.2.1
theorem GateAt.ext {m m' : Mem} {vs : Array Value} {g : GateV} (h : GateAt m vs g) (he : Ext m m') : GateAt m' vs g := by
 obtain ⟨s, h1, h2⟩ := h; exact ⟨s, h1, h2.ext he⟩
def GatesAt (m : Mem) (v : Value) (Gs : List GateV) : Prop :=
  (Gs = [] ∧ (v = .slice none 0 0 ∨ ∃ b o, v = .slice (some ⟨b, o, none⟩) 0 0)) ∨ ∃ b cap r c, v = .slice (some ⟨b, 0, some 4⟩) Gs.length cap ∧ Mem.get m b = .cells r c ∧ ∀ (i : Nat) (g : GateV), Gs[i]? = some g → GateAt m (c.extract (i * 4) (i * 4 + 4)) g ∧ i * 4 + 4 ≤ c.size
theorem GatesAt.len {m : Mem} {v : Value} {Gs : List GateV} (h : GatesAt m v Gs) : ∃ q cap, v = .slice q Gs.length cap := by
 rcases h with ⟨rfl, rfl | ⟨_, _, rfl⟩⟩ | ⟨b, cap, rw_, c, rfl, _⟩ <;> exact ⟨_, _, rfl⟩
theorem GatesAt.ext {m m' : Mem} {v : Value} {Gs : List GateV} (h : GatesAt m v Gs) (he : Ext m m') : GatesAt m' v Gs := by
 rcases h with h | ⟨b, cap, rw_, c, h1, h2, h3⟩
 ·exact .inl h
 ·exact .inr ⟨b, cap, rw_, c, h1, he.cells h2, fun i g hi => ⟨(h3 i g hi).1.ext he, (h3 i g hi).2⟩⟩
theorem GatesAt.at {m : Mem} {v : Value} {Gs : List GateV} (h : GatesAt m v Gs) (h0 : 0 < Gs.length) : ∃ b cap r c, v = .slice (some ⟨b, 0, some 4⟩) Gs.length cap ∧ Mem.get m b = .cells r c ∧ ∀ (i : Nat) (g : GateV), Gs[i]? = some g → GateAt m (c.extract (i * 4) (i * 4 + 4)) g ∧ i * 4 + 4 ≤ c.size := by
 rcases h with ⟨rfl, _⟩ | h
 ·cases h0
 ·exact h
def gvM (g : Nat × List Nat) : GateV := (Int.ofNat g.1, ofs g.2, 0, 0)
theorem OwnG.gates {N : Nat} {m : Mem} {v : Value} {cs : Array Value} {Gs : List (Nat × List Nat)} (h : OwnG N m v cs Gs) : GatesAt m v (Gs.map gvM) := by
 have hsz := h.1.size
 rcases h with ⟨⟨rfl, h, _⟩ | ⟨b, cap, c, rfl, h2, h3, h4, h5, h6, h7⟩, hr⟩
 ·obtain rfl := List.length_eq_zero_iff.1 h
  exact .inl ⟨rfl, .inl rfl⟩
 ·refine .inr ⟨b, cap, true, c, by rw [List.length_map], h3, fun i g hi => ?_⟩
  simp only [List.getElem?_map, Option.map_eq_some_iff] at hi
  obtain ⟨g', hi, rfl⟩ := hi
  have hl := (List.getElem?_eq_some_iff.1 hi).1
  obtain ⟨s, e1, e2, e3, e4, ho, _⟩ := hr i g' hi
  have hcap : Gs.length * 4 ≤ cap * 4 := Nat.mul_le_mul_right 4 h4
  refine ⟨⟨s, ?_, ho.ints⟩, by omega⟩
  exact extract4 (by rw [h7 _ (by omega)]; exact e1) (by rw [h7 _ (by omega)]; exact e2) (by rw [h7 _ (by omega)]; exact e3) (by rw [h7 _ (by omega)]; exact e4)
theorem okf84 : okF Tryd.prog H0 84 31 = true := by kernel_rfl
theorem spec_SameGate {m : Mem} {u w : Array Value} {g h : GateV} (hu : GateAt m u g) (hw : GateAt m w h) (hl : g.2.1.length < 4611686018427387904) : ∃ v m', ACalls Tryd.prog 84 #[.agg u, .agg w] m v m' ∧ (v = .bool (decide (g = h)) ∧ Ext m m') := by
 obtain ⟨k1, l1, a1, b1⟩ := g
 obtain ⟨k2, l2, a2, b2⟩ := h
 obtain ⟨s1, rfl, h1⟩ := hu
 obtain ⟨s2, rfl, h2⟩ := hw
 simp only at h1 h2 hl ⊢
 have h22 := spec_Equal (m := (m.push (.cells true #[.int .i64 k1, s1, .int .i64 a1, .int .i64 b1])).push (.cells true #[.int .i64 k2, s2, .int .i64 a2, .int .i64 b2])) ((h1.ext (.push _ _)).ext (.push _ _)) ((h2.ext (.push _ _)).ext (.push _ _)) hl
 obtain ⟨q1, c1, rfl⟩ := h1.len
 obtain ⟨q2, c2, rfl⟩ := h2.len
 have hE : Ext m ((m.push (.cells true #[.int .i64 k1, .slice q1 l1.length c1, .int .i64 a1, .int .i64 b1])).push (.cells true #[.int .i64 k2, .slice q2 l2.length c2, .int .i64 a2, .int .i64 b2])) := (Ext.push _ _).trans (.push _ _)
 refine wpF (args := [_, _]) mixed okf84 (fn := Tryd.f84) rfl rfl rfl (by simp) ?_
 refine cSR ?_
 refine sBox (v := .agg _) rfl ?_
 refine sBox (v := .agg _) rfl ?_
 refine sAb rfl ?_
 refine sN ?_
 refine cSR ?_
 refine sFA F49_0 rfl ?_
 refine sLd (v := .int _ _) A3 rfl (by simp (disch := first | omega | (simp only [Array.size_push, Array.size_setIfInBounds]; done) | (simp only [Array.size_push, Array.size_setIfInBounds]; omega)) only [gP, gPn, gS, gSn]; try rfl) rfl ?_
 refine sFA F49_0 rfl ?_
 refine sLd (v := .int _ _) A3 rfl (by simp (disch := first | omega | (simp only [Array.size_push, Array.size_setIfInBounds]; done) | (simp only [Array.size_push, Array.size_setIfInBounds]; omega)) only [gP, gPn, gS, gSn]; try rfl) rfl ?_
 refine sBinI rfl rfl aInt_eqlI ?_
 refine sMb rfl ?_
 by_cases e1 : k1 = k2
 ·
  rw [decide_eq_true e1]
  refine sG rfl rfl ?_
  refine sFA F49_2 rfl ?_
  refine sG rfl rfl ?_
  refine sLd (v := .int _ _) A3 rfl (by simp (disch := first | omega | (simp only [Array.size_push, Array.size_setIfInBounds]; done) | (simp only [Array.size_push, Array.size_setIfInBounds]; omega)) only [gP, gPn, gS, gSn]; try rfl) rfl ?_
  refine sG rfl rfl ?_
  refine sFA F49_2 rfl ?_
  refine sG rfl rfl ?_
  refine sLd (v := .int _ _) A3 rfl (by simp (disch := first | omega | (simp only [Array.size_push, Array.size_setIfInBounds]; done) | (simp only [Array.size_push, Array.size_setIfInBounds]; omega)) only [gP, gPn, gS, gSn]; try rfl) rfl ?_
  refine sG rfl rfl ?_
  refine sBinI rfl rfl aInt_eqlI ?_
  refine sPb rfl ?_
  refine sMb rfl ?_
  by_cases e2 : a1 = a2
  ·
   rw [decide_eq_true e2]
   refine sG rfl rfl ?_
   refine sFA F49_3 rfl ?_
   refine sG rfl rfl ?_
   refine sLd (v := .int _ _) A3 rfl (by simp (disch := first | omega | (simp only [Array.size_push, Array.size_setIfInBounds]; done) | (simp only [Array.size_push, Array.size_setIfInBounds]; omega)) only [gP, gPn, gS, gSn]; try rfl) rfl ?_
   refine sG rfl rfl ?_
   refine sFA F49_3 rfl ?_
   refine sG rfl rfl ?_
   refine sLd (v := .int _ _) A3 rfl (by simp (disch := first | omega | (simp only [Array.size_push, Array.size_setIfInBounds]; done) | (simp only [Array.size_push, Array.size_setIfInBounds]; omega)) only [gP, gPn, gS, gSn]; try rfl) rfl ?_
   refine sG rfl rfl ?_
   refine sBinI rfl rfl aInt_eqlI ?_
   refine sPb rfl ?_
   refine sMb rfl ?_
   by_cases e3 : b1 = b2
   ·
    rw [decide_eq_true e3]
    refine sG rfl rfl ?_
    refine sFA F49_1 rfl ?_
    refine sG rfl rfl ?_
    refine sLd A22 rfl (by simp (disch := first | omega | (simp only [Array.size_push, Array.size_setIfInBounds]; done) | (simp only [Array.size_push, Array.size_setIfInBounds]; omega)) only [gP, gPn, gS, gSn]; try rfl) rfl ?_
    refine sG rfl rfl ?_
    refine sFA F49_1 rfl ?_
    refine sG rfl rfl ?_
    refine sLd A22 rfl (by simp (disch := first | omega | (simp only [Array.size_push, Array.size_setIfInBounds]; done) | (simp only [Array.size_push, Array.size_setIfInBounds]; omega)) only [gP, gPn, gS, gSn]; try rfl) rfl ?_
    refine sG rfl rfl ?_
    refine sCall2 rfl call28 rfl rfl h22 ?_
    refine sPb rfl ?_
    refine sAb rfl ?_
    refine sN ?_
    refine cRet ?_
    refine ⟨.inr rfl, _, rfl, congrArg Value.bool (decide_eq_decide.2 ?_), hE⟩
    subst e1; subst e2; subst e3
    simp
   ·
    rw [decide_eq_false e3]
    refine sGF rfl rfl ?_
    refine sGF rfl rfl ?_
    refine sGF rfl rfl ?_
    refine sGF rfl rfl ?_
    refine sGF rfl rfl ?_
    refine sPb rfl ?_
    refine sAb rfl ?_
    refine sN ?_
    refine cRet ?_
    refine ⟨.inr rfl, _, rfl, congrArg Value.bool (decide_eq_false ?_).symm, hE⟩
    intro e; simp at e; exact e3 e.2.2.2
  ·
   rw [decide_eq_false e2]
   refine sGF rfl rfl ?_
   refine sGF rfl rfl ?_
   refine sGF rfl rfl ?_
   refine sGF rfl rfl ?_
   refine sGF rfl rfl ?_
   refine sPb rfl ?_
   refine sMb rfl ?_
   refine sGF rfl rfl ?_
   refine sGF rfl rfl ?_
   refine sGF rfl rfl ?_
   refine sGF rfl rfl ?_
   refine sGF rfl rfl ?_
   refine sPb rfl ?_
   refine sAb rfl ?_
   refine sN ?_
   refine cRet ?_
   refine ⟨.inr rfl, _, rfl, congrArg Value.bool (decide_eq_false ?_).symm, hE⟩
   intro e; simp at e; exact e2 e.2.2.1
 ·
  rw [decide_eq_false e1]
  refine sGF rfl rfl ?_
  refine sGF rfl rfl ?_
  refine sGF rfl rfl ?_
  refine sGF rfl rfl ?_
  refine sGF rfl rfl ?_
  refine sPb rfl ?_
  refine sMb rfl ?_
  refine sGF rfl rfl ?_
  refine sGF rfl rfl ?_
  refine sGF rfl rfl ?_
  refine sGF rfl rfl ?_
  refine sGF rfl rfl ?_
  refine sPb rfl ?_
  refine sMb rfl ?_
  refine sGF rfl rfl ?_
  refine sGF rfl rfl ?_
  refine sGF rfl rfl ?_
  refine sGF rfl rfl ?_
  refine sGF rfl rfl ?_
  refine sPb rfl ?_
  refine sAb rfl ?_
  refine sN ?_
  refine cRet ?_
  refine ⟨.inr rfl, _, rfl, congrArg Value.bool (decide_eq_false ?_).symm, hE⟩
  intro e; simp at e; exact e1 e.1
theorem okf83 : okF Tryd.prog H0 83 32 = true := by kernel_rfl
theorem spec_EqualG {m : Mem} {a b : Value} {l r : List GateV} (ha : GatesAt m a l) (hb : GatesAt m b r) (hl : l.length < 4611686018427387904) (hw : ∀ g ∈ l, g.2.1.length < 4611686018427387904) : ∃ v m', ACalls Tryd.prog 83 #[a, b, .func (.func 84) #[] #[]] m v m' ∧ (v = .bool (decide (l = r)) ∧ Ext m m') := by
 obtain ⟨q, cap, rfl⟩ := ha.len
 obtain ⟨q2, cap2, rfl⟩ := hb.len
 refine wpF (args := [_, _, _]) mixed okf83 (fn := Tryd.f83) rfl rfl rfl (by simp) ?_
 refine cSR ?_
 refine sAb rfl ?_
 refine sN ?_
 refine cSeq (cSR ?_)
 refine sMs rfl ?_
 refine sLen T28 rfl ?_
 refine sMs rfl ?_
 refine sLen T28 rfl ?_
 refine sBin (a := l.length) (b := r.length) rfl rfl aInt_neq ?_
 refine sN ?_
 refine cCond rfl (fun c0 => ?_) (fun c0 => ?_)
 ·
  refine cSR ?_
  refine sAb rfl ?_
  refine sN ?_
  refine cRet (kSeqR ?_)
  have hGH : ¬ (l = r) := fun e => c0 (by rw [e])
  exact ⟨.inr rfl, _, rfl, by rw [decide_eq_false hGH]; rfl, .refl _⟩
 ·
  have hlen : l.length = r.length := Decidable.not_not.1 c0
  refine cSkip (kSeqN ?_)
  refine cSeq (cSR ?_)
  refine sMs rfl ?_
  refine sLen T28 rfl ?_
  refine sMv (v := nv 0) rfl ?_
  refine sN ?_
  refine cBlock ?_
  refine wpC_loop (fun k ρ m' => ∃ i, k = l.length - i ∧ i ≤ l.length ∧ Ext m m' ∧ (∀ j, j < i → l[j]? = r[j]?) ∧ Has ρ [(0, .slice q l.length cap), (1, .slice q2 r.length cap2), (2, .func (.func 84) #[] #[]), (15, .slice q l.length cap), (16, nv l.length), (17, nv i)]) ⟨0, rfl, by omega, .refl _, by omega, rfl, rfl, rfl, rfl, rfl, rfl, trivial⟩ ?_
  rintro k ρ m' ⟨i, rfl, hi, hE, hj, hh⟩
  rw [hh.env]; clear hh
  refine cSR ?_
  refine sBin rfl rfl (aInt_lss) ?_
  refine sN ?_
  refine cSeq ?_
  refine cCond rfl (fun c1 => ?_) (fun c1 => ?_)
  ·
   obtain ⟨b1, p1, r1, cc1, e1, g1, x1⟩ := (ha.ext hE).at (by omega)
   obtain ⟨b2, p2, r2, cc2, e2, g2, x2⟩ := (hb.ext hE).at (by omega)
   cases e1
   cases e2
   have hir : i < r.length := by omega
   obtain ⟨y1, z1⟩ := x1 i l[i] (by simp)
   obtain ⟨y2, z2⟩ := x2 i r[i] (by simp)
   have hs1 : (cc1.extract (i * 4) (i * 4 + 4)).size = 4 := by simp; omega
   have hs2 : (cc2.extract (i * 4) (i * 4 + 4)).size = 4 := by simp; omega
   have ho1 : (cc1.extract (i * 4) (i * 4 + 4)).all Value.oneCell' = true := by
    obtain ⟨s, e, hi⟩ := y1
    obtain ⟨_, _, rfl⟩ := hi.len
    rw [e]; exact oneGate
   have ho2 : (cc2.extract (i * 4) (i * 4 + 4)).all Value.oneCell' = true := by
    obtain ⟨s, e, hi⟩ := y2
    obtain ⟨_, _, rfl⟩ := hi.len
    rw [e]; exact oneGate
   refine cSkip (kSeqN ?_)
   refine cSeq (cBlock (cSR ?_))
   refine sMn rfl ?_
   refine sIx T28 S49 rfl rfl c1 ?_
   refine sLdA A49 S49 rfl g1 (by omega) ?_
   rw [Nat.zero_add]
   refine sAlloc Z49 (by kernel_rfl) ?_
   refine sAn rfl ?_
   refine sStNA S49 rfl rfl rfl hs1 ho1 ?_
   refine sN ?_
   refine cSR ?_
   refine sMs rfl ?_
   refine sMn rfl ?_
   refine sIx T28 S49 rfl rfl hir ?_
   refine sLdA A49 S49 rfl ((gPn (live g2)).trans g2) (by omega) ?_
   rw [Nat.zero_add]
   refine sAlloc Z49 (by kernel_rfl) ?_
   refine sStNA S49 rfl rfl rfl hs2 ho2 ?_
   refine sN ?_
   refine cSR ?_
   refine sMv (v := .func _ _ _) rfl ?_
   refine sLdAll A49 S49 rfl (by rw [gPn (by simp), gP rfl]) hs1 ?_
   refine sLdAll A49 S49 rfl (gP rfl) hs2 ?_
   obtain ⟨v29, m29, h29, rfl, e29⟩ := spec_SameGate (m := (m'.push (.cells true (cc1.extract (i * 4) (i * 4 + 4)))).push (.cells true (cc2.extract (i * 4) (i * 4 + 4)))) ((y1.ext (.push _ _)).ext (.push _ _)) ((y2.ext (.push _ _)).ext (.push _ _)) (hw _ (List.getElem_mem c1))
   refine sCall2 rfl call84 rfl rfl h29 ?_
   refine sP (v := .bool (!decide (l[i] = r[i]))) rfl ?_
   refine sN ?_
   refine cCond (p := l[i] ≠ r[i]) (by show Value.bool _ = Value.bool _; rw [← decide_not]) (fun c2 => ?_) (fun c2 => ?_)
   ·
    refine cSR ?_
    refine sAb rfl ?_
    refine sN ?_
    refine cRet (kBlkR (kSeqR (kSeqR (kBlkR (kSeqR ?_)))))
    refine ⟨.inr rfl, _, rfl, ?_, hE.trans (((Ext.push _ _).trans (.push _ _)).trans e29)⟩
    have : ¬ (l = r) := fun e => c2 (by subst e; rfl)
    rw [decide_eq_false this]; rfl
   ·
    refine cSkip (kBlkN (kSeqN ?_))
    refine cRegion ?_
    refine sBin rfl rfl (aInt_add (b := 1) (by omega)) ?_
    refine sMn rfl ?_
    refine sN ?_
    refine ⟨_, ?_, i + 1, rfl, by omega, hE.trans (((Ext.push _ _).trans (.push _ _)).trans e29), fun j hji => ?_, rfl, rfl, rfl, rfl, rfl, rfl, trivial⟩
    ·omega
    ·by_cases h : j < i
     ·exact hj j h
     ·obtain rfl : j = i := by omega
      rw [List.getElem?_eq_getElem c1, List.getElem?_eq_getElem hir, Decidable.not_not.1 c2]
  ·
   refine cExit (kSeqE (kSeqE (kBlkS (kSeqN ?_))))
   refine cSR ?_
   refine sAb rfl ?_
   refine sN ?_
   refine cRet ?_
   obtain rfl : i = l.length := by omega
   have he : l = r := by
    apply List.ext_getElem? fun j => ?_
    by_cases h : j < l.length
    ·exact hj j h
    ·rw [List.getElem?_eq_none (by omega), List.getElem?_eq_none (by omega)]
   exact ⟨.inr rfl, _, rfl, by rw [decide_eq_true he]; rfl, hE⟩
theorem okf20 : okF Tryd.prog H0 20 24 = true := by kernel_rfl
theorem spec_Same {m : Mem} {a b : Value} {W B W' B' : Nat} {l r : List GateV} (ha : GatesAt m a l) (hb : GatesAt m b r) (hl : l.length < 4611686018427387904) (hw : ∀ g ∈ l, g.2.1.length < 4611686018427387904) : ∃ v m', ACalls Tryd.prog 20 #[.agg #[nv W, nv B, a], .agg #[nv W', nv B', b]] m v m' ∧ (v = .bool (decide (W = W' ∧ B = B' ∧ l = r)) ∧ Ext m m') := by
 have hE : Ext m ((m.push (.cells true #[nv W, nv B, a])).push (.cells true #[nv W', nv B', b])) := (Ext.push _ _).trans (.push _ _)
 obtain ⟨v22, m22, h22, rfl, e22⟩ := spec_EqualG (ha.ext hE) (hb.ext hE) hl hw
 obtain ⟨q1, c1, rfl⟩ := ha.len
 obtain ⟨q2, c2, rfl⟩ := hb.len
 refine wpF (args := [_, _]) mixed okf20 (fn := Tryd.f20) rfl rfl rfl (by simp) ?_
 refine cSR ?_
 refine sBox (v := .agg _) rfl ?_
 refine sBox (v := .agg _) rfl ?_
 refine sAb rfl ?_
 refine sN ?_
 refine cSR ?_
 refine sFA F30_0 rfl ?_
 refine sLd A3 rfl (by simp (disch := first | omega | (simp only [Array.size_push, Array.size_setIfInBounds]; done) | (simp only [Array.size_push, Array.size_setIfInBounds]; omega)) only [gP, gPn, gS, gSn]; try rfl) rfl ?_
 refine sFA F30_0 rfl ?_
 refine sLd A3 rfl (by simp (disch := first | omega | (simp only [Array.size_push, Array.size_setIfInBounds]; done) | (simp only [Array.size_push, Array.size_setIfInBounds]; omega)) only [gP, gPn, gS, gSn]; try rfl) rfl ?_
 refine sBin (a := W) (b := W') rfl rfl aInt_eql ?_
 refine sMb rfl ?_
 by_cases e1 : W = W'
 ·
  rw [decide_eq_true e1]
  refine sG rfl rfl ?_
  refine sFA F30_1 rfl ?_
  refine sG rfl rfl ?_
  refine sLd A3 rfl (by simp (disch := first | omega | (simp only [Array.size_push, Array.size_setIfInBounds]; done) | (simp only [Array.size_push, Array.size_setIfInBounds]; omega)) only [gP, gPn, gS, gSn]; try rfl) rfl ?_
  refine sG rfl rfl ?_
  refine sFA F30_1 rfl ?_
  refine sG rfl rfl ?_
  refine sLd A3 rfl (by simp (disch := first | omega | (simp only [Array.size_push, Array.size_setIfInBounds]; done) | (simp only [Array.size_push, Array.size_setIfInBounds]; omega)) only [gP, gPn, gS, gSn]; try rfl) rfl ?_
  refine sG rfl rfl ?_
  refine sBin (a := B) (b := B') rfl rfl aInt_eql ?_
  refine sPb rfl ?_
  refine sMb rfl ?_
  by_cases e2 : B = B'
  ·
   rw [decide_eq_true e2]
   refine sG rfl rfl ?_
   refine sFA F30_2 rfl ?_
   refine sG rfl rfl ?_
   refine sLd A28 rfl (by simp (disch := first | omega | (simp only [Array.size_push, Array.size_setIfInBounds]; done) | (simp only [Array.size_push, Array.size_setIfInBounds]; omega)) only [gP, gPn, gS, gSn]; try rfl) rfl ?_
   refine sG rfl rfl ?_
   refine sFA F30_2 rfl ?_
   refine sG rfl rfl ?_
   refine sLd A28 rfl (by simp (disch := first | omega | (simp only [Array.size_push, Array.size_setIfInBounds]; done) | (simp only [Array.size_push, Array.size_setIfInBounds]; omega)) only [gP, gPn, gS, gSn]; try rfl) rfl ?_
   refine sG rfl rfl ?_
   refine sCall3 rfl call83 rfl rfl rfl h22 ?_
   refine sPb rfl ?_
   refine sAb rfl ?_
   refine sN ?_
   refine cRet ?_
   refine ⟨.inr rfl, _, rfl, congrArg Value.bool (decide_eq_decide.2 ?_), hE.trans e22⟩
   exact ⟨fun h => ⟨e1, e2, h⟩, fun h => h.2.2⟩
  ·
   rw [decide_eq_false e2]
   refine sGF rfl rfl ?_
   refine sGF rfl rfl ?_
   refine sGF rfl rfl ?_
   refine sGF rfl rfl ?_
   refine sGF rfl rfl ?_
   refine sPb rfl ?_
   refine sAb rfl ?_
   refine sN ?_
   refine cRet ?_
   exact ⟨.inr rfl, _, rfl, congrArg Value.bool (decide_eq_false fun h => e2 h.2.1).symm, hE⟩
 ·
  rw [decide_eq_false e1]
  refine sGF rfl rfl ?_
  refine sGF rfl rfl ?_
  refine sGF rfl rfl ?_
  refine sGF rfl rfl ?_
  refine sGF rfl rfl ?_
  refine sPb rfl ?_
  refine sMb rfl ?_
  refine sGF rfl rfl ?_
  refine sGF rfl rfl ?_
  refine sGF rfl rfl ?_
  refine sGF rfl rfl ?_
  refine sGF rfl rfl ?_
  refine sPb rfl ?_
  refine sAb rfl ?_
  refine sN ?_
  refine cRet ?_
  exact ⟨.inr rfl, _, rfl, congrArg Value.bool (decide_eq_false fun h => e1 h.1).symm, hE⟩
end Go.AM

/-! P20t -/
namespace Go.AM
end Go.AM

/-! P20 -/
namespace Go.AM
open Go.Proofs
end Go.AM

/-! P21 -/
namespace Go.AM
open Go.Proofs
end Go.AM

/-! S1 -/
namespace Go.AM
open Go.Proofs Go.Shelf
end Go.AM

/-! S2 -/
namespace Go.AM
open Go.Proofs Go.Shelf
end Go.AM

/-! S3 -/
namespace Go.AM
open Go.Proofs
end Go.AM

/-! S4 -/
namespace Go.AM
open Go.Proofs
end Go.AM

/-! S5 -/
namespace Go.AM
open Go.Proofs
end Go.AM

/-! P22 -/
namespace Go.AM
open Go.Proofs
theorem El22 : ElemT Tryd.prog 34 34 1 := ⟨_, _, _, 24, T34, T34, rfl, S22, Z22, rfl, bytes22, by decide, by decide⟩
theorem fillV {q : Option Addr} {n c : Nat} : Instr.fill (fun i => some (i * 1, 1)) (if 1 * 1 = 0 then #[] else (Array.range (1 * 1)).map ((Value.slice none 0 0).cells[· % (Value.slice none 0 0).cells.size]!)) [(0, .slice q n c)] = some #[.slice q n c] := by kernel_rfl
theorem OwnR.set {N b : Nat} {m : Mem} {v : Value} {cs : Array Value} {G : List (List Int)} (h : OwnR N m v cs G) (hv : blkOf v ≠ some b) (hr : ∀ (i : Nat) (s : Value), cs[i]? = some s → blkOf s ≠ some b) (o : AObj) : OwnR N (m.setIfInBounds b o) v cs G :=
 ⟨h.1.keep fun c hc => gSn fun e => hv (by rw [e, hc]), fun i g hi => by
  obtain ⟨s, hs, ho, hb⟩ := h.2 i g hi
  exact ⟨s, hs, ho.keep fun c hc => gSn fun e => hr i s hs (by rw [e, hc]), hb⟩⟩
end Go.AM

/-! P23 -/
namespace Go.AM
open Go.Proofs
def treeTo (W c : Nat) : List (List Nat) := (treeAt W (W - 1)).take c
structure TreeI (m : Mem) (W c : Nat) (v : Value) (cs : Array Value) (m' : Mem) : Prop where
  low : Low (m.size + 1) (m.push (.cells true #[.slice none 0 0])) m'
  sz : m.size + 2 ≤ m'.size
  g : Mem.get m' (m.size + 1) = .cells true #[v]
  own : OwnR (m.size + 1) m' v cs (ofs2 (treeTo W c))
  off : blkOf v ≠ some (m.size + 1)
  offs : ∀ (j : Nat) (s : Value), cs[j]? = some s → blkOf s ≠ some (m.size + 1)
end Go.AM

/-! M29 -/
namespace Go.AM
structure Bd (D : Nat) (es : List (Nat × Nat)) : Prop where
  sort : es.Pairwise fun p q => p.2 ≤ q.2
  top : ∀ q ∈ es, q.2 ≤ D + 1
/-- The entries ahead of a place have all their neighbours; the entries rise. -/
structure Que (P : List Nat) (k i : Nat) (es : List (Nat × Nat)) : Prop where
  sort : es.Pairwise fun p q => p.2 ≤ q.2
  top : ∀ p, es[i]? = some p → ∀ q ∈ es, q.2 ≤ p.2 + 1
  done : ∀ (j : Nat) (p : Nat × Nat), j < i → es[j]? = some p → ∀ n, n < P.length → wayB P k p.1 n = true → ∃ d, lookE es (p.1 ^^^ 2 ^ n) = some d ∧ d ≤ p.2 + 1
end Go.AM

/-! G4 -/
namespace Go.AM
open Go.Proofs
theorem bitB (x u : Nat) : decide (x >>> u &&& 1 = 1) = x.testBit u := by
 by_cases h : x.testBit u = true
 ·rw [h, decide_eq_true ((bit_one x u).2 h)]
 ·rw [Bool.eq_false_iff.2 h, decide_eq_false (fun e => h ((bit_one x u).1 e))]
end Go.AM

/-! S6 -/
namespace Go.AM
open Go.Proofs
theorem cut_own {N : Nat} {m : Mem} {v : Value} {L : List Nat} {k : Nat} (h : OwnF N m v (ofs L)) (hk : k ≤ L.length) : ∃ v2, aSlice Tryd.prog m 22 v none (some (nv k)) none = some v2 ∧ OwnF N m v2 (ofs (L.take k)) ∧ (∃ q c, v2 = .slice q (L.take k).length c) := by
 rcases h with ⟨h1, rfl⟩ | ⟨b, cap, c, rfl, h2, h3, h4, h5, h6⟩
 ·obtain rfl : L = [] := by cases L with
   | nil => rfl
   | cons a r => simp [ofs] at h1
  obtain rfl : k = 0 := by simpa using hk
  exact ⟨.slice none 0 0, by simp only [aSlice, T22, S3, aBounds]; rfl, .nil _ _, _, _, rfl⟩
 ·have hkc : k ≤ cap := by rw [ofs_length] at h4; omega
  refine ⟨_, aSlice_hi T22 S3 hkc, .inr ⟨b, cap, c, by rw [ofs_length, List.length_take, Nat.min_eq_left hk], h2, h3, by rw [ofs_length, List.length_take]; omega, h5, fun i x hx => h6 i x ?_⟩, _, _, by rw [List.length_take, Nat.min_eq_left hk]⟩
  simp only [ofs, List.map_take, List.getElem?_take] at hx
  split at hx
  ·exact hx
  ·cases hx
theorem OwnR.lowx {N b : Nat} {m m' : Mem} {v : Value} {cs : Array Value} {G : List (List Int)} (h : OwnR N m v cs G) (hx : LowX m.size b m m') (hb : b < N) : OwnR N m' v cs G := h.up fun c h1 h2 => hx.2 c h2 (by omega)
end Go.AM

/-! P24 -/
namespace Go.AM
open Go.Proofs
/-- A slice that may be wiped. -/
def Wr (N M : Nat) (m : Mem) (s : Value) (n : Nat) : Prop := (s = .slice none 0 0 ∧ n = 0) ∨ ∃ b cap c, s = .slice (some ⟨b, 0, some 1⟩) n cap ∧ (N ≤ b ∧ b < M) ∧ Mem.get m b = .cells true c ∧ n ≤ c.size
/-- What wiping leaves. -/
def Wipe (N M : Nat) (m m' : Mem) : Prop := m'.size = m.size ∧ (∀ b, b < N ∨ M ≤ b → Mem.get m' b = Mem.get m b) ∧ ∀ b c, Mem.get m b = .cells true c → ∃ c', Mem.get m' b = .cells true c' ∧ c'.size = c.size
theorem Wipe.refl (N M : Nat) (m : Mem) : Wipe N M m m := ⟨rfl, fun _ _ => rfl, fun b c h => ⟨c, h, rfl⟩⟩
theorem Wipe.trans {N M : Nat} {a b c : Mem} (h : Wipe N M a b) (h' : Wipe N M b c) : Wipe N M a c := ⟨h'.1.trans h.1, fun i hi => (h'.2.1 i hi).trans (h.2.1 i hi), fun i x hx => by
 obtain ⟨y, hy, e⟩ := h.2.2 i x hx
 obtain ⟨z, hz, e'⟩ := h'.2.2 i y hy
 exact ⟨z, hz, e'.trans e⟩⟩
theorem OwnF.wr {N M : Nat} {m : Mem} {v : Value} {l : List Int} (h : OwnF N m v l) (hM : ∀ b, blkOf v = some b → b < M) : Wr N M m v l.length := by
 rcases h with ⟨rfl, rfl⟩ | ⟨b, cap, c, h1, h2, h3, h4, h5, _⟩
 ·exact .inl ⟨rfl, rfl⟩
 ·exact .inr ⟨b, cap, c, h1, ⟨h2, hM b (by rw [h1]; rfl)⟩, h3, by omega⟩
theorem zeroCells_one (z : Value) (n : Nat) : Builtin.zeroCells #[z] n = Array.replicate n z := by
 unfold Builtin.zeroCells
 apply Array.ext
 ·simp
 ·intro i h1 h2
  simp [Nat.mod_one]
theorem sClrW {P : Program} {ρ : Env} {m : Mem} {K : Env → Mem → Prop} {ops : Array Oper} {l : List Oper} {d : Option Nat} {ty t e : TypeId} {pos : String} {af : Array Edge} {x : Operand} {s z : Value} {N M n : Nat}
  (ht : undOf P t = some (.slice e)) (hz : zeroOf P e = some z) (h1 : z.cells = #[z]) (h2 : flat0 z = true) (h3 : Value.oneCell' z = true) (hx : evR ρ x = s) (hs : Wr N M m s n)
  (hk : ∀ m', Wipe N M m m' → (∀ b, blkOf s ≠ some b → Mem.get m' b = Mem.get m b) → wpOps P ops K l (updO ρ d (.tuple #[])) m') : wpOps P ops K (⟨d, .call ⟨.builtin .clear, ⟨[x]⟩, ⟨[t]⟩⟩, ty, pos, af, none⟩ :: l) ρ m := by
 rcases hs with ⟨rfl, _⟩ | ⟨b, cap, c, rfl, hN, hb, hn⟩
 ·refine sO (opF_eff rfl rfl ?_) (hk m (.refl _ _ _) fun _ _ => rfl)
  simp only [aEff, hx, aClear, ht]
 ·by_cases h0 : n = 0
  ·refine sO (opF_eff rfl rfl ?_) (hk m (.refl _ _ _) fun _ _ => rfl)
   simp only [aEff, hx, aClear, ht, h0, if_true]
  ·refine sO (opF_eff rfl rfl ?_) (hk (m.setIfInBounds b (.cells true (lay c 0 (Array.replicate n z)))) ⟨by simp, fun i hi => gSn (by omega), fun i c' hi => ?_⟩ fun i hi => gSn fun e => hi (by rw [← e]; rfl))
   ·simp only [aEff, hx, aClear, ht, if_neg h0, hz, hb, h1, zeroCells_one]
    rw [if_pos ⟨by simp, by simp [h2], by simp; omega, by rw [Array.all_eq_true]; intro i hi; simp [h3]⟩]
   ·by_cases hib : b = i
    ·subst hib
     rw [hb] at hi; cases hi
     exact ⟨_, gS rfl (live hb), lay_size ..⟩
    ·exact ⟨c', (gSn hib).trans hi, rfl⟩
end Go.AM

/-! P27 -/
namespace Go.AM
open Go.Proofs
end Go.AM

/-! P28 -/
namespace Go.AM
open Go.Proofs
end Go.AM

/-! P28L -/
namespace Go.AM
open Go.Proofs
end Go.AM

/-! P34 -/
namespace Go.AM
open Go.Proofs
end Go.AM

/-! P35 -/
namespace Go.AM
open Go.Proofs
end Go.AM

/-! P36 -/
namespace Go.AM
open Go.Proofs
/-- A slice of elements of several cells that may be wiped. -/
def WrC (N : Nat) (m : Mem) (s : Value) (w n : Nat) : Prop := (s = .slice none 0 0 ∧ n = 0) ∨ ∃ b cap c, s = .slice (some ⟨b, 0, some w⟩) n cap ∧ N ≤ b ∧ Mem.get m b = .cells true c ∧ n * w ≤ c.size
theorem zeroCells_all {z : Array Value} {n : Nat} (h : z.all Value.oneCell' = true) (h0 : z.size ≠ 0) : (Builtin.zeroCells z n).all Value.oneCell' = true := by
 unfold Builtin.zeroCells
 rw [Array.all_eq_true] at h ⊢
 intro i hi
 have hlt : i % z.size < z.size := Nat.mod_lt _ (Nat.pos_of_ne_zero h0)
 have := h (i % z.size) hlt
 simp only [Array.getElem_map, Array.getElem_range]
 rw [getElem!_pos z (i % z.size) hlt]
 exact this
theorem quad_atD {c : Array Value} {i : Nat} {a b d e : Value} (h1 : c[i * 4]? = some a) (h2 : c[i * 4 + 1]? = some b) (h3 : c[i * 4 + 2]? = some d) (h4 : c[i * 4 + 3]? = some e) : c.extract (0 + i * 4) (0 + i * 4 + 4) = #[a, b, d, e] := by
 have l4 := (Array.getElem?_eq_some_iff.1 h4).1
 apply Array.ext
 ·simp; omega
 ·intro j hj1 hj2
  have hj : j < 4 := by simpa using hj2
  rw [Array.getElem_extract]
  have e0 : 0 + i * 4 + j = i * 4 + j := by omega
  match j, hj with
  | 0, _ => simpa [Array.getElem?_eq_some_iff] using (Array.getElem?_eq_some_iff.1 h1).2
  | 1, _ => simpa [e0] using (Array.getElem?_eq_some_iff.1 h2).2
  | 2, _ => simpa [e0] using (Array.getElem?_eq_some_iff.1 h3).2
  | 3, _ => simpa [e0] using (Array.getElem?_eq_some_iff.1 h4).2
theorem okf26 : okF Tryd.prog H0 26 16 = true := by kernel_rfl
end Go.AM

/-! Q0 -/
namespace Go.AM
open Go.Proofs
theorem nodup_le {l : List Nat} {n : Nat} (h : l.Nodup) (hl : ∀ x ∈ l, x < n) : l.length ≤ n := by
 have := h.length_le_of_subset (l₂ := List.range n) fun x hx => List.mem_range.2 (hl x hx)
 rwa [List.length_range] at this
theorem T129 : undOf Tryd.prog 129 = some (.map 3 127) := by kernel_rfl
theorem Z127 : zeroOf Tryd.prog 127 = some (.agg #[nv 0, .nilFunc]) := by kernel_rfl
theorem S127 : szOf Tryd.prog 127 = some 2 := by kernel_rfl
theorem A129 : isAggT Tryd.prog 129 = some false := by kernel_rfl
theorem F157_0 {b o : Nat} : aFieldAddr Tryd.prog 157 (.pointer (some ⟨b, o, none⟩)) 0 = some (.pointer (some ⟨b, o, none⟩)) := by kernel_rfl
theorem call155 : callable Tryd.prog 155 = true := by kernel_rfl
theorem call39 : callable Tryd.prog 39 = true := by kernel_rfl
theorem call46 : callable Tryd.prog 46 = true := by kernel_rfl
theorem call73 : callable Tryd.prog 73 = true := by kernel_rfl
theorem call45 : callable Tryd.prog 45 = true := by kernel_rfl
theorem call97 : callable Tryd.prog 97 = true := by kernel_rfl
theorem call102 : callable Tryd.prog 102 = true := by kernel_rfl
theorem call103 : callable Tryd.prog 103 = true := by kernel_rfl
theorem call104 : callable Tryd.prog 104 = true := by kernel_rfl
theorem call100 : callable Tryd.prog 100 = true := by kernel_rfl
theorem call32 : callable Tryd.prog 32 = true := by kernel_rfl
theorem call101 : callable Tryd.prog 101 = true := by kernel_rfl
theorem call137 : callable Tryd.prog 137 = true := by kernel_rfl
theorem call130 : callable Tryd.prog 130 = true := by kernel_rfl
theorem call136 : callable Tryd.prog 136 = true := by kernel_rfl
theorem call93 : callable Tryd.prog 93 = true := by kernel_rfl
theorem call149 : callable Tryd.prog 149 = true := by kernel_rfl
theorem call152 : callable Tryd.prog 152 = true := by kernel_rfl
theorem call153 : callable Tryd.prog 153 = true := by kernel_rfl
theorem call154 : callable Tryd.prog 154 = true := by kernel_rfl
theorem call161 : callable Tryd.prog 161 = true := by kernel_rfl
theorem call76 : callable Tryd.prog 76 = true := by kernel_rfl
theorem call129 : callable Tryd.prog 129 = true := by kernel_rfl
end Go.AM

/-! Q1 -/
namespace Go.AM
open Go.Proofs
theorem okf73 : okF Tryd.prog H0 73 19 = true := by kernel_rfl
theorem spec_Index {m : Mem} {a : Value} {l : List Nat} {x : Nat} (ha : IntsAt m a (ofs l)) (hl : l.length < 1000000) : ∃ i : Int, ACalls Tryd.prog 73 #[a, nv x] m (.int .i64 i) m ∧ (0 ≤ i ↔ x ∈ l) := by
 suffices h : ∃ v m', ACalls Tryd.prog 73 #[a, nv x] m v m' ∧ (∃ i : Int, v = .int .i64 i ∧ m' = m ∧ (0 ≤ i ↔ x ∈ l)) by
  obtain ⟨v, m', h, i, rfl, rfl, h2⟩ := h; exact ⟨i, h, h2⟩
 obtain ⟨q, cap, rfl⟩ := ha.lenN
 refine wpF (args := [_, _]) mixed okf73 (fn := Tryd.f73) rfl rfl rfl (by simp) ?_
 refine cSR ?_
 refine sAn rfl ?_
 refine sN ?_
 refine cSeq (cSR ?_)
 refine sMs rfl ?_
 refine sLen T22 rfl ?_
 refine sMv (v := nv 0) rfl ?_
 refine sN ?_
 refine cBlock ?_
 refine wpC_loop (fun k ρ m' => ∃ i, k = l.length - i ∧ i ≤ l.length ∧ (∀ j, j < i → l[j]? ≠ some x) ∧ m = m' ∧ Has ρ [(0, .slice q l.length cap), (1, nv x), (7, nv l.length), (8, nv i)]) ⟨0, rfl, by omega, by omega, rfl, rfl, rfl, rfl, rfl, trivial⟩ ?_
 rintro k ρ _ ⟨i, rfl, hi, hr, rfl, hh⟩
 rw [hh.env]; clear hh
 refine cSR ?_
 refine sBin rfl rfl (aInt_lss) ?_
 refine sN ?_
 refine cSeq ?_
 refine cCond rfl (fun c0 => ?_) (fun c0 => ?_)
 ·
  obtain ⟨b1, o1, p1, r1, cc, e1, g1, x1⟩ := ha.atN (by omega)
  cases e1
  refine cSkip (kSeqN ?_)
  refine cSeq (cBlock (cSR ?_))
  refine sMn rfl ?_
  refine sAn rfl ?_
  refine sN ?_
  refine cSR ?_
  refine sMn rfl ?_
  refine sMs rfl ?_
  refine sMn rfl ?_
  refine sIx T22 S3 rfl rfl (by omega) ?_
  refine sLd (v := nv l[i]) A3 rfl g1 (x1 i l[i] (by simp)) ?_
  refine sBin (a := x) (b := l[i]) rfl rfl aInt_eql ?_
  refine sN ?_
  refine cCond rfl (fun c1 => ?_) (fun c1 => ?_)
  ·
   refine cSR ?_
   refine sMn rfl ?_
   refine sAn rfl ?_
   refine sN ?_
   refine cRet (kBlkR (kSeqR (kSeqR (kBlkR (kSeqR ?_)))))
   have hm : x ∈ l := by have := List.getElem_mem c0; rwa [← c1] at this
   exact ⟨.inr rfl, _, rfl, Int.ofNat i, rfl, rfl, ⟨fun _ => hm, fun _ => by simp⟩⟩
  ·
   refine cSkip (kBlkN (kSeqN ?_))
   refine cRegion ?_
   refine sBin rfl rfl (aInt_add (b := 1) (by omega)) ?_
   refine sMn rfl ?_
   refine sN ?_
   refine ⟨_, ?_, i + 1, rfl, by omega, fun j hj e => ?_, rfl, rfl, rfl, rfl, rfl, trivial⟩
   ·omega
   ·by_cases h : j = i
    ·subst h
     rw [List.getElem?_eq_getElem c0] at e
     exact c1 (Option.some.inj e).symm
    ·exact hr j (by omega) e
 ·
  refine cExit (kSeqE (kSeqE (kBlkS (kSeqN ?_))))
  refine cSR ?_
  refine sAs (v := .int .i64 (-1)) rfl ?_
  refine sN ?_
  refine cRet ?_
  have hm : ¬ x ∈ l := fun h => by
   obtain ⟨j, hj, e⟩ := List.getElem_of_mem h
   exact hr j (by omega) (by rw [List.getElem?_eq_getElem hj, e])
  exact ⟨.inr rfl, _, rfl, -1, rfl, rfl, ⟨fun h => by omega, fun h => absurd h hm⟩⟩
theorem okf155 : okF Tryd.prog H0 155 9 = true := by kernel_rfl
theorem spec_Contains {m : Mem} {a : Value} {l : List Nat} {x : Nat} (ha : IntsAt m a (ofs l)) (hl : l.length < 1000000) : ACalls Tryd.prog 155 #[a, nv x] m (.bool (decide (x ∈ l))) m := by
 suffices h : ∃ v m', ACalls Tryd.prog 155 #[a, nv x] m v m' ∧ (v = .bool (decide (x ∈ l)) ∧ m' = m) by
  obtain ⟨v, m', h, rfl, rfl⟩ := h; exact h
 obtain ⟨q, cap, rfl⟩ := ha.lenN
 obtain ⟨i, hi, hm⟩ := spec_Index ha hl (x := x)
 refine wpF (args := [_, _]) mixed okf155 (fn := Tryd.f155) rfl rfl rfl (by simp) ?_
 refine cSR ?_
 refine sAb rfl ?_
 refine sN ?_
 refine cSR ?_
 refine sMs rfl ?_
 refine sMn rfl ?_
 refine sCall2 rfl call73 rfl rfl hi ?_
 refine sBinI (v := .bool (decide (x ∈ l))) (a := i) (b := 0) rfl rfl (by rw [aInt_geqI]; congr 2; exact decide_eq_decide.2 hm) ?_
 refine sAb rfl ?_
 refine sN ?_
 refine cRet ?_
 exact ⟨.inr rfl, _, rfl, rfl, rfl⟩
theorem okf153 : okF Tryd.prog H0 153 20 = true := by kernel_rfl
end Go.AM

/-! Q2 -/
namespace Go.AM
open Go.Proofs
/-- A right gate of a game's circuit on n wires. -/
structure GateOk (n : Nat) (g : Nat × List Nat) : Prop where
  kind : (g.1 = 1 ∧ g.2.length = 1) ∨ (g.1 = 9 ∧ g.2.length = 2) ∨ (g.1 = 12 ∧ g.2.length = 3)
  lt : ∀ w ∈ g.2, w < n
  once : g.2.Nodup
structure CircOk (n : Nat) (Gs : List (Nat × List Nat)) : Prop where
  one : 1 ≤ n
  ten : n ≤ 12
  few : Gs.length ≤ 120
  all : ∀ g ∈ Gs, GateOk n g
theorem quad_at {c : Array Value} {i : Nat} {a b d e : Value} (h1 : c[i * 4]? = some a) (h2 : c[i * 4 + 1]? = some b) (h3 : c[i * 4 + 2]? = some d) (h4 : c[i * 4 + 3]? = some e) : c.extract (0 + i * 4) (0 + i * 4 + 4) = #[a, b, d, e] := by
 have hs := (Array.getElem?_eq_some_iff.1 h4).1
 apply Array.ext_getElem?
 intro j
 rw [Array.getElem?_extract]
 match j with
 | 0 => rw [if_pos (by omega)]; simpa using h1
 | 1 => rw [if_pos (by omega)]; simpa using h2
 | 2 => rw [if_pos (by omega)]; simpa using h3
 | 3 => rw [if_pos (by omega)]; simpa using h4
 | j + 4 => rw [if_neg (by omega)]; rfl
/-- One gate, where it lies. -/
theorem OwnG.gate {N : Nat} {m : Mem} {v : Value} {cs : Array Value} {Gs : List (Nat × List Nat)} (h : OwnG N m v cs Gs) {i : Nat} {g : Nat × List Nat} (hi : Gs[i]? = some g) :
  ∃ b cap c ws, v = .slice (some ⟨b, 0, some 4⟩) Gs.length cap ∧ Mem.get m b = .cells true c ∧ i * 4 + 4 ≤ c.size ∧ c.extract (0 + i * 4) (0 + i * 4 + 4) = #[nv g.1, ws, nv 0, nv 0] ∧ OwnF N m ws (ofs g.2) := by
 have hl := (List.getElem?_eq_some_iff.1 hi).1
 obtain ⟨b, cap, c, rfl, hN, hb, hsz, hc⟩ := h.1.at (by omega)
 obtain ⟨ws, h1, h2, h3, h4, ho, _⟩ := h.2 i g hi
 rw [← hc _ (by omega)] at h1 h2 h3 h4
 exact ⟨b, cap, c, ws, rfl, hb, by omega, quad_at h1 h2 h3 h4, ho⟩
theorem okf152 : okF Tryd.prog H0 152 13 = true := by kernel_rfl
theorem okf161 : okF Tryd.prog H0 161 8 = true := by kernel_rfl
theorem spec_every1 {m : Mem} {p : Nat} {r : Bool} {g : FuncId} {cp : Array Value} {x : Int} {y : Bool} (h : Mem.get m p = .cells r #[.func (.func g) #[] cp]) (hk : callable Tryd.prog g = true) (hc : ACalls Tryd.prog g (#[.int .i64 x] ++ cp) m (.bool y) m) : ACalls Tryd.prog 161 #[.int .i64 x, .pointer (some ⟨p, 0, none⟩)] m (.bool (!y)) m := by
 refine ACalls.callee ?_
 refine wpF (args := [_, _]) mixed okf161 (fn := Tryd.f161) rfl rfl rfl (by simp) ?_
 refine cSR ?_
 refine sAb rfl ?_
 refine sN ?_
 refine cSR ?_
 refine sLd (v := .func (.func g) #[] cp) A131 rfl h rfl ?_
 refine sMv (v := .int _ _) rfl ?_
 refine sCall rfl hk (by simpa [evR, updO] using hc) ?_
 refine sP (v := .bool (!y)) rfl ?_
 refine sAb rfl ?_
 refine sN ?_
 refine cRet ?_
 exact ⟨.inr rfl, _, rfl, rfl, rfl⟩
theorem okf154 : okF Tryd.prog H0 154 9 = true := by kernel_rfl
theorem spec_every {m : Mem} {a : Value} {l : List Int} {g : FuncId} {cp : Array Value} {p : Int → Bool} (ha : IntsAt m a l) (hl : l.length < 1000000) (hk : callable Tryd.prog g = true) (hp : ∀ x ∈ l, ∀ m', Ext m m' → ACalls Tryd.prog g (#[.int .i64 x] ++ cp) m' (.bool (p x)) m') : ∃ v m', ACalls Tryd.prog 154 #[a, .func (.func g) #[] cp] m v m' ∧ (v = .bool (l.all p) ∧ Ext m m') := by
 obtain ⟨q, cap, rfl⟩ := ha.len
 have he : Ext m (m.push (.cells true #[.func (.func g) #[] cp])) := .push _ _
 refine wpF (args := [_, _]) mixed okf154 (fn := Tryd.f154) rfl rfl rfl (by simp) ?_
 refine cSR ?_
 refine sBox (v := .func (.func g) #[] cp) rfl ?_
 change wpOps _ _ _ _ _ (m.push (.cells true #[.func (.func g) #[] cp]))
 refine sAb rfl ?_
 refine sN ?_
 refine cSR ?_
 refine sMs rfl ?_
 refine sMFc1 rfl ?_
 have h7 := spec_ContainsFunc (m := m.push (.cells true #[.func (.func g) #[] cp])) (p := fun x => !p x) (ha.ext he) (by omega) call161 (cp := #[.pointer (some ⟨m.size, 0, none⟩)]) fun x hx => spec_every1 (gP rfl) hk (hp x hx _ he)
 refine sCall rfl call107 (by simpa [evR, updO] using h7) ?_
 refine sP (v := .bool (!(l.any fun x => !p x))) rfl ?_
 refine sAb rfl ?_
 refine sN ?_
 refine cRet ?_
 refine ⟨.inr rfl, _, rfl, ?_, he⟩
 have : (!(l.any fun x => !p x)) = l.all p := by rw [List.all_eq_not_any_not]
 rw [← this]; rfl
end Go.AM

/-! Q3 -/
namespace Go.AM
open Go.Proofs
/-- The last wire is turned if all others are 1. -/
def turnM (x : Nat) (w : List Nat) : Nat := if w.dropLast.all (fun c => x.testBit c) then x ^^^ 2 ^ w.getLastD 0 else x
def runM (Gs : List (Nat × List Nat)) (x : Nat) : Nat := Gs.foldl (fun x g => turnM x g.2) x
theorem turnM_lt {n x : Nat} {w : List Nat} (hx : x < 2 ^ n) (hw : ∀ y ∈ w, y < n) (h0 : 0 < w.length) : turnM x w < 2 ^ n := by
 unfold turnM
 split
 ·refine Nat.xor_lt_two_pow hx (Nat.pow_lt_pow_right (by omega) (hw _ ?_))
  rw [List.getLastD_eq_getLast?, List.getLast?_eq_getElem?, List.getElem?_eq_getElem (by omega)]
  exact List.getElem_mem _
 ·exact hx
theorem okf129 : okF Tryd.prog H0 129 9 = true := by kernel_rfl
theorem spec_turned1 {m : Mem} {p x y : Nat} {r : Bool} (h : Mem.get m p = .cells r #[nv x]) (hx : x < 2 ^ 12) : ACalls Tryd.prog 129 #[nv y, .pointer (some ⟨p, 0, none⟩)] m (.bool (!x.testBit y)) m := by
 refine ACalls.callee ?_
 have hsh := Nat.shiftRight_le x y
 refine wpF (args := [_, _]) mixed okf129 (fn := Tryd.f129) rfl rfl rfl (by simp) ?_
 refine cSR ?_
 refine sAb rfl ?_
 refine sN ?_
 refine cSR ?_
 refine sLd (v := nv x) A3 rfl h rfl ?_
 refine sMn rfl ?_
 refine sBin (a := x) (b := y) rfl rfl (aInt_shr (by omega)) ?_
 refine sBin (b := 1) rfl rfl (aInt_and (by omega)) ?_
 refine sBin (v := .bool (!x.testBit y)) (b := 0) rfl rfl (by
  rw [aInt_eql]
  congr 2
  rw [Bool.eq_iff_iff, decide_eq_true_eq]
  have h1 := bitB x y
  have h2 : x >>> y &&& 1 = 0 ∨ x >>> y &&& 1 = 1 := by rw [Nat.and_one_is_mod]; omega
  rcases h2 with h2 | h2 <;> rw [h2] at h1 ⊢ <;> rw [← h1] <;> simp) ?_
 refine sAb rfl ?_
 refine sN ?_
 refine cRet ?_
 exact ⟨.inr rfl, _, rfl, rfl, rfl⟩
theorem okf76 : okF Tryd.prog H0 76 22 = true := by kernel_rfl
theorem spec_turnedG {m : Mem} {N x : Nat} {ws : Value} {w : List Nat} (hw : OwnF N m ws (ofs w)) (h0 : 0 < w.length) (h3 : w.length ≤ 3) (hlt : ∀ y ∈ w, y < 12) (hx : x < 2 ^ 12) : ∃ v m', ACalls Tryd.prog 76 #[nv x, ws] m v m' ∧ (v = nv (turnM x w) ∧ Ext m m') := by
 obtain ⟨q, cap, rfl⟩ := hw.ints.lenN
 have e1 : Ext m (m.push (.cells true #[nv x])) := .push _ _
 have g1 : Mem.get (m.push (.cells true #[nv x])) m.size = .cells true #[nv x] := gP rfl
 obtain ⟨y, hy⟩ : ∃ y, w[w.length - 1]? = some y := ⟨_, List.getElem?_eq_getElem (by omega)⟩
 have hyl := hlt y (List.mem_of_getElem? hy)
 have hlast : w.getLastD 0 = y := by rw [List.getLastD_eq_getLast?, List.getLast?_eq_getElem?, hy]; rfl
 have h2y : 2 ^ y < 2 ^ 12 := Nat.pow_lt_pow_right (by omega) hyl
 refine wpF (args := [_, _]) mixed okf76 (fn := Tryd.f76) rfl rfl rfl (by simp) ?_
 refine cSR ?_
 refine sBox (v := nv x) rfl ?_
 change wpOps _ _ _ _ _ (m.push (.cells true #[nv x]))
 refine sAn rfl ?_
 refine sN ?_
 refine cSR ?_
 refine sMs rfl ?_
 refine sLen T22 rfl ?_
 refine sBin (v := nv (w.length - 1)) rfl rfl (aInt_sub (b := 1) (by omega)) ?_
 refine sAn rfl ?_
 refine sN ?_
 refine cSeq (cSR ?_)
 refine sMs rfl ?_
 refine sMn rfl ?_
 obtain ⟨v11, h11, o11, q11, c11, rfl⟩ := cut_own (hw.ext e1) (show w.length - 1 ≤ w.length by omega)
 refine sO (v := .slice q11 (w.take (w.length - 1)).length c11) (m' := m.push (.cells true #[nv x])) (opF_read rfl h11) ?_
 refine sMFc1 rfl ?_
 have h13 := spec_ContainsFunc (m := m.push (.cells true #[nv x])) (p := fun c => !x.testBit c.toNat) o11.ints (by rw [ofs_length, List.length_take]; omega) call129 (cp := #[.pointer (some ⟨m.size, 0, none⟩)]) fun z hz => by
  obtain ⟨u, hu, rfl⟩ := List.mem_map.1 hz
  exact spec_turned1 g1 (by omega)
 have hany : ((ofs (w.take (w.length - 1))).any fun c => !x.testBit c.toNat) = !(w.dropLast.all fun c => x.testBit c) := by
  rw [List.dropLast_eq_take, ofs, List.any_map, List.all_eq_not_any_not, Bool.not_not]
  rfl
 rw [hany] at h13
 refine sCall2 rfl call107 rfl rfl h13 ?_
 refine sN ?_
 refine cCond (p := (w.dropLast.all fun c => x.testBit c) = false) (by show Value.bool _ = Value.bool _; cases (w.dropLast.all fun c => x.testBit c) <;> rfl) (fun c0 => ?_) (fun c0 => ?_)
 ·
  refine cSR ?_
  refine sLd (v := nv x) A3 rfl g1 rfl ?_
  refine sAn rfl ?_
  refine sN ?_
  refine cRet (kSeqR ?_)
  exact ⟨.inr rfl, _, rfl, by rw [turnM, c0]; rfl, e1⟩
 ·
  obtain ⟨b1, o1, p1, r1, cc, ee1, gg, x1⟩ := hw.ints.atN (by omega)
  cases ee1
  refine cSkip (kSeqN ?_)
  refine cSeq ?_
  refine cDraw rfl ?_
  refine sLd (v := nv x) A3 rfl g1 rfl ?_
  refine sMs rfl ?_
  refine sMn rfl ?_
  refine sIx T22 S3 rfl rfl (by omega) ?_
  refine sLd (v := nv y) A3 rfl (e1.cells gg) (x1 _ y hy) ?_
  refine sBin rfl rfl (aInt_shl (a := 1) (by omega)) ?_
  rw [Nat.shiftLeft_eq, Nat.one_mul]
  refine sBin (a := x) (b := 2 ^ y) rfl rfl (aInt_xor ⟨by omega, by omega⟩) ?_
  refine sAn rfl ?_
  refine sN ?_
  refine cRet ?_
  have c0' : (w.dropLast.all fun c => x.testBit c) = true := by simpa using c0
  exact ⟨.inr rfl, _, rfl, by rw [turnM, c0', if_pos rfl, hlast]; rfl, e1⟩
end Go.AM

/-! Q4 -/
namespace Go.AM
open Go.Proofs
theorem posM_take {l : List Nat} {i y : Nat} (h : l[i]? = some y) : posM (l.take (i + 1)) = posM (l.take i) ||| 2 ^ y := by
 rw [List.take_add_one, h]
 simp [posM, posFrom]
theorem resRs_cell2 {P : Program} {ρ : Env} {m : Mem} {a ty b a2 ty2 b2 : Nat} {r r2 : Bool} {c c2 : Array Value} {v v2 : Value} (ht : isAggT P ty = some false) (hx : ρ a = .pointer (some ⟨b, 0, none⟩)) (hb : Mem.get m b = .cells r c) (hc : c[0]? = some v)
  (ht2 : isAggT P ty2 = some false) (hx2 : ρ a2 = .pointer (some ⟨b2, 0, none⟩)) (hb2 : Mem.get m b2 = .cells r2 c2) (hc2 : c2[0]? = some v2) : resRs P ρ m [.cell a ty, .cell a2 ty2] = some [v, v2] := by
 have h1 := resRs_cell (a := a) (ty := ty) ht hx hb hc
 have h2 := resRs_cell (a := a2) (ty := ty2) ht2 hx2 hb2 hc2
 simp only [resRs] at h1 h2 ⊢
 cases e1 : resR P ρ m (.cell a ty) with
 | none => rw [e1] at h1; cases h1
 | some x =>
  cases e2 : resR P ρ m (.cell a2 ty2) with
  | none => rw [e2] at h2; cases h2
  | some y =>
   rw [e1] at h1; rw [e2] at h2
   cases h1; cases h2; rfl
theorem okf137 : okF Tryd.prog H0 137 12 = true := by kernel_rfl
theorem spec_mask1 {m : Mem} {p n : Nat} {r : Bool} {a b : Value} {x : Int} (h : Mem.get m p = .cells r #[nv n, a, b]) : ACalls Tryd.prog 137 #[.int .i64 x, .pointer (some ⟨p, 0, none⟩)] m (.bool (decide (x < 0) || decide (Int.ofNat n ≤ x))) m := by
 refine ACalls.callee ?_
 refine wpF (args := [_, _]) mixed okf137 (fn := Tryd.f137) rfl rfl rfl (by simp) ?_
 refine cSR ?_
 refine sAb rfl ?_
 refine sN ?_
 refine cSR ?_
 refine sMv (v := .int _ _) rfl ?_
 refine sBinI (v := .bool (decide (x < 0))) (b := 0) rfl rfl aInt_lssI ?_
 refine sMb rfl ?_
 by_cases h1 : x < 0
 ·
  rw [decide_eq_true h1]
  refine sGT rfl rfl ?_
  refine sGT rfl rfl ?_
  refine sGT rfl rfl ?_
  refine sGT rfl rfl ?_
  refine sPb rfl ?_
  refine sAb rfl ?_
  refine sN ?_
  refine cRet ?_
  exact ⟨.inr rfl, _, rfl, rfl, rfl⟩
 ·
  rw [decide_eq_false h1]
  refine sG rfl rfl ?_
  refine sMv (v := .int _ _) rfl ?_
  refine sG rfl rfl ?_
  refine sFA F30_0 rfl ?_
  refine sG rfl rfl ?_
  refine sLd (v := nv n) A3 rfl h rfl ?_
  refine sG rfl rfl ?_
  refine sBinI (v := .bool (decide (Int.ofNat n ≤ x))) rfl rfl aInt_geqI ?_
  refine sPb rfl ?_
  refine sAb rfl ?_
  refine sN ?_
  refine cRet ?_
  exact ⟨.inr rfl, _, rfl, rfl, rfl⟩
theorem okf130 : okF Tryd.prog H0 130 4 = true := by kernel_rfl
theorem spec_states {m : Mem} {n : Nat} : ∃ v m', ACalls Tryd.prog 130 #[nv n] m v m' ∧ (v = .func (.func 149) #[] #[.pointer (some ⟨m.size, 0, none⟩)] ∧ m.push (.cells true #[nv n]) = m') := by
 refine wpF (args := [_]) mixed okf130 (fn := Tryd.f130) rfl rfl rfl (by simp) ?_
 refine cSR ?_
 refine sBox (v := nv _) rfl ?_
 refine sAs rfl ?_
 refine sN ?_
 refine cSR ?_
 refine sMFc1 rfl ?_
 refine sAs rfl ?_
 refine sN ?_
 refine cRet ?_
 exact ⟨.inr rfl, _, rfl, rfl, rfl⟩
theorem okf149 : okF Tryd.prog H0 149 14 = true := by kernel_rfl
theorem spec_states1 {m : Mem} {lp p n : Nat} {J : Nat → Mem → Prop} (hn : n ≤ 12)
      (hview : ∀ i m', J i m' → ∃ r, Mem.get m' p = .cells r #[nv n])
      (hJ : ∀ i m', i < 2 ^ n → J i m' → ∃ m'', ARound Tryd.prog lp #[nv i] m' (.bool true) m'' ∧ J (i + 1) m'')
      (h0 : J 0 m) : ∃ v m', ACalls Tryd.prog 149 #[.func (.yield lp) #[] #[], .pointer (some ⟨p, 0, none⟩)] m v m' ∧ J (2 ^ n) m' := by
  obtain ⟨r, g1⟩ := hview 0 m h0
  have hp10 : 2 ^ n ≤ 2 ^ 12 := Nat.pow_le_pow_right (by omega) hn
  refine wpF (args := [_, _]) mixed okf149 (fn := Tryd.f149) rfl rfl rfl (by simp) ?_
  refine cSR ?_
  refine sLd (v := nv n) A3 rfl g1 rfl ?_
  refine sBin rfl rfl (aInt_shl (a := 1) (by omega)) ?_
  rw [Nat.shiftLeft_eq, Nat.one_mul]
  refine sMv (v := nv 0) rfl ?_
  refine sN ?_
  refine cBlock ?_
  refine wpC_loop (fun k' ρ m' => ∃ i, k' = 2 ^ n - i ∧ i ≤ 2 ^ n ∧ J i m' ∧ Has ρ [(0, .func (.yield lp) #[] #[]), (5, nv (2 ^ n)), (6, nv i)]) ⟨0, rfl, Nat.zero_le _, h0, rfl, rfl, rfl, trivial⟩ ?_
  clear g1
  rintro k' ρ m' ⟨i, rfl, hi, hJi, hh⟩
  rw [hh.env]; clear hh
  refine cSR ?_
  refine sBin rfl rfl (aInt_lss) ?_
  refine sN ?_
  refine cSeq ?_
  refine cCond rfl (fun c0 => ?_) (fun c0 => ?_)
  ·
    refine cSkip (kSeqN ?_)
    refine cSeq (cBlock (cSR ?_))
    refine sMn rfl ?_
    refine sAn rfl ?_
    refine sN ?_
    refine cSR ?_
    refine sMv (v := .func _ _ _) rfl ?_
    refine sMn rfl ?_
    obtain ⟨m11, hR, hJ2⟩ := hJ i m' c0 hJi
    refine sYield1 rfl rfl hR ?_
    refine sP (v := .bool false) rfl ?_
    refine sN ?_
    refine cCondF rfl ?_
    refine cSkip (kBlkN (kSeqN ?_))
    refine cRegion ?_
    refine sBin rfl rfl (aInt_add (b := 1) (by omega)) ?_
    refine sMn rfl ?_
    refine sN ?_
    refine ⟨_, ?_, i + 1, rfl, by omega, hJ2, rfl, rfl, rfl, trivial⟩
    omega
  ·
    refine cExit (kSeqE (kSeqE (kBlkS ?_)))
    obtain rfl : i = 2 ^ n := by omega
    exact ⟨.inl rfl, _, rfl, hJi⟩
theorem okf103 : okF Tryd.prog H0 103 15 = true := by kernel_rfl
end Go.AM

/-! RD0 -/
namespace Go.AM
open Go.Proofs
theorem T64 : undOf Tryd.prog 64 = some (.slice 66) := by kernel_rfl
theorem T112 : undOf Tryd.prog 112 = some (.slice 109) := by kernel_rfl
theorem T161 : undOf Tryd.prog 161 = some (.slice 25) := by kernel_rfl
theorem T108 : undOf Tryd.prog 108 = some (.array 8 3) := by kernel_rfl
theorem T109 : undOf Tryd.prog 109 = some (.array 8 3) := by kernel_rfl
theorem T94 : undOf Tryd.prog 94 = some (.map 3 4) := by kernel_rfl
theorem T111 : undOf Tryd.prog 111 = some (.map 109 116) := by kernel_rfl
theorem A64 : isAggT Tryd.prog 64 = some false := by kernel_rfl
theorem S66 : szOf Tryd.prog 66 = some 3 := by kernel_rfl
theorem A66 : isAggT Tryd.prog 66 = some true := by kernel_rfl
theorem S96 : szOf Tryd.prog 96 = some 3 := by kernel_rfl
theorem S109 : szOf Tryd.prog 109 = some 8 := by kernel_rfl
theorem A109 : isAggT Tryd.prog 109 = some true := by kernel_rfl
theorem A111 : isAggT Tryd.prog 111 = some false := by kernel_rfl
theorem S116 : szOf Tryd.prog 116 = some 10 := by kernel_rfl
theorem A116 : isAggT Tryd.prog 116 = some true := by kernel_rfl
theorem Z66 : zeroOf Tryd.prog 66 = some (.agg #[nv 0, nv 0, .slice none 0 0]) := by kernel_rfl
theorem Z96 : zeroOf Tryd.prog 96 = some (.agg #[nv 0, nv 0, .slice none 0 0]) := by kernel_rfl
theorem Z109 : zeroOf Tryd.prog 109 = some (.agg #[nv 0, nv 0, nv 0, nv 0, nv 0, nv 0, nv 0, nv 0]) := by kernel_rfl
theorem Z116 : zeroOf Tryd.prog 116 = some (.agg #[nv 0, nv 0, nv 0, nv 0, nv 0, nv 0, nv 0, nv 0, nv 0, nv 0]) := by kernel_rfl
theorem F66_0 {b o : Nat} : aFieldAddr Tryd.prog 66 (.pointer (some ⟨b, o, none⟩)) 0 = some (.pointer (some ⟨b, o, none⟩)) := by kernel_rfl
theorem F66_1 {b o : Nat} : aFieldAddr Tryd.prog 66 (.pointer (some ⟨b, o, none⟩)) 1 = some (.pointer (some ⟨b, o + 1, none⟩)) := by kernel_rfl
theorem F66_2 {b o : Nat} : aFieldAddr Tryd.prog 66 (.pointer (some ⟨b, o, none⟩)) 2 = some (.pointer (some ⟨b, o + 2, none⟩)) := by kernel_rfl
theorem F96_0 {b o : Nat} : aFieldAddr Tryd.prog 96 (.pointer (some ⟨b, o, none⟩)) 0 = some (.pointer (some ⟨b, o, none⟩)) := by kernel_rfl
theorem F116_2 {b o : Nat} : aFieldAddr Tryd.prog 116 (.pointer (some ⟨b, o, none⟩)) 2 = some (.pointer (some ⟨b, o + 9, none⟩)) := by kernel_rfl
theorem call14 : callable Tryd.prog 14 = true := by kernel_rfl
theorem call16 : callable Tryd.prog 16 = true := by kernel_rfl
theorem call18 : callable Tryd.prog 18 = true := by kernel_rfl
theorem call21 : callable Tryd.prog 21 = true := by kernel_rfl
theorem call23 : callable Tryd.prog 23 = true := by kernel_rfl
theorem call29 : callable Tryd.prog 29 = true := by kernel_rfl
theorem call31 : callable Tryd.prog 31 = true := by kernel_rfl
theorem call35 : callable Tryd.prog 35 = true := by kernel_rfl
theorem call37 : callable Tryd.prog 37 = true := by kernel_rfl
theorem call38 : callable Tryd.prog 38 = true := by kernel_rfl
theorem call41 : callable Tryd.prog 41 = true := by kernel_rfl
theorem call47 : callable Tryd.prog 47 = true := by kernel_rfl
theorem call48 : callable Tryd.prog 48 = true := by kernel_rfl
theorem call49 : callable Tryd.prog 49 = true := by kernel_rfl
theorem call50 : callable Tryd.prog 50 = true := by kernel_rfl
theorem call51 : callable Tryd.prog 51 = true := by kernel_rfl
theorem call55 : callable Tryd.prog 55 = true := by kernel_rfl
theorem call57 : callable Tryd.prog 57 = true := by kernel_rfl
theorem call68 : callable Tryd.prog 68 = true := by kernel_rfl
theorem call69 : callable Tryd.prog 69 = true := by kernel_rfl
theorem call70 : callable Tryd.prog 70 = true := by kernel_rfl
theorem call71 : callable Tryd.prog 71 = true := by kernel_rfl
theorem call72 : callable Tryd.prog 72 = true := by kernel_rfl
theorem call74 : callable Tryd.prog 74 = true := by kernel_rfl
theorem call75 : callable Tryd.prog 75 = true := by kernel_rfl
theorem call77 : callable Tryd.prog 77 = true := by kernel_rfl
theorem call78 : callable Tryd.prog 78 = true := by kernel_rfl
theorem call79 : callable Tryd.prog 79 = true := by kernel_rfl
theorem call80 : callable Tryd.prog 80 = true := by kernel_rfl
theorem call82 : callable Tryd.prog 82 = true := by kernel_rfl
theorem call87 : callable Tryd.prog 87 = true := by kernel_rfl
theorem call88 : callable Tryd.prog 88 = true := by kernel_rfl
theorem call89 : callable Tryd.prog 89 = true := by kernel_rfl
theorem call92 : callable Tryd.prog 92 = true := by kernel_rfl
theorem call94 : callable Tryd.prog 94 = true := by kernel_rfl
theorem call95 : callable Tryd.prog 95 = true := by kernel_rfl
theorem call96 : callable Tryd.prog 96 = true := by kernel_rfl
theorem call98 : callable Tryd.prog 98 = true := by kernel_rfl
theorem call105 : callable Tryd.prog 105 = true := by kernel_rfl
theorem call106 : callable Tryd.prog 106 = true := by kernel_rfl
theorem call108 : callable Tryd.prog 108 = true := by kernel_rfl
theorem call109 : callable Tryd.prog 109 = true := by kernel_rfl
theorem call113 : callable Tryd.prog 113 = true := by kernel_rfl
theorem call115 : callable Tryd.prog 115 = true := by kernel_rfl
theorem call116 : callable Tryd.prog 116 = true := by kernel_rfl
theorem call127 : callable Tryd.prog 127 = true := by kernel_rfl
theorem call133 : callable Tryd.prog 133 = true := by kernel_rfl
theorem call134 : callable Tryd.prog 134 = true := by kernel_rfl
theorem call135 : callable Tryd.prog 135 = true := by kernel_rfl
theorem call139 : callable Tryd.prog 139 = true := by kernel_rfl
theorem call140 : callable Tryd.prog 140 = true := by kernel_rfl
theorem call141 : callable Tryd.prog 141 = true := by kernel_rfl
theorem call150 : callable Tryd.prog 150 = true := by kernel_rfl
theorem call151 : callable Tryd.prog 151 = true := by kernel_rfl
theorem call156 : callable Tryd.prog 156 = true := by kernel_rfl
theorem call181 : callable Tryd.prog 181 = true := by kernel_rfl
end Go.AM

/-! R0 -/
namespace Go.AM
open Go.Proofs
/-- A slice of n elements of w cells that may be read. -/
def SrcC (m : Mem) (x : Value) (w n : Nat) (d : Array Value) : Prop :=
  (x = .slice none 0 0 ∧ n = 0 ∧ d = #[]) ∨ ∃ b o k c r, x = .slice (some ⟨b, o, some w⟩) n k ∧ Mem.get m b = .cells r c ∧ o + n * w ≤ c.size ∧ d = c.extract o (o + n * w)
theorem SrcC.size {m : Mem} {x : Value} {w n : Nat} {d : Array Value} (h : SrcC m x w n d) : d.size = n * w := by
 rcases h with ⟨_, rfl, rfl⟩ | ⟨b, o, k, c, r, _, _, h, rfl⟩
 ·simp
 ·simp; omega
theorem OwnC.src {N : Nat} {m : Mem} {v : Value} {w n : Nat} {cs : Array Value} (h : OwnC N m v w n cs) : SrcC m v w n cs := by
 rcases h with h | ⟨b, cap, c, rfl, g2, g3, g4, g5, g6, g7⟩
 ·exact .inl h
 ·have hle : n * w ≤ c.size := by rw [g5]; exact Nat.mul_le_mul_right w g4
  refine .inr ⟨b, 0, cap, c, true, rfl, g3, by omega, ?_⟩
  rw [Nat.zero_add]
  apply Array.ext
  ·simp; omega
  ·intro i hi hi'
   have hin : i < n * w := by omega
   have := g7 i hin
   rw [Array.getElem_extract]
   rw [Array.getElem?_eq_getElem hi, Array.getElem?_eq_getElem (by omega)] at this
   simpa using this.symm
theorem SrcC.ext {m m' : Mem} {x : Value} {w n : Nat} {d : Array Value} (h : SrcC m x w n d) (he : Ext m m') : SrcC m' x w n d := by
 rcases h with h | ⟨b, o, k, c, r, h1, h2, h3, h4⟩
 ·exact .inl h
 ·exact .inr ⟨b, o, k, c, r, h1, he.cells h2, h3, h4⟩
theorem ownC_appendN {P : Program} {t xt : TypeId} {N : Nat} {m : Mem} {v x : Value} {w n n2 : Nat} {cs d : Array Value} (hT : ElemT P t xt w) (h : OwnC N m v w n cs) (hs : SrcC m x w n2 d) (h1 : d.all Value.oneCell' = true) (hN : N ≤ m.size) (hn : n ≤ 1000000) (hn2 : n2 ≤ 1000000) :
  ∃ v' m', aAppend P m t xt v x = some (v', m') ∧ OwnC N m' v' w (n + n2) (cs ++ d) ∧ Low N m m' ∧ Grew m v m' v' := by
 obtain ⟨e, ux, z, kb, t1, t2, t3, t4, t5, t6, t7, t8, t9⟩ := hT.e
 have hd := hs.size
 have hf : aFirst m w n2 x = some d := by
  unfold aFirst
  rcases hs with ⟨rfl, rfl, rfl⟩ | ⟨b, o, k, c, r, rfl, hx, hle, rfl⟩
  ·rfl
  ·by_cases h0 : n2 = 0
   ·subst h0; simp; omega
   ·simp only [hx]
    rw [if_neg h0, if_pos (by omega)]
 have hl : aLenOf x = some n2 := by
  rcases hs with ⟨rfl, rfl, rfl⟩ | ⟨b, o, k, c, r, rfl, hx, hle, rfl⟩ <;> rfl
 have hcond : 0 < w ∧ z.cells.size = w ∧ d.size = n2 * w ∧ d.all Value.oneCell' = true := ⟨t9, t6, hd, h1⟩
 by_cases h0 : n2 = 0
 ·subst h0
  have hd0 : d = #[] := Array.eq_empty_of_size_eq_zero (by omega)
  subst hd0
  refine ⟨v, m, ?_, by simpa using h, .refl _ _, Nat.le_refl _, fun _ _ _ => rfl, .inl rfl⟩
  unfold aAppend
  simp only [t1, t2, t3, t4, t5, t7, hl, hf]
  rw [if_pos hcond]
  rcases h with ⟨rfl, rfl, rfl⟩ | ⟨b, cap, c, rfl, g2, g3, g4, g5, g6, g7⟩ <;> simp
 ·unfold aAppend
  simp only [t1, t2, t3, t4, t5, t7, hl, hf]
  rw [if_pos hcond]
  have hn3 : n2 * kb ≤ 1000000 * 1000 := Nat.mul_le_mul hn2 t8
  rcases h with ⟨rfl, rfl, rfl⟩ | ⟨b, cap, c, rfl, g2, g3, g4, g5, g6, g7⟩
  ·simp only [if_neg h0]
   rw [if_pos ⟨by omega, by omega⟩]
   exact ⟨_, _, rfl, .inr ⟨m.size, n2, d, by rw [Nat.zero_add], hN, gP rfl, by omega, hd, by simp; omega, fun i _ => by simp⟩, .push N hN _, by simp, fun b hb _ => gPn hb, .inr ⟨m.size, rfl, Nat.le_refl _⟩⟩
  ·have hb := live g3
   simp only [if_true, g3, if_neg h0]
   have e1 : n * w + n2 * w = (n + n2) * w := by rw [Nat.add_mul]
   by_cases hc : n + n2 ≤ cap
   ·have hcw : (n + n2) * w ≤ cap * w := Nat.mul_le_mul_right w hc
    rw [if_pos hc, if_pos (by omega)]
    refine ⟨_, _, rfl, .inr ⟨b, cap, lay c (0 + n * w) d, rfl, g2, gS rfl hb, hc, by rw [lay_size]; exact g5, by rw [Array.size_append]; omega, fun i hi => ?_⟩, .set g2 _, by simp, fun b' _ hne => gSn (fun e => hne (by rw [← e]; rfl)), .inl rfl⟩
    rw [lay_get', hd]
    by_cases hil : i < n * w
    ·rw [if_neg (by omega), g7 i hil, Array.getElem?_append_left (by omega)]
    ·rw [if_pos (by omega), Array.getElem?_append_right (by omega)]
     congr 1; omega
   ·rw [if_neg hc]
    have hle : n * w ≤ c.size := by rw [g5]; exact Nat.mul_le_mul_right w g4
    have hbb : (n + n2) * kb ≤ 70368744177664 := Nat.le_trans (Nat.mul_le_mul (show n + n2 ≤ 2000000 by omega) t8) (by decide)
    rw [if_pos ⟨trivial, hle, by omega, hbb⟩]
    refine ⟨_, _, rfl, .inr ⟨m.size, n + n2, _, rfl, hN, gP (by simp), Nat.le_refl _, ?_, by rw [Array.size_append]; omega, fun i hi => ?_⟩, .push' (.set g2 _) (by simpa using hN) _, by simp, fun b' hb' hne => by rw [gPn (by simpa using hb'), gSn (fun e => hne (by rw [← e]; rfl))], .inr ⟨m.size, rfl, Nat.le_refl _⟩⟩
    ·simp only [Array.size_append, Array.size_extract]; omega
    ·by_cases hil : i < n * w
     ·rw [Array.getElem?_append_left (by simp; omega), Array.getElem?_append_left (by omega), Array.getElem?_extract, if_pos (by omega)]
      simpa using g7 i hil
     ·rw [Array.getElem?_append_right (by simp; omega), Array.getElem?_append_right (by omega)]
      congr 1
      simp; omega
theorem sAppCn {P : Program} {ρ : Env} {m : Mem} {K : Env → Mem → Prop} {ops : Array Oper} {l : List Oper} {dd : Option Nat} {ty : TypeId} {pos : String} {af : Array Edge} {x y : Operand} {t xt : TypeId} {N : Nat} {v u : Value} {w n n2 : Nat} {cs d : Array Value}
  (hT : ElemT P t xt w) (hx : evR ρ x = v) (hy : evR ρ y = u) (h : OwnC N m v w n cs) (hs : SrcC m u w n2 d) (h1 : d.all Value.oneCell' = true) (hN : N ≤ m.size) (hn : n ≤ 1000000) (hn2 : n2 ≤ 1000000)
  (hk : ∀ v' m', OwnC N m' v' w (n + n2) (cs ++ d) → Low N m m' → Grew m v m' v' → wpOps P ops K l (updO ρ dd v') m') : wpOps P ops K (⟨dd, .call ⟨.builtin .append, ⟨[x, y]⟩, ⟨[t, xt]⟩⟩, ty, pos, af, none⟩ :: l) ρ m := by
 obtain ⟨v', m', e1, h2, h3, h4⟩ := ownC_appendN hT h hs h1 hN hn hn2
 refine sO (opF_eff rfl rfl ?_) (hk v' m' h2 h3 h4)
 simp only [aEff, hx, hy, e1]
end Go.AM

/-! R1 -/
namespace Go.AM
open Go.Proofs
def wiresM (x : Nat) : List Nat := nodesUp x 12
theorem okf77 : okF Tryd.prog H0 77 19 = true := by kernel_rfl
theorem spec_wires {m : Mem} {x : Nat} (hx : x < 9223372036854775808) : ∃ v m', ACalls Tryd.prog 77 #[nv x] m v m' ∧ (OwnF m.size m' v (ofs (wiresM x)) ∧ Ext m m') := by
 refine wpF (args := [_]) mixed okf77 (fn := Tryd.f77) rfl rfl rfl (by simp) ?_
 refine cSR ?_
 refine sAs (v := .slice _ _ _) rfl ?_
 refine sN ?_
 refine cSR ?_
 refine sAs (v := .slice _ _ _) rfl ?_
 refine sN ?_
 refine cSeq (cSR ?_)
 refine sMv (v := nv 0) rfl ?_
 refine sN ?_
 refine cBlock ?_
 refine wpC_loop (fun k ρ m' => ∃ i v, k = 12 - i ∧ i ≤ 12 ∧ Low m.size m m' ∧ OwnF m.size m' v (ofs (nodesUp x i)) ∧ Has ρ [(0, nv x), (3, v), (5, nv i)]) ⟨0, _, rfl, by omega, .refl _ _, .nil _ _, rfl, rfl, rfl, trivial⟩ ?_
 rintro k ρ m' ⟨i, v, rfl, hi, hLo, hO, hh⟩
 obtain ⟨qv, cv, rfl⟩ := hO.ints.lenN
 rw [hh.env]; clear hh
 have hsz := hLo.1
 have hnl := nodesUp_len x i
 refine cSR ?_
 refine sBin (b := 12) rfl rfl aInt_lss ?_
 refine sN ?_
 refine cSeq ?_
 refine cCond rfl (fun c0 => ?_) (fun c0 => ?_)
 ·
  refine cSkip (kSeqN ?_)
  refine cSeq (cBlock (cSR ?_))
  refine sMn rfl ?_
  refine sAn rfl ?_
  refine sN ?_
  refine cSR ?_
  refine sMn rfl ?_
  refine sMn rfl ?_
  refine sBin (a := x) (b := i) rfl rfl (aInt_shr (by omega)) ?_
  have hsh := Nat.shiftRight_le x i
  refine sBin (b := 1) rfl rfl (aInt_and (by omega)) ?_
  refine sBin (b := 1) rfl rfl aInt_eql ?_
  refine sN ?_
  refine cCond rfl (fun c1 => ?_) (fun c1 => ?_)
  ·
   have hb := (bit_one x i).1 c1
   refine cRegion ?_
   refine sMs rfl ?_
   refine sMn rfl ?_
   refine sBuildS T22 S3 Z3 (by decide) (by decide) (by decide) (by kernel_rfl) fill1 rfl ?_
   refine sApp App22 rfl rfl (N := m.size) (hO.ext (.push _ _)) one_ints (by simp; omega) (by simp; omega) fun v3 m3 hO3 hL3 => ?_
   have hI3 := hO3.ints
   obtain ⟨q3, cp3, rfl⟩ := hI3.len
   refine sAs (v := .slice _ _ _) rfl ?_
   refine sNil (kBlkN (kSeqN ?_))
   refine cRegion ?_
   refine sBin rfl rfl (aInt_add (b := 1) (by omega)) ?_
   refine sMn rfl ?_
   refine sN ?_
   refine ⟨_, ?_, i + 1, _, rfl, by omega, hLo.trans ((Low.push _ hsz _).trans hL3), by rw [nodesUp_succ, if_pos hb, ofs_append]; exact hO3, rfl, rfl, rfl, trivial⟩
   omega
  ·
   refine cSkip (kBlkN (kSeqN ?_))
   refine cRegion ?_
   refine sBin rfl rfl (aInt_add (b := 1) (by omega)) ?_
   refine sMn rfl ?_
   refine sN ?_
   refine ⟨_, ?_, i + 1, _, rfl, by omega, hLo, by rw [nodesUp_succ, if_neg (fun h => c1 ((bit_one x i).2 h)), List.append_nil]; exact hO, rfl, rfl, rfl, trivial⟩
   omega
 ·
  refine cExit (kSeqE (kSeqE (kBlkS (kSeqN ?_))))
  refine cSR ?_
  refine sMs rfl ?_
  refine sAs (v := .slice _ _ _) rfl ?_
  refine sN ?_
  refine cRet ?_
  obtain rfl : i = 12 := by omega
  exact ⟨.inr rfl, _, rfl, hO, hLo⟩
def H78 : Nat → List (Nat × Nat) := fun id => if id = 1 then [(999999, 0), (2, 6), (2, 9)] else []
theorem okf78 : okF Tryd.prog H78 78 15 = true := by kernel_rfl
theorem spec_turn {m : Mem} {k : Nat} {a : Value} {l : List Nat} (ha : IntsAt m a (ofs l)) (hl : l.length ≤ 2) : ∃ v m', ACalls Tryd.prog 78 #[nv k, a] m v m' ∧ (∃ w, v = .agg #[nv (kindM l.length), w, nv 0, nv 0] ∧ OwnF (m.size + 1) m' w (ofs (l ++ [k])) ∧ Ext m m') := by
 obtain ⟨q, c, rfl⟩ := ha.lenN
 refine wpF (args := [_, _]) mixed okf78 (fn := Tryd.f78) rfl rfl rfl (by simp) ?_
 refine cSR ?_
 refine sAlloc Z49 (by kernel_rfl) ?_
 refine sN ?_
 refine cSeq ?_
 refine cDrawH (hs := [(999999, 0), (2, 6), (2, 9)]) rfl (by decide) ?_
 refine lStepO (sBuild B105k (sNil fun e0 hm0 => ?_))
 refine lStepO (sMv (v := .slice _ _ _) rfl (sNil fun e1 hm1 => ?_))
 refine lStepLen T22 rfl fun e2 hm2 hv2 hr2 => ?_
 refine lStepO (sP (v := nv (kindM l.length)) (idx105 hl) (sNil fun e3 hm3 => ?_))
 refine lStepO (sMv (v := .slice _ _ _) rfl (sNil fun e4 hm4 => ?_))
 obtain ⟨v10, m10, h10, o10, e10⟩ := spec_Clone (ha.ext (.push _ _)) (by rw [ofs_length]; omega)
 obtain ⟨q10, c10, rfl⟩ := o10.ints.lenN
 have z10 := e10.1
 simp only [Array.size_push] at z10
 refine lStepO (sCall1 rfl call15 rfl h10 (sNil fun e5 hm5 => ?_))
 refine lStepO (sMv (v := nv _) rfl (sNil fun e6 hm6 => ?_))
 refine lStepO (sBuildS T22 S3 Z3 (by decide) (by decide) (by decide) (by kernel_rfl) fill1 rfl (sNil fun e7 hm7 => ?_))
 refine lStepO (sApp App22 rfl rfl (N := m.size + 1) ((o10.mono (by simp)).ext (.push _ _)) one_ints (by simp; omega) (by rw [ofs_length]; simp; omega) fun v13 m13 hO13 hL13 => (sNil fun e8 hm8 => ?_))
 rw [show ofs l ++ [Int.ofNat k] = ofs (l ++ [k]) by rw [ofs_append]; rfl] at hO13
 obtain ⟨q13, c13, rfl⟩ := hO13.ints.lenN
 have hE13 : Ext (m.push (.cells true #[nv 0, .slice none 0 0, nv 0, nv 0])) m13 := Low.to_ext (e10.trans (.push _ _)) hL13 (by simp)
 have g13 : Mem.get m13 m.size = .cells true #[nv 0, .slice none 0 0, nv 0, nv 0] := hE13.cells (gP rfl)
 refine lStepO (sBuild B76 (sNil fun e9 hm9 => ?_))
 refine lStepO (sStAll S49 rfl rfl g13 rfl rfl (by kernel_rfl) (sNil fun e10 hm10 => ?_))
 refine ⟨?_, (kSeqN ?_)⟩
 ·
  refine obl_fl (by simp) ?_
  refine obl_pure (e := e2) (by simp) (by rfl) (by rw [hv2]; exact hr2) ?_
  refine obl_pure (e := e2) (by simp) (by rfl) (by rw [hv2]; exact hr2) ?_
  trivial
 refine cRet ?_
 refine ⟨.inr rfl, _, resRs_agg A49 S49 rfl (gS rfl (live g13)) rfl, _, rfl, ?_, ?_⟩
 ·rw [← ofs_length]
  exact hO13.keep fun b hb => gSn (by have := (hO13.lt hb).1; omega)
 ·exact (Ext.push _ _).trans hE13 |>.set (b := m.size) (Nat.le_refl _) _
end Go.AM

/-! R2 -/
namespace Go.AM
open Go.Proofs
/-- A circuit at work. -/
def Bld (N bb : Nat) (m : Mem) (W : Nat) (Gs : List (Nat × List Nat)) (v : Value) : Prop := Mem.get m bb = .cells true #[nv W, nv 0, v] ∧ bb < N ∧ ∃ cs, OwnG N m v cs Gs
/-- Gates that may be added: their wires are no one else's. -/
def SrcG (N : Nat) (m : Mem) (v x : Value) (Gs : List (Nat × List Nat)) : Prop := ∃ d, SrcC m x 4 Gs.length d ∧ ∀ (i : Nat) (g : Nat × List Nat), Gs[i]? = some g → ∃ s, d[i * 4]? = some (nv g.1) ∧ d[i * 4 + 1]? = some s ∧ d[i * 4 + 2]? = some (nv 0) ∧ d[i * 4 + 3]? = some (nv 0) ∧ OwnF N m s (ofs g.2) ∧ ∀ b, blkOf s = some b → blkOf v ≠ some b
/-- What adding leaves as it was. -/
def BG (bb : Nat) (m : Mem) (v : Value) (m' : Mem) (v' : Value) : Prop := m.size ≤ m'.size ∧ (∀ b, b < m.size → b ≠ bb → blkOf v ≠ some b → Mem.get m' b = Mem.get m b) ∧ (blkOf v' = blkOf v ∨ ∃ b, blkOf v' = some b ∧ m.size ≤ b)
theorem BG.trans {bb : Nat} {m m1 m2 : Mem} {v v1 v2 : Value} (h : BG bb m v m1 v1) (h' : BG bb m1 v1 m2 v2) : BG bb m v m2 v2 := by
 refine ⟨Nat.le_trans h.1 h'.1, fun b hb hn hv => ?_, ?_⟩
 ·have h1 : blkOf v1 ≠ some b := by
   rcases h.2.2 with e | ⟨b1, e, hb1⟩
   ·rw [e]; exact hv
   ·rw [e]; intro h2; injection h2 with h2; omega
  rw [h'.2.1 b (by have := h.1; omega) hn h1]; exact h.2.1 b hb hn hv
 ·rcases h'.2.2 with e | ⟨b1, e, hb1⟩
  ·rw [e]; exact h.2.2
  ·exact .inr ⟨b1, e, by have := h.1; omega⟩
theorem Bld.len {N bb : Nat} {m : Mem} {W : Nat} {Gs : List (Nat × List Nat)} {v : Value} (h : Bld N bb m W Gs v) : ∃ q cap, v = .slice q Gs.length cap := by
 obtain ⟨_, _, cs, hO⟩ := h; exact hO.1.len
theorem Bld.ext {N bb : Nat} {m m' : Mem} {W : Nat} {Gs : List (Nat × List Nat)} {v : Value} (h : Bld N bb m W Gs v) (he : Ext m m') : Bld N bb m' W Gs v := by
 obtain ⟨h1, h2, cs, hO⟩ := h; exact ⟨he.cells h1, h2, cs, hO.ext he⟩
theorem OwnG.grewN {N : Nat} {m m' : Mem} {v v' : Value} {cs d : Array Value} {Gs Gs2 : List (Nat × List Nat)} (h : OwnG N m v cs Gs) (hd : d.size = Gs2.length * 4)
  (hs : ∀ (i : Nat) (g : Nat × List Nat), Gs2[i]? = some g → ∃ s, d[i * 4]? = some (nv g.1) ∧ d[i * 4 + 1]? = some s ∧ d[i * 4 + 2]? = some (nv 0) ∧ d[i * 4 + 3]? = some (nv 0) ∧ OwnF N m s (ofs g.2) ∧ ∀ b, blkOf s = some b → blkOf v ≠ some b)
  (hg : Grew m v m' v') (hc : OwnC N m' v' 4 (Gs.length + Gs2.length) (cs ++ d)) : OwnG N m' v' (cs ++ d) (Gs ++ Gs2) := by
 have hsz := h.1.size
 have hkeep : ∀ {u : Value} {l : List Int}, OwnF N m u l → (∀ b, blkOf u = some b → blkOf v ≠ some b) → OwnF N m' u l ∧ ∀ b, blkOf u = some b → blkOf v' ≠ some b := fun ho ha =>
  ⟨ho.keep fun b hb => hg.2.1 b (ho.lt hb).2 (ha b hb), fun b hb => hg.off (ha b hb) (ho.lt hb).2⟩
 refine ⟨by rw [List.length_append]; exact hc, fun i x hi => ?_⟩
 by_cases hil : i < Gs.length
 ·rw [List.getElem?_append_left hil] at hi
  obtain ⟨u, h1, h2, h3, h4, ho, hb⟩ := h.2 i x hi
  obtain ⟨k1, k2⟩ := hkeep ho hb
  exact ⟨u, by rw [Array.getElem?_append_left (by omega), h1], by rw [Array.getElem?_append_left (by omega), h2], by rw [Array.getElem?_append_left (by omega), h3], by rw [Array.getElem?_append_left (by omega), h4], k1, k2⟩
 ·rw [List.getElem?_append_right (by omega)] at hi
  obtain ⟨u, h1, h2, h3, h4, ho, hb⟩ := hs _ x hi
  obtain ⟨k1, k2⟩ := hkeep ho hb
  refine ⟨u, ?_, ?_, ?_, ?_, k1, k2⟩
  ·rw [Array.getElem?_append_right (by omega), show i * 4 - cs.size = (i - Gs.length) * 4 by rw [hsz, Nat.sub_mul]]; exact h1
  ·rw [Array.getElem?_append_right (by omega), show i * 4 + 1 - cs.size = (i - Gs.length) * 4 + 1 by rw [hsz, Nat.sub_mul]; omega]; exact h2
  ·rw [Array.getElem?_append_right (by omega), show i * 4 + 2 - cs.size = (i - Gs.length) * 4 + 2 by rw [hsz, Nat.sub_mul]; omega]; exact h3
  ·rw [Array.getElem?_append_right (by omega), show i * 4 + 3 - cs.size = (i - Gs.length) * 4 + 3 by rw [hsz, Nat.sub_mul]; omega]; exact h4
theorem one_ofF {N : Nat} {m : Mem} {s : Value} {l : List Int} (h : OwnF N m s l) : Value.oneCell' s = true := by
 rcases h with ⟨_, rfl⟩ | ⟨b, cap, c, rfl, _⟩ <;> rfl
theorem src_one {m : Mem} {N : Nat} {v x : Value} {d : Array Value} {Gs : List (Nat × List Nat)} (hd : d.size = Gs.length * 4)
  (hs : ∀ (i : Nat) (g : Nat × List Nat), Gs[i]? = some g → ∃ s, d[i * 4]? = some (nv g.1) ∧ d[i * 4 + 1]? = some s ∧ d[i * 4 + 2]? = some (nv 0) ∧ d[i * 4 + 3]? = some (nv 0) ∧ OwnF N m s (ofs g.2) ∧ ∀ b, blkOf s = some b → blkOf v ≠ some b) : d.all Value.oneCell' = true := by
 rw [Array.all_eq_true]
 intro i hi
 have hq : i / 4 < Gs.length := by omega
 obtain ⟨s, h1, h2, h3, h4, ho, _⟩ := hs (i / 4) _ (List.getElem?_eq_getElem hq)
 have hr : i % 4 < 4 := Nat.mod_lt _ (by decide)
 have key : ∀ {j : Nat} {u : Value}, d[j]? = some u → j = i → Value.oneCell' u = true → Value.oneCell' d[i] = true := by
  intro j u hj e hu
  subst e
  have := (Array.getElem?_eq_some_iff.1 hj).2
  rw [this]; exact hu
 have hcase : i % 4 = 0 ∨ i % 4 = 1 ∨ i % 4 = 2 ∨ i % 4 = 3 := by omega
 rcases hcase with h | h | h | h
 ·exact key h1 (by omega) rfl
 ·exact key h2 (by omega) (one_ofF ho)
 ·exact key h3 (by omega) rfl
 ·exact key h4 (by omega) rfl
theorem okf75 : okF Tryd.prog H0 75 15 = true := by kernel_rfl
theorem spec_add {m : Mem} {N bb W : Nat} {v x : Value} {Gs Gs2 : List (Nat × List Nat)} (hB : Bld N bb m W Gs v) (hS : SrcG N m v x Gs2) (hN : N ≤ m.size) (hl : Gs.length ≤ 200000) (hl2 : Gs2.length ≤ 200000) : ∃ r m', ACalls Tryd.prog 75 #[.pointer (some ⟨bb, 0, none⟩), x] m r m' ∧ (∃ v', Bld N bb m' W (Gs ++ Gs2) v' ∧ BG bb m v m' v') := by
 obtain ⟨g1, hbN, cs, hO⟩ := hB
 obtain ⟨d, hs, hd⟩ := hS
 have hds := hs.size
 have hone := src_one (x := x) hds hd
 have hxl : ∃ q n c, x = .slice q n c := by rcases hs with ⟨rfl, _⟩ | ⟨_, _, _, _, _, rfl, _⟩ <;> exact ⟨_, _, _, rfl⟩
 obtain ⟨qx, nx, cx, rfl⟩ := hxl
 obtain ⟨q, cap, rfl⟩ := hO.1.len
 refine wpF (args := [_, _]) mixed okf75 (fn := Tryd.f75) rfl rfl rfl (by simp) ?_
 refine cRegion ?_
 refine sMv (v := .pointer _) rfl ?_
 refine sMv (v := .pointer _) rfl ?_
 refine sNC rfl ?_
 refine sFA F96_0 rfl ?_
 refine sFA F30_2 rfl ?_
 refine sLd (v := .slice _ _ _) A28 rfl g1 rfl ?_
 refine sMs rfl ?_
 refine sAppCn El55 rfl rfl (N := N) hO.1 hs hone hN (by omega) (by omega) fun v' m1 hO1 hL1 hG1 => ?_
 have hg1 := hL1.cells hbN g1
 have hR := hO.grewN hds hd hG1 hO1
 refine sNC rfl ?_
 refine sFA F96_0 rfl ?_
 refine sFA F30_2 rfl ?_
 refine sSt (v := v') S28 rfl rfl hg1 (by simp) (by rcases hO1 with ⟨rfl, _⟩ | ⟨_, _, _, rfl, _⟩ <;> rfl) (by rcases hO1 with ⟨rfl, _⟩ | ⟨_, _, _, rfl, _⟩ <;> rfl) ?_
 refine sNil ?_
 refine ⟨.inl rfl, _, rfl, v', ⟨gS rfl (live hg1), hbN, _, hR.only (.set bb m1 (.cells true #[nv W, nv 0, v'])) hbN⟩, ?_⟩
 refine ⟨by simpa using hG1.1, fun b hb hn hv => ?_, hG1.2.2⟩
 rw [gSn (fun e => hn e.symm)]; exact hG1.2.1 b hb hv
end Go.AM

/-! R3 -/
namespace Go.AM
open Go.Proofs
/-- The k-th four cells. -/
def qd (c : Array Value) (k : Nat) : Array Value := c.extract (k * 4) (k * 4 + 4)
theorem qd_size {c : Array Value} {k : Nat} (h : k * 4 + 4 ≤ c.size) : (qd c k).size = 4 := by simp [qd]; omega
theorem qd_get {c : Array Value} {k j : Nat} (hj : j < 4) : (qd c k)[j]? = c[k * 4 + j]? := by
 unfold qd
 rw [Array.getElem?_extract]
 by_cases h : k * 4 + j < c.size
 ·rw [if_pos (by omega)]
 ·rw [if_neg (by omega)]; exact (Array.getElem?_eq_none_iff.2 (by omega)).symm
theorem qd_lay {c d : Array Value} {k j : Nat} (hd : d.size = 4) (hj : j * 4 + 4 ≤ c.size) (hk : k * 4 + 4 ≤ c.size) : qd (lay c (j * 4) d) k = if k = j then d else qd c k := by
 apply Array.ext_getElem?
 intro i
 by_cases hi : i < 4
 ·rw [qd_get hi, lay_get', hd]
  by_cases hkj : k = j
  ·subst hkj
   rw [if_pos (by omega), if_pos rfl]
   congr 1; omega
  ·rw [if_neg (by omega), if_neg hkj, qd_get hi]
 ·have h1 : (qd (lay c (j * 4) d) k).size = 4 := qd_size (by rw [lay_size]; exact hk)
  have h2 : (if k = j then d else qd c k).size = 4 := by split; exact hd; exact qd_size hk
  rw [Array.getElem?_eq_none_iff.2 (by omega), Array.getElem?_eq_none_iff.2 (by omega)]
theorem all_get {c : Array Value} (h : c.all Value.oneCell' = true) {i : Nat} {v : Value} (hi : c[i]? = some v) : Value.oneCell' v = true := by
 rw [Array.all_eq_true] at h
 obtain ⟨h1, h2⟩ := Array.getElem?_eq_some_iff.1 hi
 rw [← h2]; exact h i h1
theorem all_of_get {c : Array Value} (h : ∀ (i : Nat) v, c[i]? = some v → Value.oneCell' v = true) : c.all Value.oneCell' = true := by
 rw [Array.all_eq_true]
 exact fun i hi => h i _ (Array.getElem?_eq_getElem hi)
theorem qd_all {c : Array Value} {k : Nat} (h : c.all Value.oneCell' = true) : (qd c k).all Value.oneCell' = true := by
 refine all_of_get fun i v hi => ?_
 unfold qd at hi
 rw [Array.getElem?_extract] at hi
 split at hi
 ·exact all_get h hi
 ·cases hi
theorem lay_all1 {c d : Array Value} {o : Nat} (h : c.all Value.oneCell' = true) (hd : d.all Value.oneCell' = true) : (lay c o d).all Value.oneCell' = true := by
 refine all_of_get fun i v hi => ?_
 rw [lay_get'] at hi
 split at hi
 ·exact all_get hd hi
 ·exact all_get h hi
theorem okf127 : okF Tryd.prog H0 127 28 = true := by kernel_rfl
theorem spec_ReverseG {m : Mem} {b n cap : Nat} {c : Array Value} (hb : Mem.get m b = .cells true c) (hn : n * 4 ≤ c.size) (hl : n < 1000000) (h1 : c.all Value.oneCell' = true) : ∃ v m', ACalls Tryd.prog 127 #[.slice (some ⟨b, 0, some 4⟩) n cap] m v m' ∧ (∃ T, Mem.get m' b = .cells true T ∧ T.size = c.size ∧ T.all Value.oneCell' = true ∧ (∀ k, k < n → qd T k = qd c (n - 1 - k)) ∧ But b m m' ∧ m'.size = m.size) := by
 have hbm := live hb
 refine wpF (args := [_]) mixed okf127 (fn := Tryd.f127) rfl rfl rfl (by simp) ?_
 refine cSR ?_
 refine sMs rfl ?_
 refine sLen T28 rfl ?_
 refine sBinI (v := .int .i64 (Int.ofNat n - 1)) rfl rfl (aInt_subI (b := 1) (by simp; omega)) ?_
 refine sAn rfl ?_
 refine sAs (v := .int _ _) rfl ?_
 refine sN ?_
 refine cBlock ?_
 refine wpC_loop (fun k ρ m' => ∃ (i : Nat) (T : Array Value), k = n - 2 * i ∧ 2 * i ≤ n + 1 ∧ T.size = c.size ∧ T.all Value.oneCell' = true ∧ (∀ k, k < n → qd T k = if k < i ∨ n ≤ k + i then qd c (n - 1 - k) else qd c k) ∧ Mem.get m' b = .cells true T ∧ But b m m' ∧ m'.size = m.size ∧ Has ρ [(0, .slice (some ⟨b, 0, some 4⟩) n cap), (2, nv i), (3, .int .i64 (Int.ofNat n - 1 - Int.ofNat i))]) ⟨0, c, rfl, by omega, rfl, h1, fun k hk => by rw [if_neg (by omega)], hb, ⟨Nat.le_refl _, fun _ _ _ => rfl⟩, rfl, rfl, rfl, by show Value.int .i64 (Int.ofNat n - 1) = _; congr 1; simp, trivial⟩ ?_
 rintro k ρ m' ⟨i, T, rfl, hi, hT, hT1, ht, g1, hB, hsz, hh⟩
 rw [hh.env]; clear hh
 refine cSeq (cSR ?_)
 refine sMn rfl ?_
 refine sMv (v := .int _ _) rfl ?_
 refine sBinI rfl rfl aInt_lssNI ?_
 refine sN ?_
 refine cCond rfl (fun c0 => ?_) (fun c0 => ?_)
 ·
  have hij : 2 * i + 1 < n := by have : (i : Int) < (n : Int) - 1 - (i : Int) := c0; omega
  have hj : Int.ofNat n - 1 - Int.ofNat i = Int.ofNat (n - 1 - i) := by simp; omega
  rw [hj]
  have hTi : qd T i = qd c i := by rw [ht i (by omega), if_neg (by omega)]
  have hTj : qd T (n - 1 - i) = qd c (n - 1 - i) := by rw [ht _ (by omega), if_neg (by omega)]
  have h4i : (qd T i).size = 4 := qd_size (by omega)
  have h4j : (qd T (n - 1 - i)).size = 4 := qd_size (by omega)
  refine cSkip (kSeqN ?_)
  refine cSeq (cBlock ?_)
  refine cDraw rfl ?_
  refine sMs rfl ?_
  refine sMv (v := nv i) rfl ?_
  refine sMs rfl ?_
  refine sMv (v := nv (n - 1 - i)) rfl ?_
  refine sMs rfl ?_
  refine sMv (v := nv (n - 1 - i)) rfl ?_
  refine sIx T28 S49 rfl rfl (by omega) ?_
  refine sLdA A49 S49 rfl g1 (by omega) ?_
  rw [show T.extract (0 + (n - 1 - i) * 4) (0 + (n - 1 - i) * 4 + 4) = qd T (n - 1 - i) by rw [Nat.zero_add]; rfl]
  refine sMs rfl ?_
  refine sMn rfl ?_
  refine sIx T28 S49 rfl rfl (by omega) ?_
  refine sLdA A49 S49 rfl g1 (by omega) ?_
  rw [show T.extract (0 + i * 4) (0 + i * 4 + 4) = qd T i by rw [Nat.zero_add]; rfl]
  refine sIx T28 S49 rfl rfl (by omega) ?_
  refine sStA S49 rfl rfl g1 h4j (by omega) (qd_all hT1) ?_
  refine sIx T28 S49 rfl rfl (by omega) ?_
  refine sStA S49 rfl rfl (gS rfl (live g1)) h4i (by rw [lay_size]; omega) (qd_all hT1) ?_
  rw [Nat.zero_add, Nat.zero_add]
  refine sNil (kBlkN (kSeqN ?_))
  refine cRegion ?_
  refine sMn rfl ?_
  refine sBin rfl rfl (aInt_add (b := 1) (by omega)) ?_
  refine sMv (v := nv (n - 1 - i)) rfl ?_
  refine sBinI (v := .int .i64 (Int.ofNat (n - 1 - i) - 1)) rfl rfl (aInt_subI (b := 1) (by simp; omega)) ?_
  refine sAn rfl ?_
  refine sAs (v := .int _ _) rfl ?_
  refine sN ?_
  refine ⟨_, ?_, i + 1, lay (lay T (i * 4) (qd T (n - 1 - i))) ((n - 1 - i) * 4) (qd T i), rfl, by omega, by rw [lay_size, lay_size]; exact hT, lay_all1 (lay_all1 hT1 (qd_all hT1)) (qd_all hT1), fun k hk => ?_, gS rfl (by simpa using live g1), (hB.set (.inl rfl) _).set (.inl rfl) _, by simpa using hsz, rfl, rfl, ?_, trivial⟩
  ·omega
  ·rw [qd_lay h4i (by rw [lay_size]; omega) (by rw [lay_size]; omega), qd_lay h4j (by omega) (by omega)]
   by_cases h1 : k = n - 1 - i
   ·rw [if_pos h1, if_pos (by omega), hTi, h1]
    congr 1; omega
   ·rw [if_neg h1]
    by_cases h2 : k = i
    ·rw [if_pos h2, if_pos (by omega), hTj, h2]
    ·rw [if_neg h2, ht k hk]
     by_cases h3 : k < i ∨ n ≤ k + i
     ·rw [if_pos h3, if_pos (by omega)]
     ·rw [if_neg h3, if_neg (by omega)]
  ·show Value.int .i64 (Int.ofNat (n - 1 - i) - 1) = _
   congr 1; simp; omega
 ·
  have hij : ¬ (2 * i + 1 < n) := fun h => c0 (show (i : Int) < (n : Int) - 1 - (i : Int) by omega)
  refine cExit (kSeqE (kSeqE (kBlkS ?_)))
  refine ⟨.inl rfl, _, rfl, T, g1, hT, hT1, fun k hk => ?_, hB, hsz⟩
  rw [ht k hk]
  by_cases h3 : k < i ∨ n ≤ k + i
  ·rw [if_pos h3]
  ·rw [if_neg h3]; congr 1; omega
end Go.AM

/-! R4 -/
namespace Go.AM
open Go.Proofs
/-- Gates that may be read. -/
def ReadG (m : Mem) (x : Value) (Gs : List (Nat × List Nat)) : Prop := ∃ d, SrcC m x 4 Gs.length d ∧ ∀ (i : Nat) (g : Nat × List Nat), Gs[i]? = some g → ∃ s, d[i * 4]? = some (nv g.1) ∧ d[i * 4 + 1]? = some s ∧ d[i * 4 + 2]? = some (nv 0) ∧ d[i * 4 + 3]? = some (nv 0) ∧ IntsAt m s (ofs g.2)
theorem OwnG.read {N : Nat} {m : Mem} {v : Value} {cs : Array Value} {Gs : List (Nat × List Nat)} (h : OwnG N m v cs Gs) : ReadG m v Gs :=
 ⟨cs, h.1.src, fun i g hi => by
  obtain ⟨s, a, b, c, e, hs, _⟩ := h.2 i g hi
  exact ⟨s, a, b, c, e, hs.ints⟩⟩
theorem ReadG.len {m : Mem} {x : Value} {Gs : List (Nat × List Nat)} (h : ReadG m x Gs) : ∃ q c, x = .slice q Gs.length c := by
 obtain ⟨d, h1, _⟩ := h
 rcases h1 with ⟨rfl, h, _⟩ | ⟨b, o, k, c, r, rfl, _⟩
 ·exact ⟨_, _, by rw [h]⟩
 ·exact ⟨_, _, rfl⟩
theorem sMkG {ρ : Env} {m : Mem} {K : Env → Mem → Prop} {ops : Array Oper} {l : List Oper} {d : Option Nat} {ty : TypeId} {pos : String} {af : Array Edge} {x y : Operand} {n : Nat} (hx : evR ρ x = nv n) (hy : evR ρ y = nv n) (hn : n ≤ 1000000)
  (hk : ∀ Z : Array Value, Z.size = n * 4 → Z.all Value.oneCell' = true → wpOps Tryd.prog ops K l (updO ρ d (.slice (some ⟨m.size, 0, some 4⟩) n n)) (m.push (.cells true Z))) : wpOps Tryd.prog ops K (⟨d, .makeSlice 28 x y, ty, pos, af, none⟩ :: l) ρ m := by
 obtain ⟨k, hb, hkk⟩ := bytes49
 refine sO (opF_eff rfl rfl ?_) (hk ((Array.range (n * 4)).map (#[nv 0, .slice none 0 0, nv 0, nv 0][· % 4]!)) (by simp) ?_)
 ·simp only [aEff, hx, hy, aMakeSlice, T28, S49, Z49, hb]
  have hmul : k * n ≤ 1000 * 1000000 := Nat.mul_le_mul hkk hn
  rw [if_pos ⟨by decide, by decide, by kernel_rfl, by simp, by simp, by simp; omega, by simp; omega⟩]
  rfl
 ·refine all_of_get fun i v hi => ?_
  rw [Array.getElem?_map] at hi
  cases h : (Array.range (n * 4))[i]? with
  | none => rw [h] at hi; cases hi
  | some j =>
   rw [h] at hi
   simp only [Option.map_some, Option.some.injEq] at hi
   subst hi
   have : j % 4 = 0 ∨ j % 4 = 1 ∨ j % 4 = 2 ∨ j % 4 = 3 := by omega
   rcases this with h | h | h | h <;> rw [h] <;> rfl
theorem sCopyG {ρ : Env} {m : Mem} {K : Env → Mem → Prop} {ops : Array Oper} {l : List Oper} {d : Option Nat} {ty : TypeId} {pos : String} {af : Array Edge} {x y : Operand} {n b : Nat} {c cs : Array Value} {w : Value} (hx : evR ρ x = .slice (some ⟨b, 0, some 4⟩) n n) (hb : Mem.get m b = .cells true c) (hc : c.size = n * 4) (hy : evR ρ y = w) (hw : SrcC m w 4 n cs) (h1 : cs.all Value.oneCell' = true)
  (hk : ∀ m', Mem.get m' b = .cells true cs → But b m m' → m'.size = m.size → wpOps Tryd.prog ops K l (updO ρ d (nv n)) m') : wpOps Tryd.prog ops K (⟨d, .call ⟨.builtin .copy, ⟨[x, y]⟩, ⟨[28, 28]⟩⟩, ty, pos, af, none⟩ :: l) ρ m := by
 have hds := hw.size
 have hl : aLenOf w = some n := by
  rcases hw with ⟨rfl, rfl, rfl⟩ | ⟨b, o, k, c, r, rfl, hx, hle, rfl⟩ <;> rfl
 by_cases h0 : n = 0
 ·subst h0
  have e1 : c = #[] := Array.eq_empty_of_size_eq_zero (by omega)
  have e2 : cs = #[] := Array.eq_empty_of_size_eq_zero (by omega)
  refine sO (opF_eff rfl rfl ?_) (hk m (by rw [e2, ← e1]; exact hb) ⟨Nat.le_refl _, fun _ _ _ => rfl⟩ rfl)
  simp only [aEff, hx, hy, aCopy, T28, S49, hl, if_true, Nat.min_self]
  rfl
 ·have hf : aFirst m 4 n w = some cs := by
   unfold aFirst
   rcases hw with ⟨rfl, rfl, rfl⟩ | ⟨b, o, k, c, r, rfl, hx, hle, rfl⟩
   ·exact absurd rfl h0
   ·simp only [hx]
    rw [if_neg h0, if_pos (by omega)]
  refine sO (opF_eff rfl rfl ?_) (hk (m.setIfInBounds b (.cells true cs)) (gS rfl (live hb)) ⟨by simp, fun i hi hne => gSn (fun e => hne e.symm)⟩ (by simp))
  simp only [aEff, hx, hy, aCopy, T28, S49, hl, if_true, Nat.min_self, if_neg h0, hf, hb]
  rw [if_pos ⟨by omega, h1⟩, lay_all _ _ (by omega)]
  rfl
theorem read_one {m : Mem} {d : Array Value} {Gs : List (Nat × List Nat)} (hd : d.size = Gs.length * 4)
  (hs : ∀ (i : Nat) (g : Nat × List Nat), Gs[i]? = some g → ∃ s, d[i * 4]? = some (nv g.1) ∧ d[i * 4 + 1]? = some s ∧ d[i * 4 + 2]? = some (nv 0) ∧ d[i * 4 + 3]? = some (nv 0) ∧ IntsAt m s (ofs g.2)) : d.all Value.oneCell' = true := by
 rw [Array.all_eq_true]
 intro i hi
 have hq : i / 4 < Gs.length := by omega
 obtain ⟨s, h1, h2, h3, h4, ho⟩ := hs (i / 4) _ (List.getElem?_eq_getElem hq)
 obtain ⟨qs, cs, rfl⟩ := ho.len
 have hr : i % 4 < 4 := Nat.mod_lt _ (by decide)
 have key : ∀ {j : Nat} {u : Value}, d[j]? = some u → j = i → Value.oneCell' u = true → Value.oneCell' d[i] = true := by
  intro j u hj e hu
  subst e
  have := (Array.getElem?_eq_some_iff.1 hj).2
  rw [this]; exact hu
 have hcase : i % 4 = 0 ∨ i % 4 = 1 ∨ i % 4 = 2 ∨ i % 4 = 3 := by omega
 rcases hcase with h | h | h | h
 ·exact key h1 (by omega) rfl
 ·exact key h2 (by omega) rfl
 ·exact key h3 (by omega) rfl
 ·exact key h4 (by omega) rfl
theorem okf79 : okF Tryd.prog H0 79 30 = true := by kernel_rfl
theorem spec_back {m : Mem} {x : Value} {Gs : List (Nat × List Nat)} (h : ReadG m x Gs) (hl : Gs.length ≤ 200000) (hw : ∀ g ∈ Gs, g.2.length ≤ 100) : ∃ v m', ACalls Tryd.prog 79 #[x] m v m' ∧ (∃ cs, OwnG m.size m' v cs Gs.reverse ∧ Ext m m') := by
 obtain ⟨d, hs, hd⟩ := id h
 have hds := hs.size
 have hone := read_one hds hd
 obtain ⟨q, c, rfl⟩ := h.len
 refine wpF (args := [_]) mixed okf79 (fn := Tryd.f79) rfl rfl rfl (by simp) ?_
 refine cSR ?_
 refine sAs (v := .slice _ _ _) rfl ?_
 refine sN ?_
 refine cSR ?_
 refine sMs rfl ?_
 refine sLen T28 rfl ?_
 refine sMkG rfl rfl (by omega) fun Z hZ hZ1 => ?_
 refine sAs (v := .slice _ _ _) rfl ?_
 refine sN ?_
 refine cSR ?_
 refine sMs rfl ?_
 refine sMs rfl ?_
 refine sCopyG rfl (gP rfl) hZ rfl (hs.ext (.push _ _)) hone fun m1 g1 hB1 hz1 => ?_
 have hz1' : m1.size = m.size + 1 := by rw [hz1]; simp
 have hX1 : Ext m m1 := ⟨by omega, fun b hb => by rw [hB1.2 b (by simp; omega) (by omega), gPn (by omega)]⟩
 refine sN ?_
 refine cSR ?_
 refine sMs rfl ?_
 obtain ⟨v12, m2, h12, T, g2, hT, hT1, hTq, hB2, hz2⟩ := spec_ReverseG (n := Gs.length) (cap := Gs.length) g1 (by omega) (by omega) hone
 refine sCall1 rfl call127 rfl h12 ?_
 have hX2 : Ext m m2 := ⟨by omega, fun b hb => by rw [hB2.2 b (by omega) (by omega)]; exact hX1.2 b hb⟩
 have hTg : ∀ (i : Nat) (g : Nat × List Nat), Gs.reverse[i]? = some g → ∃ s, T[i * 4]? = some (nv g.1) ∧ T[i * 4 + 1]? = some s ∧ T[i * 4 + 2]? = some (nv 0) ∧ T[i * 4 + 3]? = some (nv 0) ∧ IntsAt m s (ofs g.2) := fun i g hi => by
  have hil : i < Gs.length := by have := (List.getElem?_eq_some_iff.1 hi).1; simpa using this
  rw [List.getElem?_reverse hil] at hi
  obtain ⟨s, a0, a1, a2, a3, hs'⟩ := hd _ g hi
  have hq := hTq i hil
  have key : ∀ j, j < 4 → T[i * 4 + j]? = d[(Gs.length - 1 - i) * 4 + j]? := fun j hj => by rw [← qd_get hj, hq, qd_get hj]
  exact ⟨s, by have := key 0 (by omega); rw [Nat.add_zero, Nat.add_zero] at this; rw [this]; exact a0, by rw [key 1 (by omega)]; exact a1, by rw [key 2 (by omega)]; exact a2, by rw [key 3 (by omega)]; exact a3, hs'⟩
 refine sN ?_
 refine cSeq (cSR ?_)
 refine sMs rfl ?_
 refine sLen T28 rfl ?_
 refine sMv (v := nv 0) rfl ?_
 refine sN ?_
 refine cBlock ?_
 refine wpC_loop (fun k ρ m' => ∃ i T, k = Gs.length - i ∧ i ≤ Gs.length ∧ Low m.size m m' ∧ m.size + 1 ≤ m'.size ∧ Mem.get m' m.size = .cells true T ∧ T.size = Gs.length * 4 ∧ (∀ (k : Nat) (g : Nat × List Nat), Gs.reverse[k]? = some g → ∃ s, T[k * 4]? = some (nv g.1) ∧ T[k * 4 + 1]? = some s ∧ T[k * 4 + 2]? = some (nv 0) ∧ T[k * 4 + 3]? = some (nv 0) ∧ (k < i → OwnF (m.size + 1) m' s (ofs g.2)) ∧ (i ≤ k → IntsAt m s (ofs g.2))) ∧ Has ρ [(3, .slice (some ⟨m.size, 0, some 4⟩) Gs.length Gs.length), (14, nv Gs.length), (15, nv i)]) ⟨0, T, rfl, Nat.zero_le _, hX2, by omega, g2, by omega, fun k g hk => by
  obtain ⟨s, a0, a1, a2, a3, hs'⟩ := hTg k g hk
  exact ⟨s, a0, a1, a2, a3, fun h => by omega, fun _ => hs'⟩, rfl, rfl, rfl, trivial⟩ ?_
 rintro k ρ m' ⟨i, T', rfl, hi, hLo, hz, g3, hT', hR, hh⟩
 rw [hh.env]; clear hh
 refine cSR ?_
 refine sBin rfl rfl (aInt_lss) ?_
 refine sN ?_
 refine cSeq ?_
 refine cCond rfl (fun c0 => ?_) (fun c0 => ?_)
 ·
  obtain ⟨g, hgi⟩ : ∃ g, Gs.reverse[i]? = some g := ⟨_, List.getElem?_eq_getElem (by simpa using c0)⟩
  obtain ⟨s, a0, a1, a2, a3, _, hsi⟩ := hR i g hgi
  have hsr := hsi (Nat.le_refl _)
  have hgl : g.2.length ≤ 100 := hw g (by have := List.mem_of_getElem? hgi; simpa using this)
  obtain ⟨qs, cs, rfl⟩ := hsr.lenN
  refine cSkip (kSeqN ?_)
  refine cSeq (cBlock (cSR ?_))
  refine sMn rfl ?_
  refine sAn rfl ?_
  refine sN ?_
  refine cRegion ?_
  refine sMs rfl ?_
  refine sMn rfl ?_
  refine sMs rfl ?_
  refine sMn rfl ?_
  refine sIx T28 S49 rfl rfl (by omega) ?_
  refine sFA F49_1 rfl ?_
  refine sLd (v := .slice qs g.2.length cs) A22 rfl g3 (by rw [Nat.zero_add]; exact a1) ?_
  obtain ⟨v25, m25, h25, o25, e25⟩ := spec_Clone (hsr.ext (show Ext m m' from hLo)) (by rw [ofs_length]; omega)
  obtain ⟨q25, c25, rfl⟩ := o25.ints.lenN
  refine sCall1 rfl call15 rfl h25 ?_
  have g325 := e25.cells g3
  refine sIx T28 S49 rfl rfl (by omega) ?_
  refine sFA F49_1 rfl ?_
  refine sSt (v := .slice _ _ _) S22 rfl rfl g325 (by omega) rfl rfl ?_
  rw [Nat.zero_add]
  refine sNil (kBlkN (kSeqN ?_))
  refine cRegion ?_
  refine sBin rfl rfl (aInt_add (b := 1) (by omega)) ?_
  refine sMn rfl ?_
  refine sN ?_
  refine ⟨_, ?_, i + 1, T'.setIfInBounds (i * 4 + 1) (.slice q25 g.2.length c25), rfl, by omega, hLo.trans ((show Low m.size m' m25 from ⟨e25.1, fun b hb => e25.2 b (by omega)⟩).trans (.set (Nat.le_refl _) _)), by have := e25.1; simp; omega, gS rfl (live g325), by simpa using hT', fun k g' hk => ?_, rfl, rfl, rfl, trivial⟩
  ·omega
  ·obtain ⟨s', b0, b1, b2, b3, ho, hi'⟩ := hR k g' hk
   have hkl : k < Gs.length := by have := (List.getElem?_eq_some_iff.1 hk).1; simpa using this
   have hset : ∀ {j : Nat}, j ≠ i * 4 + 1 → (T'.setIfInBounds (i * 4 + 1) (.slice q25 g.2.length c25))[j]? = T'[j]? := fun hj => Array.getElem?_setIfInBounds_ne (fun e => hj e.symm)
   by_cases hki : k = i
   ·subst hki
    rw [hgi] at hk; injection hk with hk; subst hk
    refine ⟨.slice q25 g.2.length c25, by rw [hset (by omega)]; exact b0, Array.getElem?_setIfInBounds_self_of_lt (by omega), by rw [hset (by omega)]; exact b2, by rw [hset (by omega)]; exact b3, fun _ => ?_, fun h => by omega⟩
    exact (o25.mono (by omega)).keep fun b hb => gSn (by have := (o25.lt hb).1; omega)
   ·refine ⟨s', by rw [hset (by omega)]; exact b0, by rw [hset (by omega)]; exact b1, by rw [hset (by omega)]; exact b2, by rw [hset (by omega)]; exact b3, fun h => ?_, fun h => hi' (by omega)⟩
    exact ((ho (by omega)).ext e25).keep fun b hb => gSn (by have := ((ho (by omega)).lt hb).1; omega)
 ·
  obtain rfl : i = Gs.length := by omega
  refine cExit (kSeqE (kSeqE (kBlkS (kSeqN ?_))))
  refine cSR ?_
  refine sMs rfl ?_
  refine sAs (v := .slice _ _ _) rfl ?_
  refine sN ?_
  refine cRet ?_
  refine ⟨.inr rfl, _, rfl, T', ⟨.inr ⟨m.size, Gs.length, T', by rw [List.length_reverse]; rfl, Nat.le_refl _, g3, by rw [List.length_reverse]; exact Nat.le_refl _, hT', by rw [List.length_reverse]; exact hT', fun i _ => rfl⟩, fun k g hk => ?_⟩, hLo⟩
  obtain ⟨s', b0, b1, b2, b3, ho, _⟩ := hR k g hk
  have hkl : k < Gs.length := by have := (List.getElem?_eq_some_iff.1 hk).1; simpa using this
  exact ⟨s', b0, b1, b2, b3, (ho hkl).mono (by omega), fun b hb => by
   have := ((ho hkl).lt hb).1
   intro e; have e' : m.size = b := Option.some.inj e; omega⟩
end Go.AM

/-! R5 -/
namespace Go.AM
open Go.Proofs
theorem cStates {N : Nat} {H : Nat → List (Nat × Nat)} {Q : AExit → Env → Mem → Prop} {ρ : Env} {m : Mem} {f : Operand} {p : Nat} {ac bd : Code} {n pp : Nat}
  (hX : okX Tryd.prog.globals.size N f = true) (hok : (okC Tryd.prog.globals.size N ac && okH H ac && okC Tryd.prog.globals.size N bd && okH H bd && decide (p < N)) = true)
  (hv : evR ρ f = .func (.func 149) #[] #[.pointer (some ⟨pp, 0, none⟩)]) (hn : n ≤ 12)
  (J : Nat → Mem → Prop) (hview : ∀ i m1, J i m1 → ∃ r, Mem.get m1 pp = .cells r #[nv n]) (h0 : ∀ o, J 0 (m.push o))
  (hr : ∀ (R B : ALoop) i m1, i < 2 ^ n → Mem.get m1 m.size = .loop R → m.size < m1.size → J i m1 → wpC Tryd.prog N H ac (fun e ρ2 m2 => e = .normal ∧ Mem.get m2 m.size = .loop R ∧
   wpC Tryd.prog N H bd (fun e4 ρ4 m4 => e4 = .normal ∧ Mem.get m4 m.size = .loop B ∧ J (i + 1) (m4.setIfInBounds m.size (.loop R)) ∧ m.size < m4.size) ρ2 (m2.setIfInBounds m.size (.loop B))) (upd ρ p (nv i)) m1)
  (hend : ∀ m2, J (2 ^ n) m2 → m.size < m2.size → (∃ L, Mem.get m2 m.size = .loop L) → Q .normal ρ (m2.setIfInBounds m.size .dead)) : wpC Tryd.prog N H (.rangeFunc f #[p] ac bd) Q ρ m := by
 refine cRangeJ hX mixed hok hv call149 ?_
 intro R B hround
 have hJ : ∀ i m', i < 2 ^ n → (J i m' ∧ Mem.get m' m.size = .loop R ∧ m.size < m'.size) → ∃ m'', ARound Tryd.prog m.size #[nv i] m' (.bool true) m'' ∧ (J (i + 1) m'' ∧ Mem.get m'' m.size = .loop R ∧ m.size < m''.size) := by
  rintro i m1 hi ⟨h1, h2, h3⟩
  refine hround m1 (nv i) _ h2 ?_
  refine wpC_mono ac ?_ _ _ (hr R B i m1 hi h2 h3 h1)
  rintro e ρ2 m2 ⟨he, hg, hw⟩
  refine ⟨he, hg, wpC_mono bd ?_ _ _ hw⟩
  rintro e4 ρ4 m4 ⟨he4, hg4, hj, hlt⟩
  exact ⟨he4, hg4, hj, gS rfl hlt, by simpa using hlt⟩
 obtain ⟨v2, m2, h2, hj, hl, hlt⟩ := spec_states1 (m := m.push (.loop R)) (lp := m.size) (p := pp) (n := n) (J := fun i m1 => J i m1 ∧ Mem.get m1 m.size = .loop R ∧ m.size < m1.size) hn
  (fun i m' h => hview i m' h.1) hJ ⟨h0 _, gP rfl, by simp⟩
 exact ⟨v2, m2, h2, hl, hend m2 hj hlt ⟨_, hl⟩⟩
/-- Small tables. -/
def smV (t : List Nat) : Value := .agg (cellsN t)
def idM (n : Nat) : List Nat := (List.range 8).map fun x => if x < 2 ^ n then x else 0
def idUp (i : Nat) : List Nat := (List.range 8).map fun x => if x < i then x else 0
theorem idUp_len (i : Nat) : (idUp i).length = 8 := by simp [idUp]
theorem idUp_set {i : Nat} (h : i < 8) : (idUp i).set i i = idUp (i + 1) := by
 apply List.ext_getElem?
 intro k
 rw [List.getElem?_set]
 unfold idUp
 by_cases hk : k < 8
 ·simp only [List.length_map, List.length_range, List.getElem?_map, List.getElem?_range hk, Option.map_some]
  by_cases hik : i = k
  ·subst hik; rw [if_pos rfl, if_pos h, if_pos (by omega)]
  ·rw [if_neg hik]
   congr 1
   by_cases h1 : k < i
   ·rw [if_pos h1, if_pos (by omega)]
   ·rw [if_neg h1, if_neg (by omega)]
 ·rw [if_neg (by omega)]
  rw [List.getElem?_eq_none (by simp; omega), List.getElem?_eq_none (by simp; omega)]
theorem two_pow3 {n : Nat} (h : n ≤ 3) : 2 ^ n ≤ 8 := Nat.le_trans (Nat.pow_le_pow_right (by decide) h) (by decide)
end Go.AM

/-! R6 -/
namespace Go.AM
open Go.Proofs
theorem okf87 : okF Tryd.prog H0 87 11 = true := by kernel_rfl
theorem spec_identity {m : Mem} {n : Nat} (hn : n ≤ 3) : ∃ v m', ACalls Tryd.prog 87 #[nv n] m v m' ∧ (v = smV (idM n) ∧ Ext m m') := by
 have h8 := two_pow3 hn
 refine wpF (args := [_]) mixed okf87 (fn := Tryd.f87) rfl rfl rfl (by simp) ?_
 refine cSR ?_
 refine sAlloc Z109 (by kernel_rfl) ?_
 change wpOps _ _ _ _ _ (m.push (.cells true (cellsN (idUp 0))))
 refine sN ?_
 refine cSeq (cSR ?_)
 refine sMn rfl ?_
 obtain ⟨v5, m5, h5, rfl, rfl⟩ := spec_states (m := m.push (.cells true (cellsN (idUp 0)))) (n := n)
 refine sCall1 rfl call130 rfl h5 ?_
 have hz : ((m.push (.cells true (cellsN (idUp 0)))).push (.cells true #[nv n])).size = m.size + 2 := by simp
 refine sN ?_
 refine cBlock ?_
 refine cStates (n := n) (pp := (m.push (.cells true (cellsN (idUp 0)))).size) (by kernel_rfl) (by kernel_rfl) rfl (by omega) (fun i m1 => m.size + 2 ≤ m1.size ∧ (∀ b, b < m.size → Mem.get m1 b = Mem.get m b) ∧ Mem.get m1 m.size = .cells true (cellsN (idUp i)) ∧ Mem.get m1 (m.size + 1) = .cells true #[nv n]) (fun i m1 h => ⟨true, by simpa using h.2.2.2⟩) (fun o => ⟨by simp, fun b hb => by rw [gPn (by simp; omega), gPn (by simp; omega), gPn hb], by rw [gPn (by simp; omega), gPn (by simp), gP rfl], by rw [gPn (by simp), gP (by simp)]⟩) ?_ ?_
 ·
  rintro R B i m1 hi hlp hlt ⟨h1, h2, h3, h4⟩
  rw [hz] at hlp hlt ⊢
  have hi8 : i < 8 := by omega
  refine cRegion ?_
  refine sAn rfl ?_
  refine sNil ?_
  refine ⟨rfl, hlp, ?_⟩
  refine cBlock (cRegion ?_)
  refine sMn rfl ?_
  refine sMn rfl ?_
  refine sIxA T109 S3 rfl rfl hi8 ?_
  refine sSt (v := nv i) S3 rfl rfl ((gSn (by omega)).trans h3) (by rw [cellsN_size, idUp_len, Nat.zero_add, Nat.mul_one]; exact hi8) rfl rfl ?_
  rw [Nat.zero_add, Nat.mul_one, cellsN_set, idUp_set hi8]
  refine sNil (kBlkN ?_)
  refine ⟨rfl, ?_, ⟨by simp; omega, fun b hb => ?_, ?_, ?_⟩, by simpa using hlt⟩
  ·rw [gSn (by omega)]; exact gS rfl hlt
  ·rw [gSn (by omega), gSn (by omega), gSn (by omega)]; exact h2 b hb
  ·rw [gSn (by omega)]; exact gS rfl (by simp; omega)
  ·rw [gSn (by omega), gSn (by omega), gSn (by omega)]; exact h4
 rintro m2 ⟨h1, h2, h3, h4⟩ hlt _
 rw [hz] at hlt ⊢
 have h3' : Mem.get (m2.setIfInBounds (m.size + 2) .dead) m.size = .cells true (cellsN (idM n)) := by rw [gSn (by omega)]; exact h3
 refine (kBlkN (kSeqN ?_))
 refine cSR ?_
 refine sLdAll A109 S109 rfl h3' (by simp [idM]) ?_
 refine sStAll S109 rfl rfl h3' (by simp [idM]) (by simp [idM]) (all_of_get fun i v hi => by unfold cellsN at hi; simp at hi; obtain ⟨x, _, rfl⟩ := hi; rfl) ?_
 refine sN ?_
 refine cRet ?_
 refine ⟨.inr rfl, _, resRs_agg A109 S109 rfl (gS rfl (live h3')) (by simp [idM]), rfl, ?_⟩
 refine ⟨by simp; omega, fun b hb => ?_⟩
 rw [gSn (by omega), gSn (by omega)]; exact h2 b hb
end Go.AM

/-! R7 -/
namespace Go.AM
open Go.Proofs
theorem OwnF.keepC {N : Nat} {m m' : Mem} {v : Value} {l : List Int} (h : OwnF N m v l) (hu : ∀ b c, N ≤ b → Mem.get m b = .cells true c → Mem.get m' b = .cells true c) : OwnF N m' v l := by
 rcases h with h | ⟨b, cap, c, h1, h2, h3, h4⟩
 ·exact .inl h
 ·exact .inr ⟨b, cap, c, h1, h2, hu b c h2 h3, h4⟩
theorem OwnC.keepC {N : Nat} {m m' : Mem} {v : Value} {w n : Nat} {cs : Array Value} (h : OwnC N m v w n cs) (hu : ∀ b c, N ≤ b → Mem.get m b = .cells true c → Mem.get m' b = .cells true c) : OwnC N m' v w n cs := by
 rcases h with h | ⟨b, cap, c, h1, h2, h3, h4⟩
 ·exact .inl h
 ·exact .inr ⟨b, cap, c, h1, h2, hu b c h2 h3, h4⟩
theorem OwnG.keepC {N : Nat} {m m' : Mem} {v : Value} {cs : Array Value} {Gs : List (Nat × List Nat)} (h : OwnG N m v cs Gs) (hu : ∀ b c, N ≤ b → Mem.get m b = .cells true c → Mem.get m' b = .cells true c) : OwnG N m' v cs Gs :=
 ⟨h.1.keepC hu, fun i g hi => by
  obtain ⟨s, h1, h2, h3, h4, ho, hb⟩ := h.2 i g hi
  exact ⟨s, h1, h2, h3, h4, ho.keepC hu, hb⟩⟩
theorem set_keepC {m : Mem} {lp : Nat} {o : AObj} {L : ALoop} (hl : Mem.get m lp = .loop L) : ∀ b c, Mem.get m b = .cells true c → Mem.get (m.setIfInBounds lp o) b = .cells true c := by
 intro b c hb
 rw [gSn (fun e => by subst e; rw [hl] at hb; cases hb)]; exact hb
theorem bit_zero (w i : Nat) : (w >>> i &&& 1 = 0) ↔ w.testBit i = false := by
 have h1 := bit_one w i
 have h2 : w >>> i &&& 1 = 0 ∨ w >>> i &&& 1 = 1 := by
  have := Nat.and_le_right (n := w >>> i) (m := 1); omega
 constructor
 ·intro h
  cases hb : w.testBit i with
  | false => rfl
  | true => have := h1.2 hb; omega
 ·intro h
  rcases h2 with h2 | h2
  ·exact h2
  ·rw [h1.1 h2] at h; cases h
def gateOfM (k c : Nat) : Nat × List Nat := (kindM (wiresM c).length, wiresM c ++ [k])
def pickM (k c : Nat) : Bool := !c.testBit k && decide ((wiresM c).length ≤ 2)
def gatesK (k i : Nat) : List (Nat × List Nat) := ((List.range i).filter (pickM k)).map (gateOfM k)
def gatesUp (k n : Nat) : List (Nat × List Nat) := (List.range k).flatMap fun k => gatesK k (2 ^ n)
def gatesM (n : Nat) : List (Nat × List Nat) := gatesUp n n
theorem gatesK_succ (k i : Nat) : gatesK k (i + 1) = gatesK k i ++ (if pickM k i then [gateOfM k i] else []) := by
 unfold gatesK
 rw [List.range_succ, List.filter_append, List.map_append]
 congr 1
 simp only [List.filter_cons, List.filter_nil]
 split <;> rfl
theorem gatesK_len (k i : Nat) : (gatesK k i).length ≤ i := by
 unfold gatesK
 rw [List.length_map]
 exact Nat.le_trans (List.length_filter_le _ _) (by simp)
theorem gatesUp_succ (k n : Nat) : gatesUp (k + 1) n = gatesUp k n ++ gatesK k (2 ^ n) := by
 unfold gatesUp
 rw [List.range_succ, List.flatMap_append]
 simp
theorem gatesUp_len (k n : Nat) (hn : n ≤ 3) : (gatesUp k n).length ≤ k * 8 := by
 induction k with
 | zero => simp [gatesUp]
 | succ k ih =>
  rw [gatesUp_succ, List.length_append]
  have h1 := gatesK_len k (2 ^ n)
  have h2 := two_pow3 hn
  omega
def H89 : Nat → List (Nat × Nat) := fun id => if id = 10 then [(0, 4), (0, 5)] else []
theorem okf89 : okF Tryd.prog H89 89 32 = true := by kernel_rfl
theorem spec_gates {m : Mem} {n : Nat} (hn : n ≤ 3) : ∃ v m', ACalls Tryd.prog 89 #[nv n] m v m' ∧ (∃ cs, OwnG m.size m' v cs (gatesM n) ∧ Ext m m') := by
 have h8 := two_pow3 hn
 refine wpF (args := [_]) mixed okf89 (fn := Tryd.f89) rfl rfl rfl (by simp) ?_
 refine cSR ?_
 refine sAs (v := .slice _ _ _) rfl ?_
 refine sN ?_
 refine cSR ?_
 refine sAlloc Z28 (by kernel_rfl) ?_
 change wpOps _ _ _ _ _ (m.push (.cells true #[.slice none 0 0]))
 refine sN ?_
 refine cSeq (cSR ?_)
 refine sMn rfl ?_
 refine sMv (v := nv 0) rfl ?_
 refine sN ?_
 refine cBlock ?_
 refine wpC_loop (fun q ρ m' => ∃ k v cs, q = n - k ∧ k ≤ n ∧ m.size + 1 ≤ m'.size ∧ Low m.size m m' ∧ Mem.get m' m.size = .cells true #[v] ∧ OwnG (m.size + 1) m' v cs (gatesUp k n) ∧ Has ρ [(0, nv n), (3, .pointer (some ⟨m.size, 0, none⟩)), (7, nv n), (8, nv k)]) ⟨0, .slice none 0 0, #[], rfl, Nat.zero_le _, by simp, .push _ (Nat.le_refl _) _, gP rfl, .nil _ _, rfl, rfl, rfl, rfl, trivial⟩ ?_
 rintro q ρ m' ⟨k, v, cs, rfl, hk, hz, hLo, g3, hO, hh⟩
 rw [hh.env]; clear hh
 refine cSR ?_
 refine sBin rfl rfl (aInt_lss) ?_
 refine sN ?_
 refine cSeq ?_
 refine cCond rfl (fun c0 => ?_) (fun c0 => ?_)
 ·
  skip
  refine cSkip (kSeqN ?_)
  refine cSeq (cBlock (cSR ?_))
  refine sMn rfl ?_
  refine sAlloc Z3 (by kernel_rfl) ?_
  refine sStN (v := nv k) S3 rfl rfl rfl rfl rfl ?_
  refine sN ?_
  refine cSR ?_
  refine sMn rfl ?_
  obtain ⟨v5, m5, h5, rfl, rfl⟩ := spec_states (m := m'.push (.cells true #[nv k])) (n := n)
  refine sCall1 rfl call130 rfl h5 ?_
  have hz2 : ((m'.push (.cells true #[nv k])).push (.cells true #[nv n])).size = m'.size + 2 := by simp
  have hg3' := gatesUp_len k n hn
  refine sN ?_
  refine cBlock ?_
  refine cStates (n := n) (pp := (m'.push (.cells true #[nv k])).size) (by kernel_rfl) (by kernel_rfl) rfl (by omega) (fun i m1 => m'.size + 2 ≤ m1.size ∧ Low m.size m m1 ∧ (∃ v cs, Mem.get m1 m.size = .cells true #[v] ∧ OwnG (m.size + 1) m1 v cs (gatesUp k n ++ gatesK k i) ∧ (∀ b, blkOf v = some b → b ≠ m'.size ∧ b ≠ m'.size + 1)) ∧ Mem.get m1 m'.size = .cells true #[nv k] ∧ Mem.get m1 (m'.size + 1) = .cells true #[nv n]) (fun i m1 h => ⟨true, by simpa using h.2.2.2.2⟩) (fun o => ⟨by simp, hLo.trans ⟨by simp; omega, fun b hb => by rw [gPn (by simp; omega), gPn (by simp; omega), gPn (by omega)]⟩, ⟨v, cs, by rw [gPn (by simp; omega), gPn (by simp; omega), gPn (by omega)]; exact g3, by rw [show gatesK k 0 = [] from rfl, List.append_nil]; exact ((hO.ext (.push _ _)).ext (.push _ _)).ext (.push _ _), fun b hb => by have := (hO.1.lt hb).2; omega⟩, by rw [gPn (by simp; omega), gPn (by simp), gP rfl], by rw [gPn (by simp), gP (by simp)]⟩) ?_ ?_
  ·
   rintro R B i m1 hi hlp hlt ⟨h1, h2, ⟨u, ds, h3, h4, h5⟩, h6, h7⟩
   rw [hz2] at hlp hlt ⊢
   have hi8 : i < 8 := by omega
   have hgk := gatesK_len k i
   obtain ⟨qu, cu, rfl⟩ := h4.1.len
   have hO1 : OwnG (m.size + 1) (m1.setIfInBounds (m'.size + 2) (.loop B)) _ ds _ := h4.keepC fun b c _ hb => set_keepC hlp b c hb
   have h31 : Mem.get (m1.setIfInBounds (m'.size + 2) (.loop B)) m.size = .cells true #[.slice qu (gatesUp k n ++ gatesK k i).length cu] := (gSn (by omega)).trans h3
   have h61 : Mem.get (m1.setIfInBounds (m'.size + 2) (.loop B)) m'.size = .cells true #[nv k] := (gSn (by omega)).trans h6
   have h71 : Mem.get (m1.setIfInBounds (m'.size + 2) (.loop B)) (m'.size + 1) = .cells true #[nv n] := (gSn (by omega)).trans h7
   have hB1 : Mem.get (m1.setIfInBounds (m'.size + 2) (.loop B)) (m'.size + 2) = .loop B := gS rfl hlt
   have hlo1 : Low m.size m (m1.setIfInBounds (m'.size + 2) (.loop B)) := h2.trans (.set (by omega) _)
   have hzz : m'.size + 2 < (m1.setIfInBounds (m'.size + 2) (.loop B)).size := by simpa using hlt
   refine cRegion ?_
   refine sAn rfl ?_
   refine sNil ?_
   refine ⟨rfl, hlp, ?_⟩
   generalize m1.setIfInBounds (m'.size + 2) (.loop B) = M at *
   clear hlp hlt h1 h2 h3 h4 h6 h7
   have hend : ∀ (M2 : Mem) (w : Value) (es : Array Value) (Gs : List (Nat × List Nat)), m'.size + 2 < M2.size → Low m.size m M2 → Mem.get M2 m.size = .cells true #[w] → OwnG (m.size + 1) M2 w es Gs → (∀ b, blkOf w = some b → b ≠ m'.size ∧ b ≠ m'.size + 1) → Mem.get M2 m'.size = .cells true #[nv k] → Mem.get M2 (m'.size + 1) = .cells true #[nv n] → Mem.get M2 (m'.size + 2) = .loop B → Gs = gatesUp k n ++ gatesK k (i + 1) →
     (m'.size + 2 ≤ (M2.setIfInBounds (m'.size + 2) (.loop R)).size ∧ Low m.size m (M2.setIfInBounds (m'.size + 2) (.loop R)) ∧ (∃ v cs, Mem.get (M2.setIfInBounds (m'.size + 2) (.loop R)) m.size = .cells true #[v] ∧ OwnG (m.size + 1) (M2.setIfInBounds (m'.size + 2) (.loop R)) v cs (gatesUp k n ++ gatesK k (i + 1)) ∧ (∀ b, blkOf v = some b → b ≠ m'.size ∧ b ≠ m'.size + 1)) ∧ Mem.get (M2.setIfInBounds (m'.size + 2) (.loop R)) m'.size = .cells true #[nv k] ∧ Mem.get (M2.setIfInBounds (m'.size + 2) (.loop R)) (m'.size + 1) = .cells true #[nv n]) := by
    intro M2 w es Gs a1 a2 a3 a4 a5 a6 a7 a8 a9
    subst a9
    exact ⟨by simp; omega, a2.trans (.set (by omega) _), ⟨w, es, (gSn (by omega)).trans a3, a4.keepC fun b c _ hb => set_keepC a8 b c hb, a5⟩, (gSn (by omega)).trans a6, (gSn (by omega)).trans a7⟩
   refine cBlock (cSR ?_)
   refine sMn rfl ?_
   refine sLd (v := nv k) A3 rfl h61 rfl ?_
   refine sBin (a := i) (b := k) rfl rfl (aInt_shr (by omega)) ?_
   have hsh := Nat.shiftRight_le i k
   refine sBin (b := 1) rfl rfl (aInt_and (by omega)) ?_
   refine sBin (b := 0) rfl rfl aInt_eql ?_
   refine sN ?_
   refine cCond (p := i >>> k &&& 1 = 0) rfl (fun c1 => ?_) (fun c1 => ?_)
   ·
    have hbit := (bit_zero i k).1 c1
    refine cSR ?_
    refine sMn rfl ?_
    obtain ⟨v20, m20, h20, o20, e20⟩ := spec_wires (m := M) (x := i) (by omega)
    obtain ⟨q20, c20, rfl⟩ := o20.ints.lenN
    refine sCall1 rfl call77 rfl h20 ?_
    have hwl : (wiresM i).length ≤ 12 := nodesUp_len i 12
    refine sAs (v := .slice _ _ _) rfl ?_
    refine sN ?_
    refine cSR ?_
    refine sMs rfl ?_
    refine sLen T22 rfl ?_
    refine sBin (a := (wiresM i).length) (b := 2) rfl rfl aInt_leq ?_
    refine sN ?_
    refine cCond (p := (wiresM i).length ≤ 2) rfl (fun c2 => ?_) (fun c2 => ?_)
    ·
     have hpk : pickM k i = true := by unfold pickM; rw [hbit, decide_eq_true c2]; rfl
     have h320 := e20.cells h31
     have h620 := e20.cells h61
     have h720 := e20.cells h71
     have hO20 := hO1.ext e20
     refine cDrawH (hs := [(0, 4), (0, 5)]) rfl (by decide) ?_
     refine lStepLd (v := .slice _ _ _) A28 rfl h320 rfl fun e0 hm0 hv0 hr0 => ?_
     refine lStepLd (v := nv k) A3 rfl h620 rfl fun e1 hm1 hv1 hr1 => ?_
     refine lStepO (sMv (v := .slice _ _ _) rfl (sNil fun e2 hm2 => ?_))
     obtain ⟨v27, m27, h27, w27, rfl, o27, e27⟩ := spec_turn (k := k) o20.ints c2
     obtain ⟨q27, c27, rfl⟩ := o27.ints.lenN
     refine lStepO (sCall2 rfl call78 rfl rfl h27 (sNil fun e3 hm3 => ?_))
     have h327 := e27.cells h320
     have hO27 := hO20.ext e27
     have z27 := e27.1
     have z20 := e20.1
     refine lStepO (sBuildS T28 S49 Z49 (by decide) (by decide) (by decide) (by kernel_rfl) fillA4 rfl (sNil fun e4 hm4 => ?_))
     refine lStepO (sAppC El55 rfl rfl (N := m.size + 1) (n := (gatesUp k n ++ gatesK k i).length) (cs := ds) (hO27.1.ext (.push _ _)) (gP rfl) rfl (by kernel_rfl) (by simp; omega) (by rw [List.length_append]; omega) fun v' m4 hO4 hL4 hG4 => (sNil fun e5 hm5 => ?_))
     have g34 := hL4.cells (show m.size < m.size + 1 by omega) ((gPn (live h327)).trans h327)
     have hgr := (hO27.ext (.push _ _)).grew (s := .slice q27 (wiresM i ++ [k]).length c27) (k := kindM (wiresM i).length) (w := wiresM i ++ [k]) ((o27.mono (by omega)).ext (.push _ _)) (fun b hb e => by
      have h1 := (o27.lt hb).1
      have h2 := (hO1.1.lt e).2
      omega) hG4 hO4
     obtain ⟨q4, cp4, rfl⟩ := hO4.len
     refine lStepO (sSt (v := .slice _ _ _) S28 rfl rfl g34 (by simp) rfl rfl (sNil fun e6 hm6 => ?_))
     refine ⟨?_, (kBlkN ?_)⟩
     ·
      refine obl_atE (e := e0) (e' := e4) (by simp) (by rfl) (by simp) ((hr0 e4.m _ _ (by rw [hm4]; exact h327) (by rfl)).trans (congrArg some hv0.symm)) ?_
      refine obl_atE (e := e0) (e' := e5) (by simp) (by rfl) (by simp) ((hr0 e5.m _ _ (by rw [hm5, gPn (live h327)]; exact h327) (by rfl)).trans (congrArg some hv0.symm)) ?_
      trivial
     have hne2 : blkOf (.slice qu (gatesUp k n ++ gatesK k i).length cu) ≠ some (m'.size + 2) := by
      rcases hO1.1 with ⟨e, _⟩ | ⟨b, cap, c, e, _, hb, _⟩
      ·rw [e]; intro h; cases h
      ·rw [e]; intro h
       obtain rfl : b = m'.size + 2 := Option.some.inj h
       rw [hB1] at hb; cases hb
     have hk4 : ∀ b, (b = m'.size ∨ b = m'.size + 1 ∨ b = m'.size + 2) → Mem.get (m4.setIfInBounds m.size (.cells true #[.slice q4 ((gatesUp k n ++ gatesK k i).length + 1) cp4])) b = Mem.get M b := fun b hb => by
      rw [gSn (by omega), hG4.2.1 b (by simp; omega) (fun e => by
       rcases hb with rfl | rfl | rfl
       ·exact (h5 _ e).1 rfl
       ·exact (h5 _ e).2 rfl
       ·exact hne2 e), gPn (by omega), e27.2 b (by omega), e20.2 b (by omega)]
     have z4 : m'.size + 2 < m4.size := by have := hL4.1; simp at this; omega
     refine ⟨rfl, (hk4 _ (.inr (.inr rfl))).trans hB1, hend _ _ _ _ (by simpa using z4) ?_ (gS rfl (live g34)) (hgr.only (.set m.size m4 _) (by omega)) ?_ ((hk4 _ (.inl rfl)).trans h61) ((hk4 _ (.inr (.inl rfl))).trans h71) ((hk4 _ (.inr (.inr rfl))).trans hB1) ?_, by simpa using z4⟩
     ·exact hlo1.trans ((Low.of_ext (e20.trans e27) (by omega)).trans ((Low.push _ (by omega) _).trans ((hL4.le (Nat.le_succ _)).trans (.set (Nat.le_refl _) _))))
     ·intro b hb
      rcases hG4.2.2 with e | ⟨b1, e, hb1⟩
      ·exact h5 b (e.symm.trans hb)
      ·rw [e] at hb; injection hb with hb; simp at hb1; omega
     ·rw [gatesK_succ, hpk, if_pos rfl, List.append_assoc]; rfl
    ·
     refine cSkip (kBlkN ?_)
     have hpk : pickM k i = false := by unfold pickM; rw [hbit, decide_eq_false c2]; rfl
     have z20 := e20.1
     exact ⟨rfl, e20.2 _ (by omega) |>.trans hB1, hend m20 _ _ _ (by omega) (hlo1.trans (Low.of_ext e20 (by omega))) (e20.cells h31) (hO1.ext e20) h5 (e20.cells h61) (e20.cells h71) (e20.2 _ (by omega) |>.trans hB1) (by rw [gatesK_succ, hpk, if_neg (by decide), List.append_nil]), by omega⟩
   ·
    refine cSkip (kBlkN ?_)
    have hpk : pickM k i = false := by
     unfold pickM
     cases hb : i.testBit k with
     | true => rfl
     | false => exact absurd ((bit_zero i k).2 hb) c1
    exact ⟨rfl, hB1, hend M _ _ _ hzz hlo1 h31 hO1 h5 h61 h71 hB1 (by rw [gatesK_succ, hpk, if_neg (by decide), List.append_nil]), hzz⟩
  rintro m2 ⟨h1, h2, ⟨u, ds, h3, h4, h5⟩, h6, h7⟩ hlt hlp2
  rw [hz2] at hlt hlp2 ⊢
  refine (kBlkN (kBlkN (kSeqN ?_)))
  refine cRegion ?_
  refine sBin rfl rfl (aInt_add (b := 1) (by omega)) ?_
  refine sMn rfl ?_
  refine sN ?_
  refine ⟨_, ?_, k + 1, u, ds, rfl, by omega, by simp; omega, h2.trans (.set (by omega) _), (gSn (by omega)).trans h3, ?_, rfl, rfl, rfl, rfl, trivial⟩
  ·omega
  ·rw [gatesUp_succ]
   obtain ⟨L, hL⟩ := hlp2
   exact h4.keepC fun b c _ hb => set_keepC hL b c hb
 ·
  refine cExit (kSeqE (kSeqE (kBlkS (kSeqN ?_))))
  refine cSR ?_
  refine sLd (v := v) A28 rfl g3 rfl ?_
  refine sAs (v := v) rfl ?_
  refine sN ?_
  refine cRet ?_
  obtain rfl : k = n := by omega
  exact ⟨.inr rfl, _, rfl, cs, hO.mono (by omega), hLo⟩
end Go.AM

/-! R8 -/
namespace Go.AM
open Go.Proofs
theorem eq3 {a b : Nat} : aEq Tryd.prog 99 3 (nv a) (nv b) = some (a == b) := by
 have hu : undOf Tryd.prog 3 = some (.int .i64) := U3
 unfold aEq
 simp only [hu, aEq0, if_true]
 congr 1
 by_cases h : a = b
 ·subst h; simp
 ·have h1 : (a == b) = false := by simpa using h
  rw [h1]
  have : ¬ (Int.ofNat a = Int.ofNat b) := fun e => h (Int.ofNat.inj e)
  simpa using this
theorem part3 {c : Array Value} {i : Nat} {v : Value} (h : c[i]? = some v) : aPart Tryd.prog 3 c (i * 1) = some v := by
 unfold aPart
 simp only [A3, Nat.mul_one, h]
theorem eqElems {t u : List Nat} (ht : t.length = 8) (hu : u.length = 8) : ∀ k i, i + k = 8 → aEqElems (aEq Tryd.prog 99) Tryd.prog 3 1 k i (cellsN t) (cellsN u) = some (decide (t.drop i = u.drop i))
 | 0, i, h => by
  have h8 : i = 8 := by omega
  subst h8
  rw [List.drop_eq_nil_of_le (by omega), List.drop_eq_nil_of_le (by omega)]
  rfl
 | k + 1, i, h => by
  have hi : i < t.length := by omega
  have hj : i < u.length := by omega
  have h1 : (cellsN t)[i]? = some (nv t[i]) := cellsN_get (List.getElem?_eq_getElem hi)
  have h2 : (cellsN u)[i]? = some (nv u[i]) := cellsN_get (List.getElem?_eq_getElem hj)
  unfold aEqElems
  simp only [part3 h1, part3 h2, eq3]
  rw [List.drop_eq_getElem_cons hi, List.drop_eq_getElem_cons hj]
  by_cases he : t[i] = u[i]
  ·have hb : (t[i] == u[i]) = true := by simpa using he
   rw [hb]
   simp only []
   rw [eqElems ht hu k (i + 1) (by omega)]
   congr 1
   exact decide_eq_decide.2 ⟨fun h => by rw [h, he], fun h => (List.cons.inj h).2⟩
  ·have hb : (t[i] == u[i]) = false := by simpa using he
   rw [hb]
   simp only []
   congr 1
   exact (decide_eq_false (fun h => he (List.cons.inj h).1)).symm
theorem eqSm {t u : List Nat} (ht : t.length = 8) (hu : u.length = 8) : aEq Tryd.prog eqDep 109 (smV t) (smV u) = some (decide (t = u)) := by
 show aEq Tryd.prog (99 + 1) 109 (smV t) (smV u) = _
 unfold smV
 unfold aEq
 simp only [T109, S3]
 rw [eqElems ht hu 8 0 rfl]
 simp
theorem keyOk3 {a : Nat} : aKeyOk Tryd.prog 99 3 (nv a) = true := by
 unfold aKeyOk
 simp only [U3]
 rfl
theorem keySm {t : List Nat} (ht : t.length = 8) : aKeyOk Tryd.prog eqDep 109 (smV t) = true := by
 show aKeyOk Tryd.prog (99 + 1) 109 (smV t) = true
 unfold smV
 unfold aKeyOk
 simp only [T109, S3]
 rw [List.all_eq_true]
 intro i hi
 have hi8 : i < 8 := by have := List.mem_range'.1 hi; omega
 rw [part3 (cellsN_get (List.getElem?_eq_getElem (show i < t.length by omega)))]
 exact keyOk3
/-- How a table was met: behind which one, by which gate, how many gates. -/
structure Met where
  tab : List Nat
  src : List Nat
  gate : Int
  many : Nat
def stepV (e : Met) : Value := .agg (cellsN e.src ++ #[.int .i64 e.gate, nv e.many])
def metV (L : List Met) : List (Value × Value) := L.map fun e => (smV e.tab, stepV e)
def metFind (t : List Nat) (L : List Met) : Option Met := L.find? fun e => decide (t = e.tab)
theorem ask_metV {t : List Nat} (ht : t.length = 8) : ∀ (L : List Met) (i : Nat), (∀ e ∈ L, e.tab.length = 8) → ∃ j, aFindAsk Tryd.prog 109 (smV t) (metV L) i = some ((metFind t L).map fun e => (j, stepV e))
 | [], i, _ => ⟨0, rfl⟩
 | e :: L, i, h => by
  obtain ⟨j, hj⟩ := ask_metV ht L (i + 1) fun x hx => h x (by simp [hx])
  by_cases he : t = e.tab
  ·refine ⟨i, ?_⟩
   simp only [metV, List.map_cons, aFindAsk, eqSm ht (h e (by simp)), decide_eq_true he, metFind, List.find?_cons]
   rfl
  ·refine ⟨j, ?_⟩
   simp only [metV, List.map_cons, aFindAsk, eqSm ht (h e (by simp)), decide_eq_false he, metFind, List.find?_cons]
   exact hj
def step0V : Value := .agg #[nv 0, nv 0, nv 0, nv 0, nv 0, nv 0, nv 0, nv 0, nv 0, nv 0]
theorem look_met {m : Mem} {r : Nat} {b : Bool} {t : List Nat} {L : List Met} {ok : Bool} (ht : t.length = 8) (hL : ∀ e ∈ L, e.tab.length = 8) (hr : Mem.get m r = .map b (metV L)) :
  aLookup Tryd.prog m 111 (.map (some r)) (smV t) ok = some (match metFind t L with
   | some e => if ok then .tuple #[stepV e, .bool true] else stepV e
   | none => if ok then .tuple #[step0V, .bool false] else step0V) := by
 obtain ⟨j, hj⟩ := ask_metV ht L 0 hL
 have hp : (plainKey (.array 8 3) && flat step0V) = false := rfl
 have hc : (flat step0V && aggKey (.array 8 3) && aKeyOk Tryd.prog eqDep 109 (smV t)) = true := by
  rw [keySm ht]; kernel_rfl
 have hz : zeroOf Tryd.prog 116 = some step0V := Z116
 simp only [aLookup, T111, T109, hz, hp, Bool.false_eq_true, if_false, aLookupA, hc, if_true, hr, hj]
 cases metFind t L <;> rfl
theorem upd_met {m : Mem} {r : Nat} {e : Met} {L : List Met} (ht : e.tab.length = 8) (hL : ∀ e ∈ L, e.tab.length = 8) (hr : Mem.get m r = .map true (metV L)) (hn : metFind e.tab L = none) :
  aMapUpdate Tryd.prog m 111 (.map (some r)) (smV e.tab) (stepV e) = some (m.setIfInBounds r (.map true (metV (L ++ [e])))) := by
 obtain ⟨j, hj⟩ := ask_metV ht L 0 hL
 rw [hn] at hj
 have hp : plainKey (.array 8 3) = false := rfl
 have hc : (aggKey (.array 8 3) && aKeyOk Tryd.prog eqDep 109 (smV e.tab)) = true := by rw [keySm ht]; rfl
 simp only [aMapUpdate, T111, T109, hr, hp, Bool.false_eq_true, if_false, hc, if_true, hj, Option.map_none]
 rw [metV, metV, List.map_append]; rfl
end Go.AM

/-! N0 -/
namespace Go.AM
def nextUp (g : Nat × List Nat) (t : List Nat) (i : Nat) : List Nat := (List.range 8).map fun x => if x < i then turnM (t.getD x 0) g.2 else t.getD x 0
def nextT (n : Nat) (g : Nat × List Nat) (t : List Nat) : List Nat := nextUp g t (2 ^ n)
def tryR (n : Nat) (e : Met) (g : Nat × List Nat) (k : Nat) (L : List Met) : List Met :=
  if (metFind (nextT n g e.tab) L).isSome then L else L ++ [⟨nextT n g e.tab, e.tab, k, e.many + 1⟩]
def triesR (n : Nat) (e : Met) : List (Nat × List Nat) → Nat → List Met → List Met
  | [], _, L => L
  | g :: gs, k, L => triesR n e gs (k + 1) (tryR n e g k L)
def roundR (n most : Nat) (e : Met) (L : List Met) : List Met := if e.many = most then L else triesR n e (gatesM n) 0 L
def runR (n most : Nat) : Nat → Nat → List Met → List Met
  | 0, _, L => L
  | f + 1, i, L => match L[i]? with
    | some e => runR n most f (i + 1) (roundR n most e L)
    | none => L
def met0 (n : Nat) : Met := ⟨idM n, [0, 0, 0, 0, 0, 0, 0, 0], -1, 0⟩
def reachM (n most : Nat) : List Met := runR n most 30000 0 [met0 n]
/-- A table of n wires, written in eight numbers. -/
def TabOk (n : Nat) (t : List Nat) : Prop := t.length = 8 ∧ ∀ y ∈ t, y < 2 ^ n
theorem TabOk.getD {n : Nat} {t : List Nat} (h : TabOk n t) (x : Nat) : t.getD x 0 < 2 ^ n := by
 rw [List.getD_eq_getElem?_getD]
 cases hx : t[x]? with
 | none => simp only [Option.getD_none]; exact Nat.two_pow_pos n
 | some y => exact h.2 y (List.mem_of_getElem? hx)
theorem TabOk.id (n : Nat) : TabOk n (idM n) := by
 refine ⟨by simp [idM], fun y hy => ?_⟩
 unfold idM at hy
 rw [List.mem_map] at hy
 obtain ⟨x, _, rfl⟩ := hy
 split
 ·assumption
 ·exact Nat.two_pow_pos n
theorem TabOk.next {n i : Nat} {t : List Nat} {g : Nat × List Nat} (h : TabOk n t) (hg : ∀ y ∈ g.2, y < n) (h0 : 0 < g.2.length) : TabOk n (nextUp g t i) := by
 refine ⟨by simp [nextUp], fun y hy => ?_⟩
 unfold nextUp at hy
 rw [List.mem_map] at hy
 obtain ⟨x, _, rfl⟩ := hy
 split
 ·exact turnM_lt (h.getD x) hg h0
 ·exact h.getD x
theorem wires_lt {c n : Nat} (hc : c < 2 ^ n) : ∀ y ∈ wiresM c, y < n := by
 intro y hy
 unfold wiresM nodesUp at hy
 rw [List.mem_filter] at hy
 by_cases h : y < n
 ·exact h
 ·have : c < 2 ^ y := Nat.lt_of_lt_of_le hc (Nat.pow_le_pow_right (by decide) (by omega))
  rw [Nat.testBit_lt_two_pow this] at hy
  cases hy.2
theorem gatesM_ok {n : Nat} {g : Nat × List Nat} (hg : g ∈ gatesM n) : ∃ k c, k < n ∧ c < 2 ^ n ∧ pickM k c = true ∧ g = gateOfM k c := by
 unfold gatesM gatesUp gatesK at hg
 rw [List.mem_flatMap] at hg
 obtain ⟨k, hk, hg⟩ := hg
 rw [List.mem_map] at hg
 obtain ⟨c, hc, rfl⟩ := hg
 rw [List.mem_filter] at hc
 exact ⟨k, c, List.mem_range.1 hk, List.mem_range.1 hc.1, hc.2, rfl⟩
theorem gatesM_lt {n : Nat} {g : Nat × List Nat} (hg : g ∈ gatesM n) : (∀ y ∈ g.2, y < n) ∧ 0 < g.2.length ∧ g.2.length ≤ 3 := by
 obtain ⟨k, c, hk, hc, hp, rfl⟩ := gatesM_ok hg
 unfold pickM at hp
 simp only [Bool.and_eq_true, decide_eq_true_eq] at hp
 refine ⟨fun y hy => ?_, by simp [gateOfM], by simp [gateOfM]; omega⟩
 unfold gateOfM at hy
 rw [List.mem_append] at hy
 rcases hy with hy | hy
 ·exact wires_lt hc y hy
 ·simp at hy; omega
theorem gatesM_len {n : Nat} (hn : n ≤ 3) : (gatesM n).length ≤ 12 := by
 have : n = 0 ∨ n = 1 ∨ n = 2 ∨ n = 3 := by omega
 rcases this with rfl | rfl | rfl | rfl <;> decide +kernel
/-! ### How many there can be -/
def wt : Nat → Nat
  | 0 => 1
  | d + 1 => 1 + 12 * wt d
theorem wt_pos : ∀ d, 1 ≤ wt d
 | 0 => Nat.le_refl _
 | d + 1 => by simp only [wt]; omega
def potS (most : Nat) (L : List Met) : Nat := (L.map fun e => wt (most - e.many)).sum
theorem potS_append (most : Nat) (L R : List Met) : potS most (L ++ R) = potS most L + potS most R := by simp [potS]
theorem potS_len (most : Nat) (L : List Met) : L.length ≤ potS most L := by
 induction L with
 | nil => exact Nat.le_refl _
 | cons e L ih =>
  have := wt_pos (most - e.many)
  simp only [potS, List.map_cons, List.sum_cons, List.length_cons] at ih ⊢
  omega
structure RunOk (n most i : Nat) (L : List Met) : Prop where
  le : i ≤ L.length
  pot : i + potS most (L.drop i) ≤ wt most
  many : ∀ e ∈ L, e.many ≤ most
  tab : ∀ e ∈ L, TabOk n e.tab
theorem RunOk.len {n most i : Nat} {L : List Met} (h : RunOk n most i L) : L.length ≤ wt most := by
 have h1 := potS_len most (L.drop i)
 have h2 := h.pot
 rw [List.length_drop] at h1
 have := h.le
 omega
theorem RunOk.start {n most : Nat} : RunOk n most 0 [met0 n] :=
 ⟨Nat.zero_le _, by simp [potS, met0], fun e he => by simp at he; subst he; exact Nat.zero_le _, fun e he => by simp at he; subst he; exact TabOk.id n⟩
/-- Within a round: some gates have been tried. -/
structure AddOk (n most i k : Nat) (e : Met) (L0 L : List Met) : Prop where
  pre : ∃ R, L = L0 ++ R ∧ R.length ≤ k ∧ ∀ x ∈ R, x.many = e.many + 1 ∧ TabOk n x.tab
theorem AddOk.step {n most i k : Nat} {e : Met} {L0 L : List Met} {g : Nat × List Nat} (h : AddOk n most i k e L0 L) (he : TabOk n e.tab) (hg : g ∈ gatesM n) : AddOk n most i (k + 1) e L0 (tryR n e g k L) := by
 obtain ⟨R, rfl, hR, hx⟩ := h.pre
 unfold tryR
 split
 ·exact ⟨R, rfl, by omega, hx⟩
 ·obtain ⟨h1, h2, _⟩ := gatesM_lt hg
  refine ⟨R ++ [⟨nextT n g e.tab, e.tab, k, e.many + 1⟩], by rw [List.append_assoc], by simp; omega, fun x hxx => ?_⟩
  rw [List.mem_append] at hxx
  rcases hxx with hxx | hxx
  ·exact hx x hxx
  ·simp at hxx; subst hxx
   exact ⟨rfl, he.next h1 h2⟩
theorem AddOk.done {n most i : Nat} {e : Met} {L0 L : List Met} {k : Nat} (h : AddOk n most i k e L0 L) (hk : k ≤ 12) (hr : RunOk n most i L0) (hi : L0[i]? = some e) (hm : e.many ≠ most) : RunOk n most (i + 1) L := by
 obtain ⟨R, rfl, hR, hx⟩ := h.pre
 have hil := (List.getElem?_eq_some_iff.1 hi).1
 have hem := hr.many e (List.mem_of_getElem? hi)
 have hdrop : L0.drop i = e :: L0.drop (i + 1) := by
  rw [List.drop_eq_getElem_cons hil, (List.getElem?_eq_some_iff.1 hi).2]
 have hpot := hr.pot
 rw [hdrop] at hpot
 have h1 : potS most (e :: L0.drop (i + 1)) = wt (most - e.many) + potS most (L0.drop (i + 1)) := by simp [potS]
 rw [h1] at hpot
 have h2 : potS most R ≤ 12 * wt (most - e.many - 1) := by
  have : ∀ (R : List Met), (∀ x ∈ R, x.many = e.many + 1) → potS most R = R.length * wt (most - e.many - 1) := by
   intro R
   induction R with
   | nil => intro _; simp [potS]
   | cons x R ih =>
    intro h
    have hx := h x (by simp)
    have := ih fun y hy => h y (by simp [hy])
    simp only [potS, List.map_cons, List.sum_cons, List.length_cons] at this ⊢
    rw [this, hx, Nat.add_mul, Nat.one_mul, show most - (e.many + 1) = most - e.many - 1 by omega]
    omega
  rw [this R fun x h => (hx x h).1]
  exact Nat.mul_le_mul_right _ (by omega)
 have h3 : wt (most - e.many) = 1 + 12 * wt (most - e.many - 1) := by
  obtain ⟨d, hd⟩ : ∃ d, most - e.many = d + 1 := ⟨most - e.many - 1, by omega⟩
  rw [hd]; rfl
 refine ⟨by rw [List.length_append]; omega, ?_, fun x hxx => ?_, fun x hxx => ?_⟩
 ·rw [List.drop_append_of_le_length (by omega), potS_append]
  omega
 ·rw [List.mem_append] at hxx
  rcases hxx with hxx | hxx
  ·exact hr.many x hxx
  ·have := (hx x hxx).1; omega
 ·rw [List.mem_append] at hxx
  rcases hxx with hxx | hxx
  ·exact hr.tab x hxx
  ·exact (hx x hxx).2
theorem RunOk.skip {n most i : Nat} {e : Met} {L : List Met} (hr : RunOk n most i L) (hi : L[i]? = some e) (hm : e.many = most) : RunOk n most (i + 1) L := by
 have hil := (List.getElem?_eq_some_iff.1 hi).1
 have hdrop : L.drop i = e :: L.drop (i + 1) := by
  rw [List.drop_eq_getElem_cons hil, (List.getElem?_eq_some_iff.1 hi).2]
 have hpot := hr.pot
 rw [hdrop] at hpot
 have h1 : potS most (e :: L.drop (i + 1)) = wt (most - e.many) + potS most (L.drop (i + 1)) := by simp [potS]
 rw [h1] at hpot
 have := wt_pos (most - e.many)
 exact ⟨by omega, by omega, hr.many, hr.tab⟩
theorem wt_le {d : Nat} (h : d ≤ 4) : wt d ≤ 22621 := by
 have : d = 0 ∨ d = 1 ∨ d = 2 ∨ d = 3 ∨ d = 4 := by omega
 rcases this with rfl | rfl | rfl | rfl | rfl <;> decide
theorem triesR_step (n : Nat) (e : Met) : ∀ (gs : List (Nat × List Nat)) (k : Nat) (L : List Met) (g : Nat × List Nat), triesR n e (gs ++ [g]) k L = tryR n e g (k + gs.length) (triesR n e gs k L)
 | [], k, L, g => rfl
 | h :: gs, k, L, g => by
  simp only [List.cons_append, triesR, List.length_cons]
  rw [triesR_step n e gs (k + 1) _ g, show k + 1 + gs.length = k + (gs.length + 1) by omega]
end Go.AM

/-! R9 -/
namespace Go.AM
open Go.Proofs
theorem bytes109 : ∃ k, bytesOf' Tryd.prog 109 = some k ∧ k ≤ 1000 := by
 have h : (match bytesOf' Tryd.prog 109 with
  | some k => decide (k ≤ 1000)
  | none => false) = true := by kernel_rfl
 split at h
 ·rename_i k e; exact ⟨k, e, of_decide_eq_true h⟩
 ·cases h
theorem El112 : ElemT Tryd.prog 112 112 8 := by
 obtain ⟨k, h1, h2⟩ := bytes109
 exact ⟨_, _, _, k, T112, T112, rfl, S109, Z109, rfl, h1, h2, by decide⟩
theorem len8 {t : List Nat} (h : t.length = 8) : ∃ a0 a1 a2 a3 a4 a5 a6 a7, t = [a0, a1, a2, a3, a4, a5, a6, a7] := by
 match t, h with
 | [a0, a1, a2, a3, a4, a5, a6, a7], _ => exact ⟨_, _, _, _, _, _, _, _, rfl⟩
theorem B116s {t : List Nat} (ht : t.length = 8) {k q : Nat} : aBuild Tryd.prog 116 [(0, smV t), (1, nv k), (2, nv q)] = some (.agg (cellsN t ++ #[nv k, nv q])) := by
 obtain ⟨a0, a1, a2, a3, a4, a5, a6, a7, rfl⟩ := len8 ht
 kernel_rfl
theorem B116i : aBuild Tryd.prog 116 [(1, .int .i64 (-1))] = some (stepV ⟨[], [0, 0, 0, 0, 0, 0, 0, 0], -1, 0⟩) := by kernel_rfl
theorem fld116_2 {e : Met} (h : e.src.length = 8) : aField Tryd.prog 116 (stepV e) 2 = some (nv e.many) := by
 obtain ⟨t, s, g, q⟩ := e
 obtain ⟨a0, a1, a2, a3, a4, a5, a6, a7, rfl⟩ := len8 h
 kernel_rfl
theorem stepV_size {e : Met} (h : e.src.length = 8) : (cellsN e.src ++ #[Value.int .i64 e.gate, nv e.many]).size = 10 := by simp [h]
theorem one_nums {l : List Nat} : (cellsN l).all Value.oneCell' = true := all_of_get fun i v hi => by
 unfold cellsN at hi; simp at hi; obtain ⟨x, _, rfl⟩ := hi; rfl
theorem one_step {l : List Nat} {g : Int} {q : Nat} : (cellsN l ++ #[Value.int .i64 g, nv q]).all Value.oneCell' = true := all_of_get fun i v hi => by
 by_cases h : i < (cellsN l).size
 ·rw [Array.getElem?_append_left h] at hi; exact all_get one_nums hi
 ·rw [Array.getElem?_append_right (by omega)] at hi
  have : i - (cellsN l).size = 0 ∨ i - (cellsN l).size = 1 ∨ 2 ≤ i - (cellsN l).size := by omega
  rcases this with h | h | h
  ·rw [h] at hi; simp at hi; subst hi; rfl
  ·rw [h] at hi; simp at hi; subst hi; rfl
  ·rw [Array.getElem?_eq_none_iff.2 (by simp only [List.size_toArray, List.length_cons, List.length_nil]; omega)] at hi; cases hi
theorem fill8 {t : List Nat} (ht : t.length = 8) : Instr.fill (fun i => some (i * 8, 8)) (if 1 * 8 = 0 then #[] else (Array.range (1 * 8)).map ((Value.agg #[nv 0, nv 0, nv 0, nv 0, nv 0, nv 0, nv 0, nv 0]).cells[· % (Value.agg #[nv 0, nv 0, nv 0, nv 0, nv 0, nv 0, nv 0, nv 0]).cells.size]!)) [(0, smV t)] = some (cellsN t) := by
 obtain ⟨a0, a1, a2, a3, a4, a5, a6, a7, rfl⟩ := len8 ht
 kernel_rfl
/-- The cells of tables. -/
def tabsC (L : List Met) : Array Value := cellsN (L.flatMap Met.tab)
theorem tabsC_append (L : List Met) (e : Met) : tabsC (L ++ [e]) = tabsC L ++ cellsN e.tab := by
 simp [tabsC, cellsN, List.flatMap_append]
theorem tabs_at {L : List Met} (h : ∀ e ∈ L, e.tab.length = 8) : ∀ (i : Nat) (e : Met), L[i]? = some e → ∀ j, j < 8 → (L.flatMap Met.tab)[i * 8 + j]? = e.tab[j]? := by
 induction L with
 | nil => intro i e hi; cases i <;> cases hi
 | cons x L ih =>
  intro i e hi j hj
  rw [List.flatMap_cons]
  have hx := h x (by simp)
  cases i with
  | zero =>
   simp at hi; subst hi
   rw [Nat.zero_mul, Nat.zero_add, List.getElem?_append_left (by omega)]
  | succ i =>
   rw [List.getElem?_append_right (by omega), show (i + 1) * 8 + j - x.tab.length = i * 8 + j by omega]
   exact ih (fun y hy => h y (by simp [hy])) i e (by simpa using hi) j hj
theorem tab_extract {L : List Met} {c : Array Value} (h : ∀ e ∈ L, e.tab.length = 8) (hc : ∀ i, i < L.length * 8 → c[i]? = (tabsC L)[i]?) {i : Nat} {e : Met} (hi : L[i]? = some e) (hs : L.length * 8 ≤ c.size) : c.extract (0 + i * 8) (0 + i * 8 + 8) = cellsN e.tab := by
 have hil := (List.getElem?_eq_some_iff.1 hi).1
 have het := h e (List.mem_of_getElem? hi)
 apply Array.ext_getElem?
 intro j
 rw [Array.getElem?_extract]
 by_cases hj : j < 8
 ·rw [if_pos (by omega), Nat.zero_add, hc _ (by omega)]
  unfold tabsC cellsN
  simp only [List.getElem?_toArray, List.getElem?_map]
  rw [tabs_at h i e hi j hj]
 ·rw [if_neg (by omega)]
  exact (Array.getElem?_eq_none_iff.2 (by simp; omega)).symm
structure RI (m M0 : Mem) (Z1 : Nat) (L : List Met) (m' : Mem) (va : Value) : Prop where
  low : Low m.size m m'
  size : M0.size ≤ m'.size
  keep : ∀ b, Z1 ≤ b → b < M0.size → Mem.get m' b = Mem.get M0 b
  map : Mem.get m' m.size = .map true (metV L)
  all : OwnC (m.size + 1) m' va 8 L.length (tabsC L)
  blk : ∀ b, blkOf va = some b → b < Z1 ∨ M0.size ≤ b
theorem RI.ext {m M0 : Mem} {Z1 : Nat} {L : List Met} {m' m'' : Mem} {va : Value} (h : RI m M0 Z1 L m' va) (he : Ext m' m'') (hm : m.size < m'.size) : RI m M0 Z1 L m'' va :=
 ⟨h.low.trans (.of_ext he (by omega)), by have := he.1; have := h.size; omega, fun b h1 h2 => (he.2 b (by have := h.size; omega)).trans (h.keep b h1 h2), (he.2 _ hm).trans h.map, h.all.ext he, h.blk⟩
theorem RI.other {m M0 : Mem} {Z1 : Nat} {L : List Met} {m' : Mem} {va : Value} {lp : Nat} {o : AObj} (h : RI m M0 Z1 L m' va) (hl : M0.size ≤ lp) (hm : m.size < M0.size) (hv : blkOf va ≠ some lp) : RI m M0 Z1 L (m'.setIfInBounds lp o) va := by
 refine ⟨h.low.trans (.set (by omega) _), by simpa using h.size, fun b h1 h2 => (gSn (by omega)).trans (h.keep b h1 h2), (gSn (by omega)).trans h.map, ?_, h.blk⟩
 rcases h.all with h1 | ⟨b, cap, c, e, h2, h3, h4⟩
 ·exact .inl h1
 ·exact .inr ⟨b, cap, c, e, h2, (gSn (fun q => hv (by rw [e, q]; rfl))).trans h3, h4⟩
end Go.AM

/-! N1 -/
namespace Go.AM
open Go.Proofs
def KeyOk (L : List Met) : Prop := ∀ e ∈ L, metFind e.tab L = some e
theorem metFind_append (t : List Nat) (L R : List Met) : metFind t (L ++ R) = (metFind t L).or (metFind t R) := by
 unfold metFind; rw [List.find?_append]
theorem KeyOk.one (e : Met) : KeyOk [e] := fun x hx => by
 simp at hx; subst hx; simp [metFind]
theorem KeyOk.add {L : List Met} {e : Met} (h : KeyOk L) (hn : metFind e.tab L = none) : KeyOk (L ++ [e]) := fun x hx => by
 rw [List.mem_append] at hx
 rw [metFind_append]
 rcases hx with hx | hx
 ·rw [h x hx]; rfl
 ·simp at hx; subst hx
  rw [hn]; simp [metFind]
theorem runR_step {n most i : Nat} {e : Met} {L : List Met} (hi : L[i]? = some e) (h : i < 30000) : runR n most (30000 - i) i L = runR n most (30000 - (i + 1)) (i + 1) (roundR n most e L) := by
 obtain ⟨f, hf⟩ : ∃ f, 30000 - i = f + 1 := ⟨30000 - i - 1, by omega⟩
 rw [hf, show 30000 - (i + 1) = f by omega]
 simp only [runR, hi]
theorem runR_end {n most i : Nat} {L : List Met} (hi : L[i]? = none) : ∀ f, runR n most f i L = L
 | 0 => rfl
 | f + 1 => by simp only [runR, hi]
def stepOf (n : Nat) (e : Met) (g : Nat × List Nat) (k : Nat) : Met := ⟨nextT n g e.tab, e.tab, k, e.many + 1⟩
def metC : Option Met → Array Value
  | some e => cellsN e.src ++ #[.int .i64 e.gate, nv e.many]
  | none => #[nv 0, nv 0, nv 0, nv 0, nv 0, nv 0, nv 0, nv 0, nv 0, nv 0]
theorem metC_size {o : Option Met} (h : ∀ e, o = some e → e.src.length = 8) : (metC o).size = 10 := by
 cases o with
 | none => rfl
 | some e => exact stepV_size (h e rfl)
theorem metC_one (o : Option Met) : (metC o).all Value.oneCell' = true := by
 cases o with
 | none => decide +kernel
 | some e => exact one_step
theorem look_met2 {m : Mem} {r : Nat} {b : Bool} {t : List Nat} {L : List Met} (ht : t.length = 8) (hL : ∀ e ∈ L, e.tab.length = 8) (hr : Mem.get m r = .map b (metV L)) :
  aLookup Tryd.prog m 111 (.map (some r)) (smV t) true = some (.tuple #[.agg (metC (metFind t L)), .bool (metFind t L).isSome]) := by
 rw [look_met ht hL hr]
 cases metFind t L <;> rfl
theorem metFind_src {t : List Nat} {L : List Met} (h : ∀ e ∈ L, e.src.length = 8) : ∀ e, metFind t L = some e → e.src.length = 8 := fun e he => h e (List.mem_of_find?_eq_some he)
theorem metFind_tab {t : List Nat} {L : List Met} {e : Met} (h : metFind t L = some e) : e.tab = t ∧ e ∈ L := by
 have h1 := List.find?_some h
 exact ⟨(of_decide_eq_true h1).symm, List.mem_of_find?_eq_some h⟩
theorem nextUp_set {g : Nat × List Nat} {t : List Nat} {i : Nat} (ht : t.length = 8) (h : i < 8) : (nextUp g t i).set i (turnM (t.getD i 0) g.2) = nextUp g t (i + 1) := by
 apply List.ext_getElem?
 intro k
 rw [List.getElem?_set]
 unfold nextUp
 by_cases hk : k < 8
 ·simp only [List.length_map, List.length_range, List.getElem?_map, List.getElem?_range hk, Option.map_some]
  by_cases hik : i = k
  ·subst hik; rw [if_pos rfl, if_pos h, if_pos (by omega)]
  ·rw [if_neg hik]
   congr 1
   by_cases h1 : k < i
   ·rw [if_pos h1, if_pos (by omega)]
   ·rw [if_neg h1, if_neg (by omega)]
 ·rw [if_neg (by omega)]
  rw [List.getElem?_eq_none (by simp; omega), List.getElem?_eq_none (by simp; omega)]
theorem nextUp_len (g : Nat × List Nat) (t : List Nat) (i : Nat) : (nextUp g t i).length = 8 := by simp [nextUp]
theorem nextUp_zero {g : Nat × List Nat} {t : List Nat} (ht : t.length = 8) : nextUp g t 0 = t := by
 obtain ⟨a0, a1, a2, a3, a4, a5, a6, a7, rfl⟩ := len8 ht
 rfl
end Go.AM

/-! R10 -/
namespace Go.AM
open Go.Proofs
theorem okf88 : okF Tryd.prog H0 88 87 = true := by kernel_rfl
theorem spec_reached {m : Mem} {n most : Nat} (hn : n ≤ 3) (hmost : most ≤ 4) : ∃ v m', ACalls Tryd.prog 88 #[nv n, nv most] m v m' ∧ (∃ va, v = .tuple #[.map (some m.size), va] ∧ Mem.get m' m.size = .map true (metV (reachM n most)) ∧ Low m.size m m' ∧ (∀ e ∈ reachM n most, TabOk n e.tab ∧ e.src.length = 8) ∧ KeyOk (reachM n most) ∧ (reachM n most).length ≤ 22621) := by
 have h8 := two_pow3 hn
 have hwt := wt_le hmost
 have hgl := gatesM_len hn
 refine wpF (args := [_, _]) mixed okf88 (fn := Tryd.f88) rfl rfl rfl (by simp) ?_
 refine cSR ?_
 refine sAs (v := .map _) rfl ?_
 refine sAs (v := .slice _ _ _) rfl ?_
 refine sN ?_
 refine cSR ?_
 refine sMkMap ?_
 refine sMn rfl ?_
 obtain ⟨v19, m19, h19, rfl, e19⟩ := spec_identity (m := m.push (.map true [])) hn
 refine sCall1 rfl call87 rfl h19 ?_
 have g19 : Mem.get m19 m.size = .map true (metV []) := (e19.2 _ (by simp)).trans (gP rfl)
 have z19 := e19.1
 simp only [Array.size_push] at z19
 refine sBuild (v := stepV (met0 n)) B116i ?_
 refine sO (v := Go.undef) (m' := m19.setIfInBounds m.size (.map true (metV ([] ++ [met0 n])))) (opF_eff rfl rfl (congrArg (Option.map fun m' => (Go.undef, m')) (upd_met (e := met0 n) (L := []) (by simp [met0, idM]) (fun e he => by cases he) g19 rfl))) ?_
 have g1 : Mem.get (m19.setIfInBounds m.size (.map true (metV ([] ++ [met0 n])))) m.size = .map true (metV [met0 n]) := gS rfl (by omega)
 have lo1 : Low m.size m (m19.setIfInBounds m.size (.map true (metV ([] ++ [met0 n])))) := (Low.of_ext ((Ext.push _ _).trans e19) (Nat.le_refl _)).trans (.set (Nat.le_refl _) _)
 have zz1 : m.size + 1 ≤ (m19.setIfInBounds m.size (.map true (metV ([] ++ [met0 n])))).size := by simpa using z19
 generalize m19.setIfInBounds m.size (.map true (metV ([] ++ [met0 n]))) = m1 at *
 refine sMv (v := .map _) rfl ?_
 refine sAs (v := .map _) rfl ?_
 refine sN ?_
 refine cSR ?_
 refine sMn rfl ?_
 obtain ⟨v23, m23, h23, rfl, e23⟩ := spec_identity (m := m1) hn
 refine sCall1 rfl call87 rfl h23 ?_
 have z23 := e23.1
 refine sBuildS (c := cellsN (idM n)) T112 S109 Z109 (by decide) (by decide) (by decide) (by kernel_rfl) (fill8 (TabOk.id n).1) (by simp [idM]) ?_
 refine sAs (v := .slice _ _ _) rfl ?_
 refine sN ?_
 refine cSR ?_
 refine sMn rfl ?_
 obtain ⟨v26, m26, h26, cl, o26, e26⟩ := spec_gates (m := m23.push (.cells true (cellsN (idM n)))) hn
 refine sCall1 rfl call89 rfl h26 ?_
 have z26 := e26.1
 simp only [Array.size_push] at z26
 obtain ⟨ql, capl, rfl⟩ := o26.1.len
 have hmM : m.size < m26.size := by omega
 have hRI : RI m m26 (m23.size + 1) [met0 n] m26 (.slice (some ⟨m23.size, 0, some 8⟩) 1 1) := by
  have he : Ext m1 m26 := (e23.trans (.push _ _)).trans e26
  refine ⟨lo1.trans (Low.of_ext he (by omega)), Nat.le_refl _, fun _ _ _ => rfl, (he.2 _ (by omega)).trans g1, .inr ⟨m23.size, 1, cellsN (idM n), rfl, by omega, e26.cells (gP rfl), Nat.le_refl _, by simp [idM], by simp [tabsC, met0, idM], fun i _ => by simp [tabsC, met0]⟩, fun b hb => ?_⟩
  obtain rfl : m23.size = b := Option.some.inj hb
  exact .inl (by omega)
 simp only [Array.size_push] at o26
 generalize hZ1 : m23.size + 1 = Z1 at *
 refine sAs (v := .slice _ _ _) rfl ?_
 refine sN ?_
 refine cSeq (cSR ?_)
 refine sAn rfl ?_
 refine sN ?_
 refine cBlock ?_
 refine wpC_loop (fun k ρ m' => ∃ i L va, k = 22622 - i ∧ RunOk n most i L ∧ KeyOk L ∧ (∀ e ∈ L, e.src.length = 8) ∧ runR n most (30000 - i) i L = reachM n most ∧ RI m m26 Z1 L m' va ∧ Has ρ [(0, nv n), (1, nv most), (6, .map (some m.size)), (7, va), (8, .slice ql (gatesM n).length capl), (9, nv i)]) ⟨0, [met0 n], _, rfl, .start, .one _, fun e he => by simp at he; subst he; rfl, rfl, hRI, rfl, rfl, rfl, rfl, rfl, rfl, trivial⟩ ?_
 rintro k ρ m' ⟨i, L, va, rfl, hrun, hkey, hsrc, hre, hR, hh⟩
 obtain ⟨qa, capa, rfl⟩ := hR.all.len
 rw [hh.env]; clear hh
 have hLl := hrun.len
 have hmm' : m.size < m'.size := by have := hR.size; omega
 refine cSeq (cSR ?_)
 refine sMn rfl ?_
 refine sMs rfl ?_
 refine sLen T112 rfl ?_
 refine sBin rfl rfl (aInt_lss) ?_
 refine sN ?_
 refine cCond rfl (fun c0 => ?_) (fun c0 => ?_)
 ·
  obtain ⟨e, hi⟩ : ∃ e, L[i]? = some e := ⟨_, List.getElem?_eq_getElem c0⟩
  have heL := List.mem_of_getElem? hi
  have hte := (hrun.tab e heL).1
  have hse := hsrc e heL
  have hL8 : ∀ e ∈ L, e.tab.length = 8 := fun x hx => (hrun.tab x hx).1
  obtain ⟨ba, cp, ca, ea, hNa, ga, hsa, hca⟩ := hR.all.at (by omega)
  cases ea
  have hva0 : ba < m'.size := live ga
  refine cSkip (kSeqN ?_)
  refine cSeq (cBlock (cSR ?_))
  refine sMs rfl ?_
  refine sMn rfl ?_
  refine sIx T112 S109 rfl rfl c0 ?_
  refine sLdA A109 S109 rfl ga (by omega) ?_
  rw [tab_extract hL8 hca hi hsa]
  refine sAlloc Z109 (by kernel_rfl) ?_
  refine sStNA S109 rfl rfl rfl (by simp [hte]) one_nums ?_
  have hR1 := hR.ext (.push m' (.cells true (cellsN e.tab))) hmm'
  have h10 : Mem.get (m'.push (.cells true (cellsN e.tab))) m'.size = .cells true (cellsN e.tab) := gP rfl
  refine sN ?_
  refine cSeq (cSR ?_)
  refine sMv (v := .map _) rfl ?_
  refine sLdAll A109 S109 rfl h10 (by simp [hte]) ?_
  refine sO (v := stepV e) (opF_read rfl ((look_met (ok := false) hte hL8 hR1.map).trans (by rw [hkey e heL]; rfl))) ?_
  refine sP (v := nv e.many) (fld116_2 hse) ?_
  refine sMn rfl ?_
  refine sBin (a := e.many) (b := most) rfl rfl aInt_eql ?_
  refine sN ?_
  refine cCond (p := e.many = most) rfl (fun c1 => ?_) (fun c1 => ?_)
  ·
   refine cExit (kSeqE (kBlkS (kSeqN ?_)))
   refine cRegion ?_
   refine sMn rfl ?_
   refine sBin rfl rfl (aInt_add (b := 1) (by omega)) ?_
   refine sAn rfl ?_
   refine sN ?_
   refine ⟨_, ?_, i + 1, L, _, rfl, hrun.skip hi c1, hkey, hsrc, ?_, hR1, rfl, rfl, rfl, rfl, rfl, rfl, trivial⟩
   ·omega
   ·rw [← hre, runR_step hi (by omega), roundR, if_pos c1]
  ·
   skip
   refine cSkip (kSeqN ?_)
   refine cSR ?_
   refine sMs rfl ?_
   refine sLen T28 rfl ?_
   refine sMv (v := nv 0) rfl ?_
   refine sN ?_
   refine cBlock ?_
   refine wpC_loop (fun k' ρ m2 => ∃ k L' va', k' = (gatesM n).length - k ∧ k ≤ (gatesM n).length ∧ AddOk n most i k e L L' ∧ L' = triesR n e ((gatesM n).take k) 0 L ∧ KeyOk L' ∧ (∀ x ∈ L', x.src.length = 8 ∧ TabOk n x.tab) ∧ RI m m26 Z1 L' m2 va' ∧ m'.size < m2.size ∧ Mem.get m2 m'.size = .cells true (cellsN e.tab) ∧ (∀ b, blkOf va' = some b → b ≠ m'.size) ∧ Has ρ [(0, nv n), (1, nv most), (6, .map (some m.size)), (7, va'), (8, .slice ql (gatesM n).length capl), (9, nv i), (10, .pointer (some ⟨m'.size, 0, none⟩)), (43, .slice ql (gatesM n).length capl), (44, nv (gatesM n).length), (45, nv k)]) ⟨0, L, _, rfl, Nat.zero_le _, ⟨[], by simp, Nat.le_refl _, fun x hx => by cases hx⟩, rfl, hkey, fun x hx => ⟨hsrc x hx, hrun.tab x hx⟩, hR1, by simp, h10, fun b hb => by have e' : ba = b := Option.some.inj hb; omega, rfl, rfl, rfl, rfl, rfl, rfl, rfl, rfl, rfl, rfl, trivial⟩ ?_
   rintro k' ρ m2 ⟨k, L', va', rfl, hk, hadd, hL', hkey', hx', hR2, hz2, h102, hvb, hh⟩
   obtain ⟨qb, capb, rfl⟩ := hR2.all.len
   rw [hh.env]; clear hh
   have hmm2 : m.size < m2.size := by omega
   have hL8' : ∀ e ∈ L', e.tab.length = 8 := fun x hx => (hx' x hx).2.1
   have hLl' : L'.length ≤ 22633 := by
    obtain ⟨R0, rfl, hRl, _⟩ := hadd.pre
    rw [List.length_append]; omega
   refine cSR ?_
   refine sBin rfl rfl (aInt_lss) ?_
   refine sN ?_
   refine cSeq ?_
   refine cCond rfl (fun c2 => ?_) (fun c2 => ?_)
   ·
    obtain ⟨g, hgi⟩ : ∃ g, (gatesM n)[k]? = some g := ⟨_, List.getElem?_eq_getElem c2⟩
    have hgm := List.mem_of_getElem? hgi
    obtain ⟨hglt, hg0, hg3⟩ := gatesM_lt hgm
    have hOl : OwnG Z1 m2 (.slice ql (gatesM n).length capl) cl (gatesM n) := o26.up fun b h1 h2 => hR2.keep b h1 h2
    obtain ⟨bl, cpl, cc, ws, el, gl, hcl, hexl, hws⟩ := hOl.gate hgi
    cases el
    obtain ⟨qw, cw, rfl⟩ := hws.ints.lenN
    have hvlt : ∀ b, blkOf (.slice qb L'.length capb) = some b → b < m2.size := fun b hb => (hR2.all.lt hb).2
    refine cSkip (kSeqN ?_)
    refine cSeq (cBlock (cSR ?_))
    refine sMn rfl ?_
    refine sIx T28 S49 rfl rfl c2 ?_
    refine sLdA A49 S49 rfl gl (by omega) ?_
    rw [hexl]
    refine sAlloc Z49 (by kernel_rfl) ?_
    refine sAn rfl ?_
    refine sStNA S49 rfl rfl rfl rfl (by kernel_rfl) ?_
    have hR3 := hR2.ext (.push m2 (.cells true #[nv g.1, .slice qw g.2.length cw, nv 0, nv 0])) hmm2
    have h103 : Mem.get (m2.push (.cells true #[nv g.1, .slice qw g.2.length cw, nv 0, nv 0])) m'.size = .cells true (cellsN e.tab) := (gPn hz2).trans h102
    refine sN ?_
    refine cSR ?_
    refine sLdAll A109 S109 rfl h103 (by simp [hte]) ?_
    refine sAllocB (bl := m2.size + 1) (by simp) Z109 (by kernel_rfl) ?_
    refine sStNAB (by simp) S109 rfl rfl rfl (by simp [hte]) one_nums ?_
    refine sN ?_
    refine cSeq (cSR ?_)
    refine sMn rfl ?_
    obtain ⟨v52, m52, h52, rfl, rfl⟩ := spec_states (m := (m2.push (.cells true #[nv g.1, .slice qw g.2.length cw, nv 0, nv 0])).push (.cells true (cellsN e.tab))) (n := n)
    refine sCall1 rfl call130 rfl h52 ?_
    have hzz : (((m2.push (.cells true #[nv g.1, .slice qw g.2.length cw, nv 0, nv 0])).push (.cells true (cellsN e.tab))).push (.cells true #[nv n])).size = m2.size + 3 := by simp
    refine sN ?_
    refine cBlock ?_
    refine cStates (n := n) (pp := ((m2.push (.cells true #[nv g.1, .slice qw g.2.length cw, nv 0, nv 0])).push (.cells true (cellsN e.tab))).size) (by kernel_rfl) (by kernel_rfl) rfl (by omega) (fun j m3 => RI m m26 Z1 L' m3 (.slice qb L'.length capb) ∧ Mem.get m3 m'.size = .cells true (cellsN e.tab) ∧ Mem.get m3 m2.size = .cells true #[nv g.1, .slice qw g.2.length cw, nv 0, nv 0] ∧ Mem.get m3 (m2.size + 1) = .cells true (cellsN (nextUp g e.tab j)) ∧ Mem.get m3 (m2.size + 2) = .cells true #[nv n] ∧ m2.size + 3 ≤ m3.size) (fun j m3 h => ⟨true, by simpa using h.2.2.2.2.1⟩) (fun o => ⟨((hR3.ext (.push _ _) (by simp only [Array.size_push]; omega)).ext (.push _ _) (by simp only [Array.size_push]; omega)).ext (.push _ _) (by simp only [Array.size_push]; omega), by rw [gPn (by simp only [Array.size_push]; omega), gPn (by simp only [Array.size_push]; omega), gPn (by simp only [Array.size_push]; omega)]; exact h103, by rw [gPn (by simp only [Array.size_push]; omega), gPn (by simp only [Array.size_push]; omega), gPn (by simp only [Array.size_push]; omega), gP rfl], by rw [gPn (by simp only [Array.size_push]; omega), gPn (by simp only [Array.size_push]; omega), gP (by simp), nextUp_zero hte], by rw [gPn (by simp only [Array.size_push]; omega), gP (by simp)], by simp⟩) ?_ ?_
    ·
     rintro R B j m3 hj hlp hlt ⟨hRj, k1, k2, k3, k4, k5⟩
     rw [hzz] at hlp hlt ⊢
     have hj8 : j < 8 := by omega
     have hRB := hRj.other (lp := m2.size + 3) (o := .loop B) (by have := hR2.size; omega) hmM (fun h => by have := hvlt _ h; omega)
     have k1' : Mem.get (m3.setIfInBounds (m2.size + 3) (.loop B)) m'.size = _ := (gSn (by omega)).trans k1
     have k2' : Mem.get (m3.setIfInBounds (m2.size + 3) (.loop B)) m2.size = _ := (gSn (by omega)).trans k2
     have k3' : Mem.get (m3.setIfInBounds (m2.size + 3) (.loop B)) (m2.size + 1) = _ := (gSn (by omega)).trans k3
     have k4' : Mem.get (m3.setIfInBounds (m2.size + 3) (.loop B)) (m2.size + 2) = _ := (gSn (by omega)).trans k4
     have kB : Mem.get (m3.setIfInBounds (m2.size + 3) (.loop B)) (m2.size + 3) = .loop B := gS rfl hlt
     have hlt' : m2.size + 3 < (m3.setIfInBounds (m2.size + 3) (.loop B)).size := by simpa using hlt
     refine cRegion ?_
     refine sAn rfl ?_
     refine sNil ?_
     refine ⟨rfl, hlp, ?_⟩
     generalize m3.setIfInBounds (m2.size + 3) (.loop B) = M at *
     have hOM : OwnG Z1 M (.slice (some ⟨bl, 0, some 4⟩) (gatesM n).length capl) cl (gatesM n) := o26.up fun b h1 h2 => hRB.keep b h1 h2
     obtain ⟨bl2, cpl2, cc2, ws2, el2, gl2, hcl2, hexl2, hws2⟩ := hOM.gate hgi
     have hwsM : OwnF Z1 M (.slice qw g.2.length cw) (ofs g.2) := by
      cases el2
      have hcc : cc2 = cc := by
       have h1 := gl2
       have h2 := gl
       have h3 : Mem.get M bl = Mem.get m2 bl := by
        have hb1 := (o26.1.lt (b := bl) rfl)
        rw [hRB.keep bl hb1.1 hb1.2, hR2.keep bl hb1.1 hb1.2]
       rw [h3, h2] at h1
       injection h1 with _ h1; exact h1.symm
      subst hcc
      rw [hexl] at hexl2
      have h4 := congrArg (fun a : Array Value => a[1]?) hexl2
      simp at h4
      rw [h4]; exact hws2
     refine cBlock ?_
     refine cDraw rfl ?_
     refine sMn rfl ?_
     refine sMn rfl ?_
     refine sIxA T109 S3 rfl rfl hj8 ?_
     refine sLd (v := nv (e.tab.getD j 0)) A3 rfl k1' (by rw [Nat.zero_add, Nat.mul_one]; exact cellsN_get (by rw [List.getD_eq_getElem?_getD, List.getElem?_eq_getElem (show j < e.tab.length by omega)]; rfl)) ?_
     refine sFA F49_1 rfl ?_
     refine sLd (v := .slice qw g.2.length cw) A22 rfl k2' rfl ?_
     obtain ⟨v60, m60, h60, rfl, e60⟩ := spec_turnedG (x := e.tab.getD j 0) hwsM hg0 hg3 (fun y hy => by have := hglt y hy; omega) (Nat.lt_of_lt_of_le ((hrun.tab e heL).getD j) (Nat.pow_le_pow_right (by decide) (by omega)))
     refine sCall2 rfl call76 rfl rfl h60 ?_
     have z60 := e60.1
     refine sIxA T109 S3 rfl rfl hj8 ?_
     refine sSt (v := nv (turnM (e.tab.getD j 0) g.2)) S3 rfl rfl (e60.cells k3') (by rw [cellsN_size, nextUp_len, Nat.zero_add, Nat.mul_one]; exact hj8) rfl rfl ?_
     rw [show (cellsN (nextUp g e.tab j)).setIfInBounds (0 + j * 1) (nv (turnM (e.tab.getD j 0) g.2)) = cellsN (nextUp g e.tab (j + 1)) by rw [Nat.zero_add, Nat.mul_one, cellsN_set, nextUp_set hte hj8]]
     refine sNil (kBlkN ?_)
     have hmM' : m.size < M.size := by omega
     have hnv : ∀ q, m2.size ≤ q → blkOf (.slice qb L'.length capb) ≠ some q := fun q hq h => by have := hvlt _ h; omega
     have hs26 := hR2.size
     refine ⟨rfl, ?_, ⟨?_, ?_, ?_, ?_, ?_, ?_⟩, ?_⟩
     ·rw [gSn (by omega), e60.2 _ (by omega)]; exact kB
     ·exact ((hRB.ext e60 hmM').other (by omega) hmM (hnv _ (by omega))).other (by omega) hmM (hnv _ (by omega))
     ·rw [gSn (by omega), gSn (by omega)]; exact e60.cells k1'
     ·rw [gSn (by omega), gSn (by omega)]; exact e60.cells k2'
     ·rw [gSn (by omega)]; exact gS rfl (by omega)
     ·rw [gSn (by omega), gSn (by omega)]; exact e60.cells k4'
     ·simp; omega
     ·simp; omega
    rintro m3 ⟨hRj, k1, k2, k3, k4, k5⟩ hlt hlp2
    rw [hzz] at hlt hlp2 ⊢
    have hs26 := hR2.size
    have hR4 := hRj.other (lp := m2.size + 3) (o := .dead) (by omega) hmM (fun h => by have := hvlt _ h; omega)
    have k1' : Mem.get (m3.setIfInBounds (m2.size + 3) .dead) m'.size = _ := (gSn (by omega)).trans k1
    have k3' : Mem.get (m3.setIfInBounds (m2.size + 3) .dead) (m2.size + 1) = .cells true (cellsN (nextT n g e.tab)) := (gSn (by omega)).trans k3
    have hlt' : m2.size + 3 < (m3.setIfInBounds (m2.size + 3) .dead).size := by simpa using hlt
    generalize m3.setIfInBounds (m2.size + 3) .dead = m4 at *
    have hnl : (nextT n g e.tab).length = 8 := nextUp_len _ _ _
    have hzi : L'[i]? = some e := by
     obtain ⟨R0, rfl, _, _⟩ := hadd.pre
     rw [List.getElem?_append_left (by have := (List.getElem?_eq_some_iff.1 hi).1; exact this)]; exact hi
    have heL' := List.mem_of_getElem? hzi
    refine (kBlkN (kSeqN ?_))
    refine cSR ?_
    refine sMv (v := .map _) rfl ?_
    refine sLdAll A109 S109 rfl k3' (by simp [hnl]) ?_
    refine sO (v := .tuple #[.agg (metC (metFind (nextT n g e.tab) L')), .bool (metFind (nextT n g e.tab) L').isSome]) (opF_read rfl (look_met2 hnl hL8' hR4.map)) ?_
    refine sMv (v := .tuple _) rfl ?_
    refine sP (v := .agg (metC (metFind (nextT n g e.tab) L'))) rfl ?_
    refine sP (v := .bool (metFind (nextT n g e.tab) L').isSome) rfl ?_
    refine sAlloc Z116 (by kernel_rfl) ?_
    refine sStNA S116 rfl rfl rfl (metC_size (metFind_src fun x hx => (hx' x hx).1)) (metC_one _) ?_
    have hR5 := hR4.ext (.push m4 (.cells true (metC (metFind (nextT n g e.tab) L')))) (by omega)
    have k15 := (gPn (o := .cells true (metC (metFind (nextT n g e.tab) L'))) (show m'.size < m4.size by omega)).trans k1'
    have k35 := (gPn (o := .cells true (metC (metFind (nextT n g e.tab) L'))) (show m2.size + 1 < m4.size by omega)).trans k3'
    have hz5 : (m4.push (.cells true (metC (metFind (nextT n g e.tab) L')))).size = m4.size + 1 := by simp
    generalize m4.push (.cells true (metC (metFind (nextT n g e.tab) L'))) = m5 at *
    refine sAb rfl ?_
    refine sN ?_
    refine cSR ?_
    refine sMb rfl ?_
    refine sP (v := .bool (decide ((metFind (nextT n g e.tab) L').isSome = false))) (by
     show some (Value.bool (!(metFind (nextT n g e.tab) L').isSome)) = _
     cases (metFind (nextT n g e.tab) L').isSome <;> rfl) ?_
    refine sN ?_
    refine cCond (p := (metFind (nextT n g e.tab) L').isSome = false) rfl (fun c3 => ?_) (fun c3 => ?_)
    ·
     have hnone : metFind (nextT n g e.tab) L' = none := by
      cases h : metFind (nextT n g e.tab) L' with
      | none => rfl
      | some x => rw [h] at c3; cases c3
     have htry : tryR n e g k L' = L' ++ [stepOf n e g k] := by unfold tryR; rw [hnone]; rfl
     refine cSeq ?_
     refine cDraw rfl ?_
     refine sMv (v := .map _) rfl ?_
     refine sLdAll A109 S109 rfl k35 (by simp [hnl]) ?_
     refine sLdAll A109 S109 rfl k15 (by simp [hte]) ?_
     refine sMn rfl ?_
     refine sMv (v := .map _) rfl ?_
     refine sLdAll A109 S109 rfl k15 (by simp [hte]) ?_
     refine sO (v := stepV e) (opF_read rfl ((look_met (ok := false) hte hL8' hR5.map).trans (by rw [hkey' e heL']; rfl))) ?_
     refine sP (v := nv e.many) (fld116_2 hse) ?_
     refine sBin (a := e.many) (b := 1) rfl rfl (aInt_add (by have := hrun.many e heL; omega)) ?_
     refine sBuild (v := stepV (stepOf n e g k)) (B116s hte) ?_
     refine sO (v := Go.undef) (m' := m5.setIfInBounds m.size (.map true (metV (L' ++ [stepOf n e g k])))) (opF_eff rfl rfl (congrArg (Option.map fun m' => (Go.undef, m')) (upd_met (e := (stepOf n e g k)) (L := L') hnl hL8' hR5.map hnone))) ?_
     have hz50 : m.size < m5.size := by omega
     have hall6 : OwnC (m.size + 1) (m5.setIfInBounds m.size (.map true (metV (L' ++ [stepOf n e g k])))) (.slice qb L'.length capb) 8 L'.length (tabsC L') := hR5.all.up fun b hb _ => gSn (by omega)
     have k36 := (gSn (m := m5) (o := .map true (metV (L' ++ [stepOf n e g k]))) (show m.size ≠ m2.size + 1 by omega)).trans k35
     have k16 := (gSn (m := m5) (o := .map true (metV (L' ++ [stepOf n e g k]))) (show m.size ≠ m'.size by omega)).trans k15
     have map6 : Mem.get (m5.setIfInBounds m.size (.map true (metV (L' ++ [stepOf n e g k])))) m.size = .map true (metV (L' ++ [stepOf n e g k])) := gS rfl hz50
     have low6 : Low m.size m (m5.setIfInBounds m.size (.map true (metV (L' ++ [stepOf n e g k])))) := hR5.low.trans (.set (Nat.le_refl _) _)
     have keep6 : ∀ b, Z1 ≤ b → b < m26.size → Mem.get (m5.setIfInBounds m.size (.map true (metV (L' ++ [stepOf n e g k])))) b = Mem.get m26 b := fun b h1 h2 => (gSn (by omega)).trans (hR5.keep b h1 h2)
     have hz6 : (m5.setIfInBounds m.size (.map true (metV (L' ++ [stepOf n e g k])))).size = m5.size := by simp
     generalize m5.setIfInBounds m.size (.map true (metV (L' ++ [stepOf n e g k]))) = m6 at *
     refine sN ?_
     refine cRegion ?_
     refine sMs rfl ?_
     refine sLdAll A109 S109 rfl k36 (by simp [hnl]) ?_
     refine sBuildS (c := cellsN (nextT n g e.tab)) T112 S109 Z109 (by decide) (by decide) (by decide) (by kernel_rfl) (fill8 hnl) (by simp [hnl]) ?_
     refine sAppC El112 rfl rfl (N := m.size + 1) (n := L'.length) (cs := tabsC L') (hall6.ext (.push _ _)) (gP rfl) (by simp [hnl]) one_nums (by simp; omega) (by omega) fun v' m7 hO7 hL7 hG7 => ?_
     obtain ⟨q7, cp7, rfl⟩ := hO7.len
     refine sAs (v := .slice _ _ _) rfl ?_
     refine sNil (kBlkN (kSeqN ?_))
     refine cRegion ?_
     refine sBin rfl rfl (aInt_add (b := 1) (by omega)) ?_
     refine sMn rfl ?_
     refine sN ?_
     have hz7 := hG7.1
     simp only [Array.size_push] at hz7
     have hk7 : ∀ b, b < m6.size → blkOf (.slice qb L'.length capb) ≠ some b → Mem.get m7 b = Mem.get m6 b := fun b hb hv => (hG7.2.1 b (by simp; omega) hv).trans (gPn hb)
     have hvb' : ∀ b, b ≤ m2.size → (∀ c, blkOf (.slice qb L'.length capb) = some c → c ≠ b) → blkOf (.slice qb L'.length capb) ≠ some b := fun b _ h e => h b e rfl
     refine ⟨_, ?_, k + 1, L' ++ [stepOf n e g k], _, rfl, by omega, by rw [← htry]; exact hadd.step (hrun.tab e heL) hgm, ?_, hkey'.add hnone, fun x hx => ?_, ⟨?_, ?_, fun b h1 h2 => ?_, ?_, ?_, fun b hb => ?_⟩, by omega, ?_, fun b hb => ?_, rfl, rfl, rfl, rfl, rfl, rfl, rfl, rfl, rfl, rfl, trivial⟩
     ·omega
     ·rw [List.take_add_one, hgi]
      simp only [Option.toList]
      rw [triesR_step, ← hL', List.length_take, Nat.min_eq_left hk, Nat.zero_add, htry]
     ·rw [List.mem_append] at hx
      rcases hx with hx | hx
      ·exact hx' x hx
      ·simp at hx; subst hx; exact ⟨hte, (hrun.tab e heL).next hglt hg0⟩
     ·exact low6.trans ((Low.push _ (by omega) _).trans (hL7.le (Nat.le_succ _)))
     ·omega
     ·rw [hk7 b (by omega) (fun e' => by rcases hR2.blk b e' with h | h <;> omega)]; exact keep6 b h1 h2
     ·rw [hk7 _ (by omega) (fun e' => by have := (hR2.all.lt e').1; omega)]; exact map6
     ·rw [List.length_append, tabsC_append]; exact hO7
     ·rcases hG7.2.2 with e' | ⟨b1, e', hb1⟩
      ·exact hR2.blk b (e'.symm.trans hb)
      ·have hb2 : some b1 = some b := e'.symm.trans hb
       injection hb2 with hb2; simp at hb1; right; omega
     ·rw [hk7 _ (by omega) (fun e' => hvb _ e' rfl)]; exact k16
     ·rcases hG7.2.2 with e' | ⟨b1, e', hb1⟩
      ·exact hvb b (e'.symm.trans hb)
      ·have hb2 : some b1 = some b := e'.symm.trans hb
       injection hb2 with hb2; simp at hb1; omega
    ·
     refine cSkip (kBlkN (kSeqN ?_))
     refine cRegion ?_
     refine sBin rfl rfl (aInt_add (b := 1) (by omega)) ?_
     refine sMn rfl ?_
     refine sN ?_
     have htry : tryR n e g k L' = L' := by unfold tryR; rw [if_pos (by cases h : (metFind (nextT n g e.tab) L').isSome with | true => rfl | false => exact absurd h c3)]
     refine ⟨_, ?_, k + 1, L', _, rfl, by omega, by rw [← htry]; exact hadd.step (hrun.tab e heL) hgm, ?_, hkey', hx', hR5, by omega, k15, hvb, rfl, rfl, rfl, rfl, rfl, rfl, rfl, rfl, rfl, rfl, trivial⟩
     ·omega
     ·rw [List.take_add_one, hgi]
      simp only [Option.toList]
      rw [triesR_step, ← hL', List.length_take, Nat.min_eq_left hk, Nat.zero_add, htry]
   ·
    obtain rfl : k = (gatesM n).length := by omega
    rw [List.take_length] at hL'
    refine cExit (kSeqE (kSeqE (kBlkS (kBlkN (kSeqN ?_)))))
    refine cRegion ?_
    refine sMn rfl ?_
    refine sBin rfl rfl (aInt_add (b := 1) (by omega)) ?_
    refine sAn rfl ?_
    refine sN ?_
    refine ⟨_, ?_, i + 1, L', _, rfl, hadd.done hgl hrun hi c1, hkey', fun x hx => (hx' x hx).1, ?_, hR2, rfl, rfl, rfl, rfl, rfl, rfl, trivial⟩
    ·omega
    ·rw [← hre, runR_step hi (by omega), roundR, if_neg c1, hL']
 ·
  obtain rfl : i = L.length := by have := hrun.le; omega
  have hfin : reachM n most = L := by rw [← hre]; exact runR_end (List.getElem?_eq_none (Nat.le_refl _)) _
  refine cExit (kSeqE (kSeqE (kBlkS (kSeqN ?_))))
  refine cSR ?_
  refine sMv (v := .map _) rfl ?_
  refine sMs rfl ?_
  refine sAs (v := .map _) rfl ?_
  refine sAs (v := .slice _ _ _) rfl ?_
  refine sN ?_
  refine cRet ?_
  exact ⟨.inr rfl, _, rfl, _, rfl, by rw [hfin]; exact hR.map, hR.low, by rw [hfin]; exact fun x hx => ⟨hrun.tab x hx, hsrc x hx⟩, by rw [hfin]; exact hkey, by rw [hfin]; omega⟩
end Go.AM
