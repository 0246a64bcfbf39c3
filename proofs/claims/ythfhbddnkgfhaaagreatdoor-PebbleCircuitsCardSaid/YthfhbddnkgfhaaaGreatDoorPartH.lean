/- Part 8 of the proof: Contracts of the program's functions. -/
import Derived.Test.YthfhbddnkgfhaaaGreatDoorPartG
import Derived.WideKeyElems2
import Derived.ChangeMaps
import Derived.Test.YthfhbddnkgfhaaaGreatDoorRows
import Derived.ProofKit
import Derived.LaidMore
import Derived.LaidHandle
import Derived.OpenShut
import Derived.Stop.Joined
import Derived.Below
import Derived.Carry
import Derived.ChangeSlices
import Derived.WideShapes
set_option linter.unusedVariables false
set_option linter.unusedSimpArgs false
/-! ### F20 -/
namespace Go.AM
open Go.Proofs Go.Proofs.YthfhbddnkgfhaaaGreatDoor Go.ChangeShapes
set_option maxRecDepth 100000
set_option linter.unusedVariables false
set_option linter.unusedSimpArgs false

theorem gAsk : Tryz.prog.globalNamed "spoondrift/pebble.asks" = some 1 := by kernel_rfl
theorem tAsk : (Tryz.prog.globals[1]?).map (·.type) = some 122 := by kernel_rfl
theorem gSize : Tryz.prog.globals.size = 2 := by kernel_rfl
theorem u4 : Tryz.prog.underlying 4 = some .bool := by kernel_rfl
theorem u5 : Tryz.prog.underlying 5 = some (.int .u8) := by kernel_rfl
theorem u94 : Tryz.prog.underlying 120 = some (.func #[57, 3, 3, 29, 119] #[4] false) := by kernel_rfl
theorem u95 : Tryz.prog.underlying 121 = some (.struct #[{ name := "so", type := 120, offset := 0, embedded := false, tag := "", pkgPath := "spoondrift/pebble", byteOffset := 0 }]) := by kernel_rfl
theorem u96 : Tryz.prog.underlying 122 = some (.array 3 121) := by kernel_rfl

theorem var_block {P : Program} {w : World} {n : String} {g : Nat} {cs : Array Value} (hg : P.globalNamed n = some g) (h : w.var? P n = some cs) : ∃ t fz, w.heap[g]? = some (.cells cs t fz) := by
  simp only [World.var?, hg, Option.bind_some] at h
  split at h
  · rename_i c t fz e
    injection h with h; subst h
    exact ⟨t, fz, e⟩
  · cases h

def tokA : Nat → List UInt8
  | 0 => [115, 112, 111, 111, 110, 100, 114, 105, 102, 116, 47, 112, 101, 98, 98, 108, 101, 46, 97, 115, 107, 115, 36, 49]
  | 1 => [115, 112, 111, 111, 110, 100, 114, 105, 102, 116, 47, 112, 101, 98, 98, 108, 101, 46, 97, 115, 107, 115, 36, 50]
  | _ => [115, 112, 111, 111, 110, 100, 114, 105, 102, 116, 47, 112, 101, 98, 98, 108, 101, 46, 97, 115, 107, 115, 36, 51]
theorem one140 : ((List.range Tryz.prog.funcs.size).filter fun f => (Tryz.prog.funcs[f]?).any (·.name.toUTF8.data.toList == tokA 0)) = [128] := by kernel_rfl
theorem one143 : ((List.range Tryz.prog.funcs.size).filter fun f => (Tryz.prog.funcs[f]?).any (·.name.toUTF8.data.toList == tokA 1)) = [131] := by kernel_rfl
theorem one144 : ((List.range Tryz.prog.funcs.size).filter fun f => (Tryz.prog.funcs[f]?).any (·.name.toUTF8.data.toList == tokA 2)) = [132] := by kernel_rfl
theorem hc95 : Tryz.prog.cellsOf 121 = 1 := by kernel_rfl
theorem hc94 : Tryz.prog.cellsOf 120 = 1 := by kernel_rfl
/-- One entry of the table of what is asked. -/
theorem entry_ask {w : World} {n q : Nat} (hq : q < 3) {cs : List Value} {y : DataW (List UInt8) × List MemPlace}
    (h : DataW.trod (funcToken Tryz.prog) Tryz.prog w 0 (fun _ => true) true n 121 cs = some y) (hy : y.1 = .agg [.held (tokA q)]) : cs = [.func (.func (askF q)) #[] #[]] := by
  obtain ⟨xs, m, rfl, hx, hl, hn, hel⟩ := DataW.trod_struct u95 h
  have h0 := hel 0 _ rfl
  rw [hx] at hy
  simp only [DataW.agg.injEq] at hy
  rw [hc95] at hl
  match cs, hl with
  | [a], _ =>
    match xs, hn, hy, h0 with
    | [e0], _, hy, h0 =>
      simp only [List.map_cons, List.map_nil, List.cons.injEq, and_true] at hy
      simp only [hc94, List.drop_zero, List.take_one, List.getElem?_cons_zero] at h0
      have h1 : DataW.trod (funcToken Tryz.prog) Tryz.prog w 0 (fun _ => true) true m 120 [a] = some (.held (tokA q), e0.2) := by
        rw [← hy]; simpa [hc94] using h0
      have : q = 0 ∨ q = 1 ∨ q = 2 := by omega
      rcases this with rfl | rfl | rfl
      · rw [func_of_trod (f0 := 128) u94 one140 h1]; rfl
      · rw [func_of_trod (f0 := 131) u94 one143 h1]; rfl
      · rw [func_of_trod (f0 := 132) u94 one144 h1]; rfl
def askD : DataW Unit := .agg [.agg [.iface "func" (.lit (.string (tokA 0)))], .agg [.iface "func" (.lit (.string (tokA 1)))], .agg [.iface "func" (.lit (.string (tokA 2)))]]
/-- What the table of what is asked holds. -/
theorem open_asks {w : World} (h : funcsAt Tryz.prog w "spoondrift/pebble.asks" askD) :
    ∃ c t fz, w.heap[1]? = some (.cells c t fz) ∧ ∀ q, q < 3 → c[q]? = some (.func (.func (askF q)) #[] #[]) := by
  obtain ⟨g, t, cs, fuel, p, hg, ht, hc, hd⟩ := h
  obtain rfl := Option.some.inj (gAsk.symm.trans hg)
  obtain rfl := Option.some.inj (tAsk.symm.trans ht)
  obtain ⟨ty, fz, hb0⟩ := var_block hg hc
  have hout : askD.funcsOut = .agg [.agg [.held (tokA 0)], .agg [.held (tokA 1)], .agg [.held (tokA 2)]] := by rfl
  rw [hout] at hd
  obtain ⟨xs, m, rfl, hx, hl, hn, hel⟩ := DataW.trod_array u96 hd
  match xs, hn with
  | [e0, e1, e2], _ =>
    simp only [Prod.mk.injEq, DataW.agg.injEq, List.map_cons, List.map_nil, List.cons.injEq, and_true] at hx
    obtain ⟨⟨x0, x1, x2⟩, _⟩ := hx
    have key : ∀ (q : Nat) (e : DataW (List UInt8) × List MemPlace), q < 3 → [e0, e1, e2][q]? = some e → e.1 = .agg [.held (tokA q)] → cs[q]? = some (.func (.func (askF q)) #[] #[]) := by
      intro q e hq he h1
      have h2 := hel q hq
      rw [he, hc95, Nat.mul_one] at h2
      have h3 := entry_ask hq h2 h1
      have := congrArg (·[0]?) h3
      simpa [List.getElem?_take, List.getElem?_drop] using this
    refine ⟨cs, ty, fz, hb0, fun q hq => ?_⟩
    have : q = 0 ∨ q = 1 ∨ q = 2 := by omega
    rcases this with rfl | rfl | rfl
    · exact key 0 e0 (by omega) rfl x0.symm
    · exact key 1 e1 (by omega) rfl x1.symm
    · exact key 2 e2 (by omega) rfl x2.symm
def laid1 : List (String × DataW Unit) := [("spoondrift/pebble.asks", Rows.laid_spoondrift_pebble_asks), ("spoondrift/rev.classical", Rows.laid_spoondrift_rev_classical)]
theorem ask_data : (Rows.laid_spoondrift_pebble_asks : DataW Unit) = .iface "func table" askD := by rfl
theorem of_laid {w : World} (h : laidMetH Tryz.prog laid1 w) : ∃ c t fz, w.heap[1]? = some (.cells c t fz) ∧ ∀ q, q < 3 → c[q]? = some (.func (.func (askF q)) #[] #[]) :=
  open_asks (h.funcs (n := "spoondrift/pebble.asks") (by rw [← ask_data]; simp [laid1]))

theorem gCla : Tryz.prog.globalNamed "spoondrift/rev.classical" = some 0 := by kernel_rfl
theorem tCla : (Tryz.prog.globals[0]?).map (·.type) = some 107 := by kernel_rfl
theorem u3 : Tryz.prog.underlying 3 = some (.int .i64) := by kernel_rfl
theorem u104 : Tryz.prog.underlying 104 = some (.func #[3, 29] #[3] false) := by kernel_rfl
theorem u105 : Tryz.prog.underlying 105 = some (.struct #[{ name := "controls", type := 3, offset := 0, embedded := false, tag := "", pkgPath := "spoondrift/rev", byteOffset := 0 }, { name := "does", type := 104, offset := 1, embedded := false, tag := "", pkgPath := "spoondrift/rev", byteOffset := 8 }]) := by kernel_rfl
theorem u107 : Tryz.prog.underlying 107 = some (.map 3 105) := by kernel_rfl
theorem hc3 : Tryz.prog.cellsOf 3 = 1 := by kernel_rfl
theorem hc104 : Tryz.prog.cellsOf 104 = 1 := by kernel_rfl
theorem hc105 : Tryz.prog.cellsOf 105 = 2 := by kernel_rfl
def tokT : List UInt8 := [115, 112, 111, 111, 110, 100, 114, 105, 102, 116, 47, 114, 101, 118, 46, 116, 117, 114, 110, 101, 100]
def tokS : List UInt8 := [115, 112, 111, 111, 110, 100, 114, 105, 102, 116, 47, 114, 101, 118, 46, 115, 119, 97, 112, 112, 101, 100]
theorem oneT : ((List.range Tryz.prog.funcs.size).filter fun f => (Tryz.prog.funcs[f]?).any (·.name.toUTF8.data.toList == tokT)) = [125] := by kernel_rfl
theorem oneS : ((List.range Tryz.prog.funcs.size).filter fun f => (Tryz.prog.funcs[f]?).any (·.name.toUTF8.data.toList == tokS)) = [126] := by kernel_rfl
/-- A kind's entry: how many controls, what it does. -/
theorem entry_kind {w : World} {n : Nat} {c : Int} {q : FuncId} {tk : List UInt8} (ht : (tk = tokT ∧ q = 125) ∨ (tk = tokS ∧ q = 126)) {cs : List Value} {y : DataW (List UInt8) × List MemPlace}
    (h : DataW.trod (funcToken Tryz.prog) Tryz.prog w 0 (fun _ => true) true n 105 cs = some y) (hy : y.1 = .agg [.lit (.int .i64 c), .held tk]) : cs = [.int .i64 c, .func (.func q) #[] #[]] := by
  obtain ⟨xs, m, rfl, hx, hl, hn, hel⟩ := DataW.trod_struct u105 h
  have h0 := hel 0 _ rfl
  have h1 := hel 1 _ rfl
  rw [hx] at hy
  simp only [DataW.agg.injEq] at hy
  rw [hc105] at hl
  match cs, hl with
  | [a, b], _ =>
    match xs, hn, hy, h0, h1 with
    | [e0, e1], _, hy, h0, h1 =>
      simp only [List.map_cons, List.map_nil, List.cons.injEq, and_true] at hy
      have h2 : DataW.trod (funcToken Tryz.prog) Tryz.prog w 0 (fun _ => true) true m 3 [a] = some (.lit (.int .i64 c), e0.2) := by
        rw [← hy.1]; simpa [hc3] using h0
      have h3 : DataW.trod (funcToken Tryz.prog) Tryz.prog w 0 (fun _ => true) true m 104 [b] = some (.held tk, e1.2) := by
        rw [← hy.2]; simpa [hc104] using h1
      have hb : b = .func (.func q) #[] #[] := by
        rcases ht with ⟨rfl, rfl⟩ | ⟨rfl, rfl⟩
        · exact func_of_trod u104 oneT h3
        · exact func_of_trod u104 oneS h3
      subst hb
      cases m with
      | zero => simp [DataW.trod] at h2
      | succ m =>
        rw [DataW.trod_step] at h2
        unfold DataW.trodStep at h2
        rw [u3] at h2
        cases a <;> simp at h2
        simp_all
def claD : DataW Unit := .map [(.int .i64 1, .agg [.lit (.int .i64 0), .iface "func" (.lit (.string tokT))]), (.int .i64 9, .agg [.lit (.int .i64 1), .iface "func" (.lit (.string tokT))]), (.int .i64 11, .agg [.lit (.int .i64 0), .iface "func" (.lit (.string tokS))]), (.int .i64 12, .agg [.lit (.int .i64 2), .iface "func" (.lit (.string tokT))])]
/-- One of the table's entries. -/
def IsKind (k v : Value) : Prop := (k = .int .i64 1 ∧ v = .agg #[.int .i64 0, .func (.func 125) #[] #[]]) ∨ (k = .int .i64 9 ∧ v = .agg #[.int .i64 1, .func (.func 125) #[] #[]]) ∨ (k = .int .i64 11 ∧ v = .agg #[.int .i64 0, .func (.func 126) #[] #[]]) ∨ (k = .int .i64 12 ∧ v = .agg #[.int .i64 2, .func (.func 125) #[] #[]])
theorem mem_fold {x : Lit × DataW (List UInt8)} : ∀ {l : List (Lit × DataW (List UInt8))}, x ∈ l.foldr DataW.insert [] ↔ x ∈ l
  | [] => by simp
  | y :: l => by
    rw [List.foldr_cons, Go.ChangeMaps.mem_insert_iff, mem_fold, List.mem_cons]
theorem open_kinds {w : World} (h : funcsAt Tryz.prog w "spoondrift/rev.classical" claD) :
    ∃ c t fz b es clk, w.heap[0]? = some (.cells c t fz) ∧ c[0]? = some (.map (some b)) ∧ w.heap[b]? = some (.map es clk) ∧ (∀ x ∈ es.toList, IsKind x.key x.val) ∧ ∀ k, (k = 1 ∨ k = 9 ∨ k = 12) → ∃ x ∈ es.toList, x.key = .int .i64 k := by
  obtain ⟨g, t, cs, fuel, p, hg, ht, hc, hd⟩ := h
  obtain rfl := Option.some.inj (gCla.symm.trans hg)
  obtain rfl := Option.some.inj (tCla.symm.trans ht)
  obtain ⟨ty, fz, hb0⟩ := var_block hg hc
  have hout : claD.funcsOut = .map [(.int .i64 1, .agg [.lit (.int .i64 0), .held tokT]), (.int .i64 9, .agg [.lit (.int .i64 1), .held tokT]), (.int .i64 11, .agg [.lit (.int .i64 0), .held tokS]), (.int .i64 12, .agg [.lit (.int .i64 2), .held tokT])] := by rfl
  rw [hout] at hd
  rcases Go.WideElems.open_map u107 hd with ⟨_, h2⟩ | ⟨b, es, clk, n, _, hcs, hb, _, F, hx⟩
  · simp at h2
  simp only [Prod.mk.injEq, DataW.map.injEq] at hx
  have hx1 := hx.1
  have hmem : ∀ z, z ∈ es.toList.map (Go.WideElems.rg Tryz.prog 3 (Go.WideElems.elemAt (funcToken Tryz.prog) Tryz.prog w 0 (fun _ => true) true n 105)) ↔ z ∈ [((.int .i64 1 : Lit), (.agg [.lit (.int .i64 0), .held tokT] : DataW (List UInt8))), (.int .i64 9, .agg [.lit (.int .i64 1), .held tokT]), (.int .i64 11, .agg [.lit (.int .i64 0), .held tokS]), (.int .i64 12, .agg [.lit (.int .i64 2), .held tokT])] := fun z => by
    rw [hx1, mem_fold]
  have key : ∀ x ∈ es.toList, ∀ (k c : Int) (tk : List UInt8) (q : FuncId), ((tk = tokT ∧ q = 125) ∨ (tk = tokS ∧ q = 126)) → Go.WideElems.rg Tryz.prog 3 (Go.WideElems.elemAt (funcToken Tryz.prog) Tryz.prog w 0 (fun _ => true) true n 105) x = (.int .i64 k, .agg [.lit (.int .i64 c), .held tk]) → x.key = .int .i64 k ∧ x.val = .agg #[.int .i64 c, .func (.func q) #[] #[]] := by
    intro x hx k c tk q htk hr
    obtain ⟨y, hy⟩ := F.reads x hx
    rw [Go.WideElems.rg_of hy] at hr
    subst hr
    have h1 := Go.WideElems.rd_key hy
    obtain ⟨z, hz, h2⟩ := Go.WideElems.rd_val hy
    refine ⟨?_, ?_⟩
    · simp only [keyOf, u3, mapKey] at h1
      split at h1 <;> simp_all
    · simp only [Go.WideElems.elemAt] at hz
      split at hz
      · rename_i hf
        have := entry_kind htk hz h2.symm
        cases hv : x.val with
        | agg cs2 =>
          rw [hv] at this
          have e : cs2.toList = [.int .i64 c, .func (.func q) #[] #[]] := this
          obtain ⟨l⟩ := cs2
          simp only at e
          subst e; rfl
        | _ => rw [hv] at hf; simp [Value.formed, u105] at hf
      · cases hz
  have hcs0 : cs[0]? = some (.map (some b)) := by
    have := congrArg (·[0]?) hcs
    simpa using this
  refine ⟨cs, ty, fz, b, es, clk, hb0, hcs0, hb, fun x hx => ?_, fun k hk => ?_⟩
  · have h1 := (hmem _).1 (List.mem_map.2 ⟨x, hx, rfl⟩)
    simp only [List.mem_cons, List.not_mem_nil, or_false] at h1
    rcases h1 with h1 | h1 | h1 | h1
    · exact .inl (key x hx _ _ _ 125 (.inl ⟨rfl, rfl⟩) h1)
    · exact .inr (.inl (key x hx _ _ _ 125 (.inl ⟨rfl, rfl⟩) h1))
    · exact .inr (.inr (.inl (key x hx _ _ _ 126 (.inr ⟨rfl, rfl⟩) h1)))
    · exact .inr (.inr (.inr (key x hx _ _ _ 125 (.inl ⟨rfl, rfl⟩) h1)))
  · have : ∃ c : Int, ((.int .i64 k : Lit), (.agg [.lit (.int .i64 c), .held tokT] : DataW (List UInt8))) ∈ [((.int .i64 1 : Lit), (.agg [.lit (.int .i64 0), .held tokT] : DataW (List UInt8))), (.int .i64 9, .agg [.lit (.int .i64 1), .held tokT]), (.int .i64 11, .agg [.lit (.int .i64 0), .held tokS]), (.int .i64 12, .agg [.lit (.int .i64 2), .held tokT])] := by
      rcases hk with rfl | rfl | rfl
      · exact ⟨0, by simp⟩
      · exact ⟨1, by simp⟩
      · exact ⟨2, by simp⟩
    obtain ⟨c, hm⟩ := this
    obtain ⟨x, hx, hr⟩ := List.mem_map.1 ((hmem _).2 hm)
    exact ⟨x, hx, (key x hx _ _ _ 125 (.inl ⟨rfl, rfl⟩) hr).1⟩
theorem cla_data : (Rows.laid_spoondrift_rev_classical : DataW Unit) = .iface "func table" claD := by rfl
theorem of_laid0 {w : World} (h : laidMetH Tryz.prog laid1 w) : ∃ c t fz b es clk, w.heap[0]? = some (.cells c t fz) ∧ c[0]? = some (.map (some b)) ∧ w.heap[b]? = some (.map es clk) ∧ (∀ x ∈ es.toList, IsKind x.key x.val) ∧ ∀ k, (k = 1 ∨ k = 9 ∨ k = 12) → ∃ x ∈ es.toList, x.key = .int .i64 k :=
  open_kinds (h.funcs (n := "spoondrift/rev.classical") (by rw [← cla_data]; simp [laid1]))
end Go.AM

/-! ### F21 -/
namespace Go.AM
open Go.Proofs Go.Proofs.YthfhbddnkgfhaaaGreatDoor Go.RowKit
set_option maxRecDepth 100000
set_option linter.unusedVariables false

/-- An argument's block: where it lies, and its abstract cells (each stands for the machine's cell at the same place), or the entries of a map. -/
structure Arg0 where
  blk : Nat
  off : Nat
  cap : Nat
  cs : Array Value
  es : Option (List (Value × Value))
def arg0 : Arg0 := ⟨0, 0, 0, #[], none⟩
def Arg0.obj (a : Arg0) : AObj := match a.es with
  | none => .cells false a.cs
  | some es => .map false es
theorem Arg0.obj_rw (a : Arg0) : a.obj.rw = false := by
  unfold Arg0.obj; split <;> rfl
theorem Arg0.obj_loop (a : Arg0) : ∀ l, a.obj ≠ .loop l := by
  unfold Arg0.obj; split <;> simp
def askCs : Array Value := #[.func (.func 128) #[] #[], .func (.func 131) #[] #[], .func (.func 132) #[] #[]]
def mem0 (A : List Arg0) : Mem := (AObj.cells false #[.map (some 2)] :: AObj.cells false askCs :: A.map Arg0.obj).toArray
def beta0 (A : List Arg0) : Beta where
  blk i := if i < 2 then i else (A.getD (i - 2) arg0).blk
  sh i := if i < 2 then 0 else (A.getD (i - 2) arg0).off
  cap i := if i < 2 then 1000000 else (A.getD (i - 2) arg0).off + max (A.getD (i - 2) arg0).cs.size (A.getD (i - 2) arg0).cap
/-- What is known of an argument's cells, all arguments' places being known. -/
def Arg0.ok (W : World) (A : List Arg0) (a : Arg0) : Prop :=
  (a.es = none → ∃ c t fz, W.heap[a.blk]? = some (.cells c t fz) ∧ ∀ (i : Nat) v, a.cs[i]? = some v → ∃ v', c[a.off + i]? = some v' ∧ VRel (beta0 A) (2 + A.length) v v') ∧
  ∀ es, a.es = some es → ∃ es' clk, W.heap[a.blk]? = some (.map es' clk) ∧ es'.size = es.length ∧ ∀ (i : Nat) x e', es[i]? = some x → es'[i]? = some e' → VRel (beta0 A) (2 + A.length) x.1 e'.key ∧ VRel (beta0 A) (2 + A.length) x.2 e'.val
theorem mem0_size (A : List Arg0) : (mem0 A).size = 2 + A.length := by simp [mem0]; omega
theorem mem0_get (A : List Arg0) (i : Nat) : Mem.get (mem0 A) i = if i = 0 then .cells false #[.map (some 2)] else if i = 1 then .cells false askCs else if h : i - 2 < A.length then (A[i - 2]).obj else .dead := by
  unfold Mem.get mem0
  rw [Array.getD_eq_getD_getElem?, List.getElem?_toArray]
  match i with
  | 0 => rfl
  | 1 => rfl
  | i + 2 =>
    rw [if_neg (by omega), if_neg (by omega)]
    simp only [List.getElem?_cons_succ, Nat.add_sub_cancel, List.getElem?_map]
    by_cases h : i < A.length
    · rw [dif_pos h, List.getElem?_eq_getElem h]; rfl
    · rw [dif_neg h, List.getElem?_eq_none (by omega)]; rfl
theorem glob0 (A : List Arg0) : GlobP (mem0 A) := ⟨false, by rw [mem0_get]; rfl⟩
/-- The table of kinds: its block, its entries. -/
structure Kinds (W : World) (a : Arg0) : Prop where
  glob : ∃ c t fz, W.heap[0]? = some (.cells c t fz) ∧ c[0]? = some (.map (some a.blk))
  es : ∃ es, a.es = some es ∧ (∀ x ∈ es, IsKind x.1 x.2) ∧ ∀ k, (k = 1 ∨ k = 9 ∨ k = 12) → ∃ x ∈ es, x.1 = .int .i64 k
  ok : ∀ A, a.ok W A
theorem flat_kind {β : Beta} {N : Nat} {c : Int} {q : FuncId} : VRel β N (.agg #[.int .i64 c, .func (.func q) #[] #[]]) (.agg #[.int .i64 c, .func (.func q) #[] #[]]) := by
  refine .agg _ _ rfl fun i v v' h h' => ?_
  match i with
  | 0 => simp at h h'; subst h h'; exact .int _ _
  | 1 => simp at h h'; subst h h'; exact .func _ _ _ _ _ rfl (fun i v v' h => by simp at h) rfl (fun i v v' h => by simp at h)
  | i + 2 => simp at h
theorem kinds_ex {W : World} (hL : laidMetH Tryz.prog laid1 W) : ∃ a, Kinds W a := by
  obtain ⟨c, t, fz, b, es, clk, h0, h1, h2, h3, h4⟩ := of_laid0 hL
  refine ⟨⟨b, 0, 0, #[], some (es.toList.map fun x => (x.key, x.val))⟩, ⟨c, t, fz, h0, h1⟩, ⟨_, rfl, fun x hx => ?_, fun k hk => ?_⟩, fun A => ⟨fun h => (by cases h), fun es2 he => ?_⟩⟩
  · obtain ⟨y, hy, rfl⟩ := List.mem_map.1 hx
    exact h3 y hy
  · obtain ⟨y, hy, e⟩ := h4 k hk
    exact ⟨_, List.mem_map.2 ⟨y, hy, rfl⟩, e⟩
  · cases he
    refine ⟨es, clk, h2, by simp, fun i x e' hx he' => ?_⟩
    rw [List.getElem?_map, Array.getElem?_toList, he'] at hx
    cases hx
    have := h3 e' (by rw [← Array.mem_def]; exact Array.mem_of_getElem? he')
    rcases this with ⟨e1, e2⟩ | ⟨e1, e2⟩ | ⟨e1, e2⟩ | ⟨e1, e2⟩ <;> (simp only [e1, e2]; exact ⟨.int _ _, flat_kind⟩)
theorem sameI (a b : Int) : Instr.sameNow (.int .i64) (.int .i64 a) (.int .i64 b) = some (decide (a = b)) := by
  by_cases h : a = b
  · subst h; simp [Instr.sameNow]
  · simp [Instr.sameNow, h]
theorem find_kind {k : Nat} (hk : k = 1 ∨ k = 9 ∨ k = 12) : ∀ {es : List (Value × Value)} (i : Nat), (∀ x ∈ es, IsKind x.1 x.2) → (∃ x ∈ es, x.1 = .int .i64 (Int.ofNat k)) → ∃ j c, aFindNow (.int .i64) (nv k) es i = some (some (j, .agg #[nv c, .func (.func 125) #[] #[]]))
  | [], i, _, ⟨x, hx, _⟩ => by cases hx
  | e :: es, i, h1, h2 => by
    have hk1 := h1 e (by simp)
    obtain ⟨z, hz⟩ : ∃ z, e.1 = .int .i64 z := by rcases hk1 with h | h | h | h <;> exact ⟨_, h.1⟩
    rw [aFindNow, hz, nv, sameI]
    by_cases e1 : Int.ofNat k = z
    · subst e1
      rw [decide_eq_true rfl]
      rcases hk1 with ⟨a, b⟩ | ⟨a, b⟩ | ⟨a, b⟩ | ⟨a, b⟩
      · exact ⟨i, 0, by rw [b]; rfl⟩
      · exact ⟨i, 1, by rw [b]; rfl⟩
      · rw [hz] at a
        have := (Value.int.inj a).2
        simp at this; omega
      · exact ⟨i, 2, by rw [b]; rfl⟩
    · rw [decide_eq_false e1]
      refine find_kind hk (i + 1) (fun x hx => h1 x (by simp [hx])) ?_
      obtain ⟨x, hx, e2⟩ := h2
      rcases List.mem_cons.1 hx with rfl | hx
      · rw [hz] at e2; exact absurd (Value.int.inj e2).2.symm e1
      · exact ⟨x, hx, e2⟩
theorem globC0 {W : World} {a : Arg0} (h : Kinds W a) {A : List Arg0} (hA : A[0]? = some a) : GlobC (mem0 A) := by
  obtain ⟨es, he, h1, h2⟩ := h.es
  obtain ⟨hl, e0⟩ := List.getElem?_eq_some_iff.1 hA
  refine ⟨false, 2, false, es, by rw [mem0_get]; rfl, ?_, fun k hk => find_kind hk 0 h1 ?_⟩
  · rw [mem0_get, if_neg (by omega), if_neg (by omega), dif_pos (by omega)]
    rw [show A[2 - 2] = a from e0, Arg0.obj, he]
  · exact h2 (Int.ofNat k) (by rcases hk with rfl | rfl | rfl <;> simp)
theorem rel0 {W : World} (hL : laidMetH Tryz.prog laid1 W) {A : List Arg0} {a0 : Arg0} (hK : Kinds W a0) (hA0 : A[0]? = some a0) (hA : ∀ a ∈ A, a.ok W A) : Rel Tryz.prog (beta0 A) (mem0 A) W := by
  obtain ⟨c, t, fz, h0, hc0⟩ := of_laid hL
  obtain ⟨ck, tk, fk, k0, k1⟩ := hK.glob
  obtain ⟨hl0, e0⟩ := List.getElem?_eq_some_iff.1 hA0
  refine ⟨by rw [mem0_size, gSize]; omega, fun g hg => ?_, fun i hi => ?_, fun i j _ hr _ => ?_⟩
  · rw [gSize] at hg
    exact ⟨if_pos hg, if_pos hg⟩
  · rw [mem0_get] at hi ⊢
    by_cases ei : i = 0
    · subst ei
      rw [if_pos rfl] at hi ⊢
      refine ⟨_, k0, ck, tk, fk, rfl, by simp [beta0], fun j v hj => ?_, fun h => by cases h⟩
      match j with
      | 0 =>
        simp at hj; subst hj
        refine ⟨_, by simpa [beta0] using k1, ?_⟩
        have hb : (beta0 A).blk 2 = a0.blk := by
          simp only [beta0]; rw [if_neg (by omega), List.getD_eq_getElem?_getD, hA0]; rfl
        rw [← hb]
        exact .map _ (by rw [mem0_size]; omega)
      | j + 1 => simp at hj
    rw [if_neg ei] at hi ⊢
    by_cases e1 : i = 1
    · subst e1
      rw [if_pos rfl] at hi ⊢
      refine ⟨_, h0, c, t, fz, rfl, by simp [beta0, askCs], fun j v hj => ?_, fun h => by cases h⟩
      have hf : ∀ q, VRel (beta0 A) (mem0 A).size (.func (.func q) #[] #[]) (.func (.func q) #[] #[]) := fun q => .func _ _ _ _ _ rfl (fun i v v' h => by simp at h) rfl (fun i v v' h => by simp at h)
      match j with
      | 0 => simp [askCs] at hj; subst hj; exact ⟨_, by simpa [beta0, askF] using hc0 0 (by omega), hf _⟩
      | 1 => simp [askCs] at hj; subst hj; exact ⟨_, by simpa [beta0, askF] using hc0 1 (by omega), hf _⟩
      | 2 => simp [askCs] at hj; subst hj; exact ⟨_, by simpa [beta0, askF] using hc0 2 (by omega), hf _⟩
      | j + 3 => simp [askCs] at hj
    rw [if_neg e1] at hi ⊢
    by_cases e4 : i - 2 < A.length
    · rw [dif_pos e4] at hi ⊢
      obtain ⟨o1, o2⟩ := hA _ (List.getElem_mem e4)
      have hb : (beta0 A).blk i = (A[i - 2]).blk := by
        simp only [beta0]; rw [if_neg (by omega), List.getD_eq_getElem?_getD, List.getElem?_eq_getElem e4]; rfl
      have hsh : (beta0 A).sh i = (A[i - 2]).off := by
        simp only [beta0]; rw [if_neg (by omega), List.getD_eq_getElem?_getD, List.getElem?_eq_getElem e4]; rfl
      have hcp : (beta0 A).cap i = (A[i - 2]).off + max (A[i - 2]).cs.size (A[i - 2]).cap := by
        simp only [beta0]; rw [if_neg (by omega), List.getD_eq_getElem?_getD, List.getElem?_eq_getElem e4]; rfl
      cases hes : (A[i - 2]).es with
      | none =>
        obtain ⟨c, t, fz, g1, g2⟩ := o1 hes
        rw [Arg0.obj, hes]
        refine ⟨_, by rw [hb]; exact g1, c, t, fz, rfl, by rw [hsh, hcp]; omega, fun j v hj => ?_, fun h => by cases h⟩
        obtain ⟨v', q1, q2⟩ := g2 j v hj
        exact ⟨v', by rw [hsh]; exact q1, by rw [mem0_size]; exact q2⟩
      | some es =>
        obtain ⟨es', clk, g1, g2, g3⟩ := o2 es hes
        rw [Arg0.obj, hes]
        exact ⟨_, by rw [hb]; exact g1, es', clk, rfl, g2, fun i x e' hx he => by rw [mem0_size]; exact g3 i x e' hx he⟩
    · rw [dif_neg e4] at hi; cases hi
  · rw [mem0_get] at hr
    split at hr
    · cases hr
    split at hr
    · cases hr
    split at hr
    · rw [Arg0.obj_rw] at hr; cases hr
    · cases hr
theorem arel_nil {β : Beta} {N : Nat} : ARel β N #[] #[] := ⟨rfl, fun i v v' h => by simp at h⟩
theorem arel_cons {β : Beta} {N : Nat} {v v' : Value} {l l' : List Value} (hv : VRel β N v v') (h : ARel β N l.toArray l'.toArray) : ARel β N (v :: l).toArray (v' :: l').toArray := by
  refine ⟨by have := h.1; simp at this ⊢; exact this, fun i x x' h1 h2 => ?_⟩
  cases i with
  | zero => simp at h1 h2; subst h1 h2; exact hv
  | succ i => exact h.2 i x x' (by simpa using h1) (by simpa using h2)
/-- From the abstract call to the machine's. -/
theorem entry {f : FuncId} {args args' : Array Value} {W : World} {A : List Arg0} (hL : laidMetH Tryz.prog laid1 W) {a0 : Arg0} (hK : Kinds W a0) (hA0 : A[0]? = some a0) (hA : ∀ a ∈ A, a.ok W A)
    (hargs : ARel (beta0 A) (2 + A.length) args args') (hc : ∃ v m', ACalls Tryz.prog f args (mem0 A) v m' ∧ v = .bool true) :
    Calls Tryz.prog f args' W fun e W' => e = .returned (.bool true) ∧ Below W.heap.size W W' := by
  have hR := rel0 hL hK hA0 hA
  obtain ⟨v, m', hcall, rfl⟩ := hc
  refine (hcall.2 _ W args' hR (by rw [mem0_size]; exact hargs)).mono ?_
  rintro e W' ⟨v', rfl, β', hv, _, hS⟩
  cases hv
  refine ⟨rfl, hS.os, hS.tape, hS.output, hS.wsz, fun k hk => hS.keep k hk fun i hi => ?_⟩
  rw [mem0_get] at hi
  split at hi
  · cases hi
  split at hi
  · cases hi
  split at hi
  · rw [Arg0.obj_rw] at hi; cases hi
  · cases hi
end Go.AM

/-! ### F22 -/
namespace Go.AM
open Go Go.Proofs Go.Proofs.YthfhbddnkgfhaaaGreatDoor Go.RowKit Go.ChangeShapes Go.WideShapes
set_option maxRecDepth 100000
set_option linter.unusedVariables false

/-- A slice of whole numbers of a kind, readable. -/
def KAt (k : IntKind) (m : Mem) (v : Value) (l : List Int) : Prop :=
  (l = [] ∧ (v = .slice none 0 0 ∨ ∃ b o, v = .slice (some ⟨b, o, none⟩) 0 0)) ∨
  ∃ b o cap r c, v = .slice (some ⟨b, o, some 1⟩) l.length cap ∧ l.length ≤ cap ∧ Mem.get m b = .cells r c ∧ ∀ i x, l[i]? = some x → c[o + i]? = some (.int k x)
theorem KAt.ints {m : Mem} {v : Value} {l : List Int} (h : KAt .i64 m v l) : IntsAt m v l := by
  rcases h with h | ⟨b, o, cap, r, c, h1, _, h2, h3⟩
  · exact .inl h
  · exact .inr ⟨b, o, cap, r, c, h1, h2, h3⟩
theorem KAt.bytes {m : Mem} {v : Value} {l : List Int} (h : KAt .u8 m v l) : BytesAt m v l := h
theorem cell_heap {W : World} {a : Addr} {v : Value} (h : W.cell? a = some v) : a.spot = none ∧ ∃ c t fz, W.heap[a.block]? = some (.cells c t fz) ∧ c[a.off]? = some v := by
  unfold World.cell? at h
  split at h
  · rename_i c t fz e
    split at h
    · cases h
    · rename_i hs
      exact ⟨by simpa using hs, c, t, fz, e, h⟩
  · cases h
theorem add_block (a : Addr) (n : Nat) : (a.add n).block = a.block := by unfold Addr.add; split <;> rfl
theorem add0 (a : Addr) : a.add 0 = a := if_pos rfl
theorem add_off {a : Addr} {n : Nat} (h : a.spot = none) : (a.add n).off = a.off + n := by
  unfold Addr.add
  split <;> simp_all
theorem mem0_arg {A : List Arg0} {i : Nat} {a : Arg0} (h : A[i]? = some a) (hn : a.es = none) : Mem.get (mem0 A) (2 + i) = .cells false a.cs := by
  obtain ⟨hi, e⟩ := List.getElem?_eq_some_iff.1 h
  rw [mem0_get, if_neg (by omega), if_neg (by omega), dif_pos (by omega)]
  simp only [Nat.add_sub_cancel_left, e, Arg0.obj, hn]
theorem beta0_arg {A : List Arg0} {i : Nat} {a : Arg0} (h : A[i]? = some a) : (beta0 A).blk (2 + i) = a.blk ∧ (beta0 A).sh (2 + i) = a.off ∧ (beta0 A).cap (2 + i) = a.off + max a.cs.size a.cap := by
  have e : A.getD (2 + i - 2) arg0 = a := by rw [Nat.add_sub_cancel_left, List.getD_eq_getElem?_getD, h]; rfl
  refine ⟨?_, ?_, ?_⟩
  · simp only [beta0]; rw [if_neg (by omega), e]
  · simp only [beta0]; rw [if_neg (by omega), e]
  · simp only [beta0]; rw [if_neg (by omega), e]
/-- The blocks of an argument lie from a place on. -/
def PartAt (A : List Arg0) (pos : Nat) (B : List Arg0) : Prop := ∀ (j : Nat) a, B[j]? = some a → A[pos + j]? = some a
theorem part_self {B : List Arg0} : PartAt B 0 B := fun j a h => by rwa [Nat.zero_add]
theorem part_left {X Y B : List Arg0} {pos : Nat} (h : PartAt X pos B) : PartAt (X ++ Y) pos B := fun j a hj => by
  have := h j a hj
  rw [List.getElem?_append_left (List.getElem?_eq_some_iff.1 this).1]; exact this
theorem part_right {X Y : List Arg0} {pos : Nat} (h : X.length = pos) : PartAt (X ++ Y) pos Y := fun j a hj => by
  subst h
  rw [List.getElem?_append_right (by omega), Nat.add_sub_cancel_left]; exact hj
/-- A slice of whole numbers that is read: its block, what it holds, its abstract value by the place of its block. -/
structure RowP (W : World) (k : IntKind) (s : Value) where
  a : Arg0
  l : List Int
  f : Nat → Value
  ok : ∀ A : List Arg0, a.ok W A
  wf : ∀ n ∈ l, (Lit.int k n).wf = true
  rel : ∀ (A : List Arg0) (i : Nat), A[i]? = some a → KAt k (mem0 A) (f i) l ∧ VRel (beta0 A) (2 + A.length) (f i) s
theorem ok0 {W : World} (hL : laidMetH Tryz.prog laid1 W) (A : List Arg0) : Arg0.ok W A ⟨0, 0, 0, #[], none⟩ := by
  obtain ⟨c0, t0, fz0, _, _, _, h0, _⟩ := of_laid0 hL
  exact ⟨fun _ => ⟨c0, t0, fz0, h0, fun i v h => by simp at h⟩, fun es h => by cases h⟩
theorem row_of {H : Type} {enc : TypeId × Value → H} {W : World} {k : IntKind} {t e : TypeId} {s : Value} {fuel : Nat} {x : DataW H × List MemPlace} (hL : laidMetH Tryz.prog laid1 W)
    (ht : Tryz.prog.underlying t = some (.slice e)) (he : Tryz.prog.underlying e = some (.int k)) (hc : Tryz.prog.cellsOf e = 1)
    (hd : DataW.trod enc Tryz.prog W 0 (fun _ => true) true fuel t [s] = some x) : Nonempty (RowP W k s) := by
  rcases open_ints ht he hc hd with ⟨hcs, _⟩ | ⟨x, ln, cp, zs, hcs, _, hl, hm, hz, _, hcell, hwz⟩
  · simp at hcs
    subst hcs
    exact ⟨⟨_, [], fun _ => .slice none 0 0, ok0 hL, by simp, fun A i _ => ⟨.inl ⟨rfl, .inl rfl⟩, .sliceNil⟩⟩⟩
  · simp at hcs
    subst hcs
    rw [if_pos rfl] at hz
    by_cases h0 : ln = 0
    · subst h0
      exact ⟨⟨_, [], fun _ => .slice (some ⟨0, 0, none⟩) 0 0, ok0 hL, by simp, fun A i _ => ⟨.inl ⟨rfl, .inr ⟨_, _, rfl⟩⟩, .lost _ _ _ trivial⟩⟩⟩
    · obtain ⟨hsp, c, t1, fz, hh, _⟩ := cell_heap (hcell 0 (by omega))
      rw [add0] at hsp
      rw [add_block] at hh
      have hcs : ∀ j, j < ln → c[x.off + j]? = some (.int k (zs.getD j 0)) := fun j hj => by
        obtain ⟨_, c', t2, fz2, h2, h3⟩ := cell_heap (hcell j (by omega))
        rw [add_block, hh] at h2
        obtain ⟨rfl, rfl, rfl⟩ : c = c' ∧ t1 = t2 ∧ fz = fz2 := by injection h2 with h2; injection h2 with a b c; exact ⟨a, b, c⟩
        rwa [add_off hsp] at h3
      have hlz : (zs.take ln).length = ln := by rw [List.length_take]; omega
      refine ⟨⟨⟨x.block, x.off, cp, ((zs.take ln).map fun n => Value.int k n).toArray, none⟩, zs.take ln, fun i => .slice (some ⟨2 + i, 0, some 1⟩) ln cp, fun A => ⟨fun _ => ⟨c, t1, fz, hh, fun j y hy => ?_⟩, fun es h => by cases h⟩, fun n hn => hwz n (List.mem_of_mem_take hn), fun A i hA => ⟨?_, ?_⟩⟩⟩
      · simp only [List.getElem?_toArray, List.getElem?_map, Option.map_eq_some_iff] at hy
        obtain ⟨n, hn, rfl⟩ := hy
        rw [List.getElem?_take] at hn
        split at hn
        · refine ⟨_, ?_, .int _ _⟩
          rw [hcs j (by assumption), List.getD_eq_getElem?_getD, hn]; rfl
        · cases hn
      · refine .inr ⟨2 + i, 0, cp, false, _, by rw [hlz], by rw [hlz]; exact hl, mem0_arg hA rfl, fun j n hn => ?_⟩
        simp only [List.getElem?_toArray, List.getElem?_map, hn, Option.map_some, Nat.zero_add]
      · obtain ⟨e1, e2, e3⟩ := beta0_arg hA
        have hi := (List.getElem?_eq_some_iff.1 hA).1
        have := VRel.slice (β := beta0 A) (N := 2 + A.length) (2 + i) 0 1 ln cp cp (by omega) (by omega) hl (Nat.le_refl _) (by rw [e2, e3]; simp only; omega) (by unfold maxLen at hm; omega)
        rw [e1, e2] at this
        obtain ⟨xb, xo, xs⟩ := x
        obtain rfl : xs = none := hsp
        exact this
/-- An argument that is a slice of whole numbers. -/
theorem ints_arg {H : Type} {enc : TypeId × Value → H} {W : World} {k : IntKind} {t e : TypeId} {r : Reach} {base : Nat} {v : Value} {d : DataW H} {p : List MemPlace} (hL : laidMetH Tryz.prog laid1 W)
    (ht : Tryz.prog.underlying t = some (.slice e)) (he : Tryz.prog.underlying e = some (.int k)) (hc : Tryz.prog.cellsOf e = 1)
    (hval : Value.okWide Tryz.prog W r base t v) (hd : DataW.Trod enc Tryz.prog W 0 (fun _ => true) true t v d p) :
    ∃ (L : Nat) (B : Nat → List Arg0) (l : List Int) (f : Nat → Value), (∀ pos, (B pos).length = L) ∧ (∀ n ∈ l, (Lit.int k n).wf = true) ∧
      ∀ (A : List Arg0) (pos : Nat), PartAt A pos (B pos) → (∀ a ∈ B pos, a.ok W A) ∧ KAt k (mem0 A) (f pos) l ∧ VRel (beta0 A) (2 + A.length) (f pos) v := by
  obtain ⟨q, len, cap, rfl⟩ := okWide_slice ht hval
  obtain ⟨fuel, hf⟩ := hd
  obtain ⟨R⟩ := row_of hL ht he hc hf
  refine ⟨1, fun _ => [R.a], R.l, R.f, fun _ => rfl, R.wf, fun A pos hp => ⟨fun a ha => ?_, R.rel A pos (hp 0 _ rfl)⟩⟩
  rw [List.mem_singleton.1 ha]; exact R.ok A
theorem u22 : Tryz.prog.underlying 22 = some (.slice 5) := by kernel_rfl
theorem c3 : Tryz.prog.cellsOf 3 = 1 := by kernel_rfl
theorem c5 : Tryz.prog.cellsOf 5 = 1 := by kernel_rfl
theorem laidOut : laidOutB Tryz.prog = true := by kernel_rfl
theorem u8_nat {n : Int} (h : (Lit.int .u8 n).wf = true) : ∃ c : Nat, c < 256 ∧ n = Int.ofNat c := by
  have h' : 0 ≤ n ∧ n < 256 := by
    simp [Lit.wf, IntKind.min, IntKind.max, IntKind.signed, IntKind.bits] at h
    omega
  exact ⟨n.toNat, by omega, by simp; omega⟩
theorem i64_lt {n : Int} (h : (Lit.int .i64 n).wf = true) : n < 9223372036854775808 := by
  simp [Lit.wf, IntKind.min, IntKind.max, IntKind.signed, IntKind.bits] at h
  omega
end Go.AM
