/- What the package variables hold when a call begins, and from the abstract call to the machine. -/
import Derived.Test.YtgiidbomifmcaaaDoorBitsB
import Derived.Test.YtgiidbomifmcaaaDoorRows
import Derived.ProofKit
import Derived.LaidMore
import Derived.LaidHandle
import Derived.OpenShut
import Derived.Stop.Joined
import Derived.Below
import Derived.Carry
set_option linter.unusedVariables false
set_option linter.unusedSimpArgs false
/-! ### F0 -/
namespace Go.AM
open Go.Proofs Go.Proofs.YtgiidbomifmcaaaDoor Go.ChangeShapes
set_option maxRecDepth 100000
set_option linter.unusedVariables false

theorem gCol : Tryd.prog.globalNamed "spoondrift/bits.columns" = some 0 := by kernel_rfl
theorem gDeb : Tryd.prog.globalNamed "math/bits.deBruijn64tab" = some 2 := by kernel_rfl
theorem tCol : (Tryd.prog.globals[0]?).map (·.type) = some 102 := by kernel_rfl
theorem tDeb : (Tryd.prog.globals[2]?).map (·.type) = some 114 := by kernel_rfl
theorem u102 : Tryd.prog.underlying 102 = some (.map 4 101) := by kernel_rfl
theorem u4 : Tryd.prog.underlying 4 = some .bool := by kernel_rfl
theorem u5 : Tryd.prog.underlying 5 = some (.int .u8) := by kernel_rfl
theorem u100 : Tryd.prog.underlying 100 = some (.func #[85, 3] #[4] false) := by kernel_rfl
theorem u101 : Tryd.prog.underlying 101 = some (.struct #[{ name := "is", type := 100, offset := 0, embedded := false, tag := "", pkgPath := "spoondrift/bits", byteOffset := 0 }]) := by kernel_rfl
theorem u114 : Tryd.prog.underlying 114 = some (.array 64 5) := by kernel_rfl

theorem var_block {P : Program} {w : World} {n : String} {g : Nat} {cs : Array Value} (hg : P.globalNamed n = some g) (h : w.var? P n = some cs) : ∃ t fz, w.heap[g]? = some (.cells cs t fz) := by
  simp only [World.var?, hg, Option.bind_some] at h
  split at h
  · rename_i c t fz e
    injection h with h; subst h
    exact ⟨t, fz, e⟩
  · cases h

section
variable {H : Type} {enc : TypeId × Value → H} {P : Program} {w : World} {base : Nat} {sp : Nat → Bool} {held : Bool}
/-- A map that is read: its entries, each with its key. -/
theorem open_entries {t k e : TypeId} {fuel : Nat} {cs : List Value} {ds : List (Lit × DataW H)} {p : List MemPlace} (ht : P.underlying t = some (.map k e))
    (h : DataW.trod enc P w base sp held fuel t cs = some (.map ds, p)) :
    ∃ n b es clk ys, fuel = n + 1 ∧ cs = [.map (some b)] ∧ w.heap[b]? = some (.map es clk) ∧
      (es.toList.mapM fun x => (keyOf P k x.key).bind fun key => if x.val.formed P e then (DataW.trod enc P w base sp held n e x.val.cells.toList).map fun y => ((key, y.1), y.2) else none) = some ys ∧
      (ys.map (·.1)).foldr DataW.insert [] = ds := by
  cases fuel with
  | zero => simp [DataW.trod] at h
  | succ n =>
    rw [DataW.trod_step] at h
    unfold DataW.trodStep at h
    rw [ht] at h
    split at h
    all_goals first
      | (rename_i e1; cases e1; done)
      | skip
    all_goals first
      | (cases h; done)
      | skip
    rename_i b e1
    split at h
    · rename_i es clk hb
      split at h
      · rw [Option.bind_eq_some_iff] at h
        obtain ⟨ys, h1, h2⟩ := h
        dsimp only at h2
        split at h2
        · injection h2 with h2
          injection h2 with h3 h4
          injection h3 with h3
          cases e1
          exact ⟨n, b, es, clk, ys, rfl, rfl, hb, h1, h3⟩
        · cases h2
      · cases h
    · cases h
end

theorem insert_length {H : Type} (x : Lit × DataW H) : ∀ l : List (Lit × DataW H), (DataW.insert x l).length = l.length + 1
  | [] => rfl
  | y :: r => by
    unfold DataW.insert
    split
    · simp
    · simp [insert_length x r]
theorem foldr_insert_length {H : Type} : ∀ l : List (Lit × DataW H), (l.foldr DataW.insert []).length = l.length
  | [] => rfl
  | x :: l => by rw [List.foldr_cons, insert_length, foldr_insert_length l]; simp

def tokCol (lead : Bool) : List UInt8 := if lead then [115, 112, 111, 111, 110, 100, 114, 105, 102, 116, 47, 98, 105, 116, 115, 46, 99, 111, 108, 117, 109, 110, 115, 36, 49] else [115, 112, 111, 111, 110, 100, 114, 105, 102, 116, 47, 98, 105, 116, 115, 46, 99, 111, 108, 117, 109, 110, 115, 36, 50]
/-- One entry of the table of columns. -/
theorem entry_col {w : World} {n : Nat} {x : MapEntry} {y : (Lit × DataW (List UInt8)) × List MemPlace} {q : Bool}
    (h : ((keyOf Tryd.prog 4 x.key).bind fun key => if x.val.formed Tryd.prog 101 then (DataW.trod (funcToken Tryd.prog) Tryd.prog w 0 (fun _ => true) true n 101 x.val.cells.toList).map fun y => ((key, y.1), y.2) else none) = some y)
    (hy : y.1 = (.bool q, .agg [.held (tokCol q)])) : x.key = .bool q ∧ x.val = .agg #[.func (.func (colF q)) #[] #[]] := by
  rw [Option.bind_eq_some_iff] at h
  obtain ⟨key, hk, h⟩ := h
  split at h
  rotate_left
  · cases h
  rename_i hf
  rw [Option.map_eq_some_iff] at h
  obtain ⟨z, hz, rfl⟩ := h
  simp only [Prod.mk.injEq] at hy
  obtain ⟨rfl, hz1⟩ := hy
  have hkey : x.key = .bool q := by
    unfold keyOf at hk
    rw [u4] at hk
    simp only [mapKey, u4] at hk
    split at hk <;> first
      | (rename_i heq _; cases heq; done)
      | skip
    all_goals first
      | (cases hk; done)
      | skip
    all_goals (simp_all)
  refine ⟨hkey, ?_⟩
  obtain ⟨xs, m, rfl, hx, hl, hn, hel⟩ := DataW.trod_struct u101 hz
  have hc1 : Tryd.prog.cellsOf 101 = 1 := by kernel_rfl
  have hc2 : Tryd.prog.cellsOf 100 = 1 := by kernel_rfl
  have h0 := hel 0 _ rfl
  rw [hx] at hz1
  simp only [DataW.agg.injEq] at hz1
  cases hv : x.val with
  | agg c =>
    rw [hv] at hl h0 hf
    simp only [Value.cells] at hl h0
    obtain ⟨l⟩ := c
    rw [hc1] at hl
    match l, hl with
    | [a], _ =>
      match xs, hn, hz1, h0 with
      | [e0], _, hz1, h0 =>
        simp only [List.map_cons, List.map_nil, List.cons.injEq, and_true] at hz1
        simp only [hc2, List.drop_zero, List.take_one, List.getElem?_cons_zero] at h0
        have h1 : DataW.trod (funcToken Tryd.prog) Tryd.prog w 0 (fun _ => true) true m 100 [a] = some (.held (tokCol q), e0.2) := by
          rw [← hz1]; simpa [hc2] using h0
        cases q with
        | true => rw [func_of_trod (f0 := 139) u100 (by kernel_rfl) h1]; rfl
        | false => rw [func_of_trod (f0 := 140) u100 (by kernel_rfl) h1]; rfl
  | _ =>
    rw [hv] at hf
    simp [Value.formed, u101] at hf

/-- What the table of columns holds. -/
theorem open_cols {w : World} (h : funcsAt Tryd.prog w "spoondrift/bits.columns" (.map [(.bool false, .agg [.iface "func" (.lit (.string (tokCol false)))]), (.bool true, .agg [.iface "func" (.lit (.string (tokCol true)))])])) :
    ∃ bm c t fz es clk x1 x2 b, w.heap[0]? = some (.cells c t fz) ∧ c[0]? = some (.map (some bm)) ∧ w.heap[bm]? = some (.map es clk) ∧ es.toList = [x1, x2] ∧
      x1.key = .bool b ∧ x1.val = .agg #[.func (.func (colF b)) #[] #[]] ∧ x2.key = .bool (!b) ∧ x2.val = .agg #[.func (.func (colF (!b))) #[] #[]] := by
  obtain ⟨g, t, cs, fuel, p, hg, ht, hc, hd⟩ := h
  obtain rfl := Option.some.inj (gCol.symm.trans hg)
  obtain rfl := Option.some.inj (tCol.symm.trans ht)
  obtain ⟨ty, fz, hb0⟩ := var_block hg hc
  have hout : (DataW.map [(.bool false, .agg [.iface "func" (.lit (.string (tokCol false)))]), (.bool true, .agg [.iface "func" (.lit (.string (tokCol true)))])] : DataW Unit).funcsOut =
      .map [(.bool false, .agg [.held (tokCol false)]), (.bool true, .agg [.held (tokCol true)])] := by rfl
  rw [hout] at hd
  obtain ⟨n, bm, es, clk, ys, rfl, hcs, hbm, hys, hfold⟩ := open_entries u102 hd
  have hlen : ys.length = 2 := by
    have := congrArg List.length hfold
    rw [foldr_insert_length] at this
    simpa using this
  have hlen2 : es.toList.length = 2 := by
    have := mapM_some_length hys
    omega
  match hes : es.toList, hlen2 with
  | [x1, x2], _ =>
    match ys, hlen with
    | [y1, y2], _ =>
      rw [hes] at hys
      have f1 := mapM_some_get hys 0 x1 rfl
      have f2 := mapM_some_get hys 1 x2 rfl
      simp only [List.map_cons, List.map_nil, List.foldr_cons, List.foldr_nil, DataW.insert] at hfold
      have hc0 : cs[0]? = some (.map (some bm)) := by
        obtain ⟨l⟩ := cs
        simp only at hcs
        rw [hcs]; rfl
      split at hfold
      · simp only [List.cons.injEq, and_true] at hfold
        obtain ⟨k1, v1⟩ := entry_col (q := false) f1 hfold.1
        obtain ⟨k2, v2⟩ := entry_col (q := true) f2 hfold.2
        exact ⟨bm, cs, ty, fz, es, clk, x1, x2, false, hb0, hc0, hbm, hes, k1, v1, k2, v2⟩
      · simp only [List.cons.injEq, and_true] at hfold
        obtain ⟨k1, v1⟩ := entry_col (q := true) f1 hfold.2
        obtain ⟨k2, v2⟩ := entry_col (q := false) f2 hfold.1
        exact ⟨bm, cs, ty, fz, es, clk, x1, x2, true, hb0, hc0, hbm, hes, k1, v1, k2, v2⟩

/-- An array of numbers that is read. -/
theorem open_nums {H : Type} {enc : TypeId × Value → H} {P : Program} {w : World} {sp : Nat → Bool} {held : Bool} {t e n fuel : Nat} {k : IntKind} {cs : List Value} {ds : List (DataW H)} {p : List MemPlace}
    (ht : P.underlying t = some (.array n e)) (he : P.underlying e = some (.int k)) (hc : P.cellsOf e = 1) (h : DataW.trod enc P w 0 sp held fuel t cs = some (.agg ds, p)) {i : Nat} {v : Int} (hi : ds[i]? = some (.lit (.int k v))) :
    cs[i]? = some (.int k v) := by
  obtain ⟨xs, m, rfl, hx, hl, hn, hel⟩ := DataW.trod_array ht h
  simp only [Prod.mk.injEq, DataW.agg.injEq] at hx
  obtain ⟨rfl, _⟩ := hx
  rw [List.getElem?_map, Option.map_eq_some_iff] at hi
  obtain ⟨y, hy, hy1⟩ := hi
  have hin : i < n := by rw [← hn]; exact (List.getElem?_eq_some_iff.1 hy).1
  have h0 := hel i hin
  rw [hy, hc, Nat.mul_one] at h0
  obtain ⟨q, e1, e2, _⟩ := DataW.trod_int he h0
  have e3 : q = v := by
    rw [e2] at hy1
    simpa using hy1
  subst e3
  have := congrArg (·[0]?) e1
  simpa [List.getElem?_take, List.getElem?_drop] using this
def laid3 : List (String × DataW Unit) := [("math/bits.deBruijn32tab", Rows.laid_math_bits_deBruijn32tab), ("math/bits.deBruijn64tab", Rows.laid_math_bits_deBruijn64tab), ("spoondrift/bits.columns", Rows.laid_spoondrift_bits_columns)]
theorem deb_data : (Rows.laid_math_bits_deBruijn64tab : DataW Unit) = .agg (deB.map fun x => .lit (.int .u8 (Int.ofNat x))) := by rfl
theorem col_data : (Rows.laid_spoondrift_bits_columns : DataW Unit) = .iface "func table" (.map [(.bool false, .agg [.iface "func" (.lit (.string (tokCol false)))]), (.bool true, .agg [.iface "func" (.lit (.string (tokCol true)))])]) := by rfl
theorem of_laid {w : World} (h : laidMetH Tryd.prog laid3 w) :
    (∃ bm c t fz es clk x1 x2 b, w.heap[0]? = some (.cells c t fz) ∧ c[0]? = some (.map (some bm)) ∧ w.heap[bm]? = some (.map es clk) ∧ es.toList = [x1, x2] ∧
      x1.key = .bool b ∧ x1.val = .agg #[.func (.func (colF b)) #[] #[]] ∧ x2.key = .bool (!b) ∧ x2.val = .agg #[.func (.func (colF (!b))) #[] #[]]) ∧
    ∃ c t fz, w.heap[2]? = some (.cells c t fz) ∧ ∀ (i x : Nat), deB[i]? = some x → c[i]? = some (Value.int .u8 (Int.ofNat x)) := by
  refine ⟨open_cols ?_, ?_⟩
  · exact h.funcs (n := "spoondrift/bits.columns") (by rw [← col_data]; simp [laid3])
  · have h1 : laidMet Tryd.prog [("math/bits.deBruijn32tab", Rows.laid_math_bits_deBruijn32tab), ("math/bits.deBruijn64tab", Rows.laid_math_bits_deBruijn64tab)] w := by
      have e1 : laid3.filter (fun x => x.2.handleName?.isSome) = [("spoondrift/bits.columns", Rows.laid_spoondrift_bits_columns)] := by rfl
      have e2 : laid3.filter (fun x => x.2.handleName?.isNone) = [("math/bits.deBruijn32tab", Rows.laid_math_bits_deBruijn32tab), ("math/bits.deBruijn64tab", Rows.laid_math_bits_deBruijn64tab)] := by rfl
      unfold laidMetH at h
      rw [e1, e2] at h
      exact h.1
    obtain ⟨ps, ⟨g0, t0, cs0, f0, p0, q0, hg0, ht0, hv0, hd0, ⟨g1, t1, cs1, f1, p1, q1, hg1, ht1, hv1, hd1, _, _⟩, _⟩, _, _⟩ := h1
    obtain rfl := Option.some.inj (gDeb.symm.trans hg1)
    obtain rfl := Option.some.inj (tDeb.symm.trans ht1)
    obtain ⟨ty, fz, hb⟩ := var_block hg1 hv1
    refine ⟨cs1, ty, fz, hb, fun i x hx => ?_⟩
    rw [deb_data] at hd1
    have := open_nums (i := i) (v := Int.ofNat x) u114 u5 (by kernel_rfl) hd1 (by rw [List.getElem?_map, hx]; rfl)
    simpa using this
end Go.AM

/-! ### F1 -/
namespace Go.AM
open Go.Proofs Go.Proofs.YtgiidbomifmcaaaDoor Go.RowKit
set_option maxRecDepth 100000
set_option linter.unusedVariables false

/-- An argument that is a slice: where it lies, and the numbers that may be read. -/
structure Arg0 where
  blk : Nat
  off : Nat
  cap : Nat
  cs : Array Value
def arg0 : Arg0 := ⟨0, 0, 0, #[]⟩
def colEs (b : Bool) : List (Value × Value) := [(.bool b, .agg #[.func (.func (colF b)) #[] #[]]), (.bool (!b), .agg #[.func (.func (colF (!b))) #[] #[]])]
def mem0 (b : Bool) (A : List Arg0) : Mem := (AObj.cells false #[.map (some 3)] :: .dead :: .cells false (cellsB deB) :: .map false (colEs b) :: A.map fun a => AObj.cells false a.cs).toArray
def beta0 (bm : Nat) (A : List Arg0) : Beta where
  blk i := if i < 3 then i else if i = 3 then bm else (A.getD (i - 4) arg0).blk
  sh i := if i < 4 then 0 else (A.getD (i - 4) arg0).off
  cap i := if i < 4 then 1000000 else (A.getD (i - 4) arg0).off + max (A.getD (i - 4) arg0).cs.size (A.getD (i - 4) arg0).cap
/-- What is known of an argument's cells. -/
def Arg0.ok (W : World) (a : Arg0) : Prop := ∃ c t fz, W.heap[a.blk]? = some (.cells c t fz) ∧ ∀ (i : Nat) v, a.cs[i]? = some v → c[a.off + i]? = some v ∧ ∃ k x, v = .int k x
theorem mem0_size (b : Bool) (A : List Arg0) : (mem0 b A).size = 4 + A.length := by simp [mem0]; omega
theorem mem0_get (b : Bool) (A : List Arg0) (i : Nat) : Mem.get (mem0 b A) i = if i = 0 then .cells false #[.map (some 3)] else if i = 1 then .dead else if i = 2 then .cells false (cellsB deB) else if i = 3 then .map false (colEs b) else if h : i - 4 < A.length then .cells false (A[i - 4]).cs else .dead := by
  unfold Mem.get mem0
  rw [Array.getD_eq_getD_getElem?, List.getElem?_toArray]
  match i with
  | 0 => rfl
  | 1 => rfl
  | 2 => rfl
  | 3 => rfl
  | i + 4 =>
    rw [if_neg (by omega), if_neg (by omega), if_neg (by omega), if_neg (by omega)]
    simp only [List.getElem?_cons_succ, Nat.add_sub_cancel, List.getElem?_map]
    by_cases h : i < A.length
    · rw [dif_pos h, List.getElem?_eq_getElem h]; rfl
    · rw [dif_neg h, List.getElem?_eq_none (by omega)]; rfl
theorem glob0 (b : Bool) (A : List Arg0) : Glob (mem0 b A) := by
  refine ⟨⟨false, 3, false, colEs b, if b then 0 else 1, if b then 1 else 0, by rw [mem0_get]; rfl, by rw [mem0_get]; rfl, ?_, ?_⟩, false, by rw [mem0_get]; rfl⟩
  · cases b <;> rfl
  · cases b <;> rfl
theorem rel0 {W : World} (hL : laidMetH Tryd.prog laid3 W) {A : List Arg0} (hA : ∀ a ∈ A, a.ok W) : ∃ bm b, Rel Tryd.prog (beta0 bm A) (mem0 b A) W := by
  obtain ⟨⟨bm, c, t, fz, es, clk, x1, x2, b, h0, hc0, hbm, hes, k1, v1, k2, v2⟩, c2, t2, fz2, h2, hc2⟩ := of_laid hL
  refine ⟨bm, b, by rw [mem0_size]; have : Tryd.prog.globals.size = 3 := by kernel_rfl
                    omega, fun g hg => ?_, fun i hi => ?_, fun i j _ hr _ => ?_⟩
  · have : Tryd.prog.globals.size = 3 := by kernel_rfl
    have hg3 : g < 3 := by omega
    exact ⟨if_pos hg3, if_pos (by omega)⟩
  · rw [mem0_get] at hi ⊢
    by_cases e0 : i = 0
    · subst e0
      rw [if_pos rfl] at hi ⊢
      refine ⟨_, h0, c, t, fz, rfl, by simp [beta0], fun j v hj => ?_, fun h => by cases h⟩
      match j with
      | 0 =>
        simp at hj; subst hj
        refine ⟨_, by simpa [beta0] using hc0, ?_⟩
        have := VRel.map (β := beta0 bm A) (N := (mem0 b A).size) 3 (by rw [mem0_size]; omega)
        exact this
      | j + 1 => simp at hj
    rw [if_neg e0] at hi ⊢
    by_cases e1 : i = 1
    · subst e1; rw [if_pos rfl] at hi; cases hi
    rw [if_neg e1] at hi ⊢
    by_cases e2 : i = 2
    · subst e2
      rw [if_pos rfl] at hi ⊢
      refine ⟨_, h2, c2, t2, fz2, rfl, by simp [beta0, cellsB, deB], fun j v hj => ?_, fun h => by cases h⟩
      simp only [cellsB, List.getElem?_toArray, List.getElem?_map, Option.map_eq_some_iff] at hj
      obtain ⟨x, hx, rfl⟩ := hj
      exact ⟨_, by simpa [beta0] using hc2 j x hx, .int _ _⟩
    rw [if_neg e2] at hi ⊢
    by_cases e3 : i = 3
    · subst e3
      rw [if_pos rfl] at hi ⊢
      refine ⟨_, hbm, es, clk, rfl, ?_, fun j x e' hx he => ?_⟩
      · have := congrArg List.length hes
        simpa [colEs] using this
      · rw [← Array.getElem?_toList, hes] at he
        match j with
        | 0 =>
          simp [colEs] at hx he; subst hx he
          rw [k1, v1]
          exact ⟨.bool _, .agg _ _ rfl fun i v v' h1 h2 => by
            match i with
            | 0 => simp at h1 h2; subst h1 h2; exact .func _ _ _ _ _ rfl (fun i v v' h => by simp at h) rfl (fun i v v' h => by simp at h)
            | i + 1 => simp at h1⟩
        | 1 =>
          simp [colEs] at hx he; subst hx he
          rw [k2, v2]
          exact ⟨.bool _, .agg _ _ rfl fun i v v' h1 h2 => by
            match i with
            | 0 => simp at h1 h2; subst h1 h2; exact .func _ _ _ _ _ rfl (fun i v v' h => by simp at h) rfl (fun i v v' h => by simp at h)
            | i + 1 => simp at h1⟩
        | j + 2 => simp [colEs] at hx
    rw [if_neg e3] at hi ⊢
    by_cases e4 : i - 4 < A.length
    · rw [dif_pos e4] at hi ⊢
      obtain ⟨c, t, fz, g1, g2⟩ := hA _ (List.getElem_mem e4)
      have hb : (beta0 bm A).blk i = (A[i - 4]).blk := by
        simp only [beta0]; rw [if_neg (by omega), if_neg e3, List.getD_eq_getElem?_getD, List.getElem?_eq_getElem e4]; rfl
      have hsh : (beta0 bm A).sh i = (A[i - 4]).off := by
        simp only [beta0]; rw [if_neg (by omega), List.getD_eq_getElem?_getD, List.getElem?_eq_getElem e4]; rfl
      have hcp : (beta0 bm A).cap i = (A[i - 4]).off + max (A[i - 4]).cs.size (A[i - 4]).cap := by
        simp only [beta0]; rw [if_neg (by omega), List.getD_eq_getElem?_getD, List.getElem?_eq_getElem e4]; rfl
      refine ⟨_, by rw [hb]; exact g1, c, t, fz, rfl, by rw [hsh, hcp]; omega, fun j v hj => ?_, fun h => by cases h⟩
      obtain ⟨q1, k, x, rfl⟩ := g2 j v hj
      exact ⟨_, by rw [hsh]; exact q1, .int _ _⟩
    · rw [dif_neg e4] at hi; cases hi
  · rw [mem0_get] at hr
    repeat' split at hr
    all_goals cases hr
/-- From the abstract call to the machine's. -/
theorem entry {f : FuncId} {args args' : Array Value} {W : World} {A : List Arg0} (hL : laidMetH Tryd.prog laid3 W) (hA : ∀ a ∈ A, a.ok W)
    (hargs : ∀ bm, ARel (beta0 bm A) (4 + A.length) args args') (hc : ∀ b, ∃ v m', ACalls Tryd.prog f args (mem0 b A) v m' ∧ v = .bool true) :
    Calls Tryd.prog f args' W fun e W' => e = .returned (.bool true) ∧ Below W.heap.size W W' := by
  obtain ⟨bm, b, hR⟩ := rel0 hL hA
  obtain ⟨v, m', hcall, rfl⟩ := hc b
  refine (hcall.2 _ W args' hR (by rw [mem0_size]; exact hargs bm)).mono ?_
  rintro e W' ⟨v', rfl, β', hv, _, hS⟩
  cases hv
  refine ⟨rfl, hS.os, hS.tape, hS.output, hS.wsz, fun k hk => hS.keep k hk fun i hi => ?_⟩
  rw [mem0_get] at hi
  repeat' split at hi
  all_goals cases hi
end Go.AM
