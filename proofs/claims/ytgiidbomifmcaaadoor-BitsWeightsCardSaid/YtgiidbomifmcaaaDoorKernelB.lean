/- The machine made abstract: operations, calls, regions (part 2 of 2). -/
import Derived.Test.YtgiidbomifmcaaaDoorKernelA
import Derived.Orders
set_option linter.unusedVariables false
set_option linter.unusedSimpArgs false
/-! ### A10 -/
namespace Go.AM
set_option linter.unusedVariables false
set_option linter.unusedSimpArgs false

/-- What a piece of the machine comes to, beside an abstract value and memory. -/
def Eff (P : Program) (β : Beta) (m : Mem) (w : World) (s : Sem Value) (v : Value) (m' : Mem) : Prop :=
  ∃ v' w' β', s.run P w = .ok v' w' ∧ VRel β' m'.size v v' ∧ Rel P β' m' w' ∧ Stp β m w β' m' w'

theorem lay_get (o : Nat) : ∀ (l : List Value) (k : Nat) (c : Array Value) (i : Nat),
    ((l.zipIdx k).foldl (fun cs (x, j) => cs.setIfInBounds (o + j) x) c)[i]? = if o + k ≤ i ∧ i < o + k + l.length ∧ i < c.size then l[i - (o + k)]? else c[i]?
  | [], k, c, i => by
    simp only [List.zipIdx_nil, List.foldl_nil, List.length_nil, Nat.add_zero]
    rw [if_neg (by omega)]
  | x :: l, k, c, i => by
    simp only [List.zipIdx_cons, List.foldl_cons, List.length_cons]
    rw [lay_get o l (k + 1) _ i, Array.size_setIfInBounds]
    by_cases h1 : o + (k + 1) ≤ i ∧ i < o + (k + 1) + l.length ∧ i < c.size
    · rw [if_pos h1, if_pos (by omega)]
      have : i - (o + k) = (i - (o + (k + 1))) + 1 := by omega
      rw [this, List.getElem?_cons_succ]
    · rw [if_neg h1, Array.getElem?_setIfInBounds]
      by_cases h2 : o + k = i
      · subst h2
        by_cases h3 : o + k < c.size
        · rw [if_pos rfl, if_pos h3, if_pos (by omega)]; simp
        · rw [if_pos rfl, if_neg h3, if_neg (by omega)]
          exact (Array.getElem?_eq_none_iff.2 (by omega)).symm
      · rw [if_neg h2, if_neg (by omega)]

theorem lay_get' (c : Array Value) (o : Nat) (d : Array Value) (i : Nat) : (lay c o d)[i]? = if o ≤ i ∧ i < o + d.size ∧ i < c.size then d[i - o]? else c[i]? := by
  have := lay_get o d.toList 0 c i
  unfold lay
  rw [← Array.foldl_toList, Array.toList_zipIdx]
  simpa using this

theorem lay_size (c : Array Value) (o : Nat) (d : Array Value) : (lay c o d).size = c.size := by
  unfold lay
  rw [← Array.foldl_toList]
  generalize d.zipIdx.toList = l
  induction l generalizing c with
  | nil => rfl
  | cons x l ih => rw [List.foldl_cons, ih]; simp

theorem lay_rel {β : Beta} {N : Nat} {c c' d d' : Array Value} {o : Nat} (hc : ∀ (i : Nat) v, c[i]? = some v → ∃ v', c'[i]? = some v' ∧ VRel β N v v') (hd : ARel β N d d') :
    ∀ (i : Nat) v, (lay c o d)[i]? = some v → ∃ v', (lay c' o d')[i]? = some v' ∧ VRel β N v v' := by
  intro i v h
  rw [lay_get'] at h ⊢
  split at h
  · rename_i hi
    obtain ⟨u, hu, _⟩ := hc i (c[i]'(by omega)) (Array.getElem?_eq_getElem _)
    have hlt := (Array.getElem?_eq_some_iff.1 hu).1
    rw [if_pos ⟨hi.1, by rw [← hd.1]; exact hi.2.1, hlt⟩]
    exact hd.get h
  · rename_i hi
    obtain ⟨u, hu, hr⟩ := hc i v h
    have hlt := (Array.getElem?_eq_some_iff.1 h).1
    rw [if_neg (by rw [← hd.1]; intro hh; exact hi ⟨hh.1, hh.2.1, hlt⟩)]
    exact ⟨u, hu, hr⟩

theorem oneCell_rel {β : Beta} {N : Nat} {v v' : Value} (h : VRel β N v v') : v'.oneCell' = v.oneCell' := by cases h <;> rfl
theorem ARel.oneCell {β : Beta} {N : Nat} {c c' : Array Value} (h : ARel β N c c') (h1 : c.all Value.oneCell' = true) : c'.all Value.oneCell' = true := by
  rw [Array.all_eq_true] at h1 ⊢
  intro i hi
  have hi' : i < c.size := h.1 ▸ hi
  rw [oneCell_rel (h.2 i _ _ (Array.getElem?_eq_getElem hi') (Array.getElem?_eq_getElem hi))]
  exact h1 i hi'

theorem new_cells {P : Program} {β : Beta} {m : Mem} {w : World} (hR : Rel P β m w) {c c' : Array Value} (hc : ∀ (i : Nat) v, c[i]? = some v → ∃ v', c'[i]? = some v' ∧ VRel β m.size v v') (hle : c.size ≤ c'.size) (e : TypeId) :
    Rel P (β.ext m.size w.heap.size c'.size) (m.push (.cells true c)) (World.pushObj w (.cells c' e)) ∧ Stp β m w (β.ext m.size w.heap.size c'.size) (m.push (.cells true c)) (World.pushObj w (.cells c' e)) := by
  refine hR.push ⟨c', e, (0, 0), rfl, ?_, fun i v hi => ?_, fun _ => ⟨?_, ?_, fun i _ => by omega⟩⟩
  · simp [Beta.ext]; exact hle
  · obtain ⟨v', hv', hr⟩ := hc i v hi
    exact ⟨v', by simpa [Beta.ext] using hv', hr.mono (Beta.ext_agree _ _ _ _) (by omega)⟩
  · simp [Beta.ext]
  · simp [Beta.ext]

theorem ptr_new {β : Beta} {m : Mem} {w : World} {cap : Nat} (o : AObj) : VRel (β.ext m.size w.heap.size cap) (m.push o).size (.pointer (some ⟨m.size, 0, none⟩)) (.pointer (some ⟨w.heap.size, 0, none⟩)) := by
  have := VRel.ptr (β := β.ext m.size w.heap.size cap) (N := (m.push o).size) m.size 0 (by simp)
  simpa [Beta.ext] using this

/-! ### Variables -/
def aAlloc (P : Program) (m : Mem) (e : TypeId) : Option (Value × Mem) :=
  match zeroOf P e with
  | some z => if z.cells.all flat0 then some (.pointer (some ⟨m.size, 0, none⟩), m.push (.cells true z.cells)) else none
  | none => none
theorem aAlloc_sound {P : Program} {β : Beta} {m m' : Mem} {w : World} {e : TypeId} {v : Value} (hR : Rel P β m w) (h : aAlloc P m e = some (v, m')) : Eff P β m w (Instr.alloc e true (.tuple #[])) v m' := by
  unfold aAlloc at h
  split at h
  · rename_i z hz
    split at h
    · rename_i hf
      injection h with h; injection h with h1 h2; subst h1 h2
      obtain ⟨r1, r2⟩ := new_cells hR (fun i v hi => (ARel.flat (β := β) (N := m.size) hf).get hi) (Nat.le_refl _) e
      exact ⟨_, _, _, by simp [Instr.alloc, run_zeroValue hz, newVar, newRow]; rfl, ptr_new _, r1, r2⟩
    · cases h
  · cases h

def aBox (m : Mem) (x : Value) : Value × Mem := (.pointer (some ⟨m.size, 0, none⟩), m.push (.cells true x.cells))
theorem aBox_sound {P : Program} {β : Beta} {m : Mem} {w : World} {e : TypeId} {x x' : Value} (hR : Rel P β m w) (hx : VRel β m.size x x') : Eff P β m w (Instr.box e x') (aBox m x).1 (aBox m x).2 := by
  have hc := ARel.cells hx
  obtain ⟨r1, r2⟩ := new_cells hR (fun i v hi => hc.get hi) (by rw [hc.1]; exact Nat.le_refl _) e
  exact ⟨_, _, _, by simp [Instr.box, newVar, newRow]; rfl, ptr_new _, r1, r2⟩

def aStore (P : Program) (m : Mem) (t : TypeId) (a v : Value) : Option Mem :=
  match a with
  | .pointer (some ⟨b, o, none⟩) =>
    match Mem.get m b with
    | .cells true c => if szOf P t = some v.cells.size ∧ o + v.cells.size ≤ c.size ∧ v.cells.all Value.oneCell' = true then some (m.setIfInBounds b (.cells true (lay c o v.cells))) else none
    | _ => none
  | _ => none

theorem write_cells {P : Program} {β : Beta} {m : Mem} {w : World} (hR : Rel P β m w) {b o : Nat} {c d d' : Array Value} (hb : Mem.get m b = .cells true c) (hd : ARel β m.size d d') (ho : o + d.size ≤ c.size) (h1 : d.all Value.oneCell' = true) :
    ∃ w', (storeCells ⟨β.blk b, β.sh b + o, none⟩ d'.toList).run P w = .ok () w' ∧ Rel P β (m.setIfInBounds b (.cells true (lay c o d))) w' ∧ Stp β m w β (m.setIfInBounds b (.cells true (lay c o d))) w' := by
  obtain ⟨c', e', fz, hw, hcap, hcs, hrw⟩ := hR.cells b true c hb
  obtain ⟨hsh, hsz, hfz⟩ := hrw rfl
  rw [hsh] at hcap
  simp only [Nat.zero_add] at hcap
  have hcs' : ∀ (i : Nat) v, c[i]? = some v → ∃ v', c'[i]? = some v' ∧ VRel β m.size v v' := by
    intro i v hi
    have := hcs i v hi
    rw [hsh, Nat.zero_add] at this; exact this
  have hr := run_storeCells' (P := P) (off := β.sh b + o) hw (hd.oneCell h1) (by rw [hsh, ← hd.1]; omega) hfz
  refine ⟨_, hr, ?_⟩
  rw [hsh, Nat.zero_add]
  refine hR.upd (by rw [hb]; rfl) (fun c h => by rw [hb] at h; cases h) ⟨lay c' o d', e', fz, rfl, ?_, fun i v hi => ?_, fun _ => ⟨hsh, by rw [lay_size]; exact hsz, by rw [lay_size]; exact hfz⟩⟩
  · rw [hsh, lay_size]; omega
  · rw [hsh, Nat.zero_add]; exact lay_rel hcs' hd i v hi

theorem aStore_sound {P : Program} {β : Beta} {m m' : Mem} {w : World} {t : TypeId} {a a' v v' : Value} (hR : Rel P β m w) (ha : VRel β m.size a a') (hv : VRel β m.size v v') (h : aStore P m t a v = some m') :
    ∃ w', (Instr.storeAt t a' v').run P w = .ok () w' ∧ Rel P β m' w' ∧ Stp β m w β m' w' := by
  unfold aStore at h
  split at h
  · rename_i b o
    cases ha with
    | ptr _ _ hb =>
      split at h
      · rename_i c e1
        split at h
        · rename_i hc
          injection h with h; subst h
          have hcells := ARel.cells hv
          obtain ⟨w', hr, r1, r2⟩ := write_cells hR e1 hcells hc.2.1 hc.2.2
          refine ⟨w', ?_, r1, r2⟩
          simp only [Instr.storeAt, Instr.sureAddr, Sem.run_bind, Sem.run_pure, Result.andThen_ok, storeVar, run_sizeOf hc.1]
          rw [if_neg (by rw [hcells.1]; simp)]
          exact hr
        · cases h
      · cases h
  · cases h

/-! ### Slices that are made -/
theorem zeros_rel {β : Beta} {N : Nat} {z : Array Value} (hz : z.all flat0 = true) (h0 : z.size ≠ 0) (n : Nat) : ARel β N ((Array.range n).map (z[· % z.size]!)) ((Array.range n).map (z[· % z.size]!)) := by
  refine ARel.map _ _ _ (fun x _ => ?_)
  refine .flat0 ?_
  have hlt : x % z.size < z.size := Nat.mod_lt _ (Nat.pos_of_ne_zero h0)
  rw [Array.all_eq_true] at hz
  have := hz (x % z.size) hlt
  rw [getElem!_pos z (x % z.size) hlt]; exact this

theorem slice_new {β : Beta} {m : Mem} {w : World} {o : AObj} {sz len cap cells : Nat} (hz : 0 < sz) (hl : len ≤ cap) (hc : cap * sz ≤ cells) :
    VRel (β.ext m.size w.heap.size cells) (m.push o).size (.slice (some ⟨m.size, 0, some sz⟩) len cap) (.slice (some ⟨w.heap.size, 0, none⟩) len cap) := by
  have := VRel.slice (β := β.ext m.size w.heap.size cells) (N := (m.push o).size) m.size 0 sz len cap cap (by simp) hz hl (Nat.le_refl _) (by simp [Beta.ext]; exact hc)
  simpa [Beta.ext] using this

theorem slice_new' {β : Beta} {m : Mem} {w : World} {o : AObj} {sz len cap cap' cells : Nat} (hz : 0 < sz) (hl : len ≤ cap) (hcc : cap ≤ cap') (hc : cap' * sz ≤ cells) :
    VRel (β.ext m.size w.heap.size cells) (m.push o).size (.slice (some ⟨m.size, 0, some sz⟩) len cap) (.slice (some ⟨w.heap.size, 0, none⟩) len cap') := by
  have := VRel.slice (β := β.ext m.size w.heap.size cells) (N := (m.push o).size) m.size 0 sz len cap cap' (by simp) hz hl hcc (by simp [Beta.ext]; exact hc)
  simpa [Beta.ext] using this

def aBuildSlice (P : Program) (m : Mem) (t : TypeId) (len : Nat) (ps : List (Nat × Value)) : Option (Value × Mem) :=
  match undOf P t with
  | some (.slice elem) =>
    match szOf P elem, zeroOf P elem with
    | some sz, some z =>
      if 0 < sz ∧ len * sz ≤ 16777216 ∧ z.cells.size ≠ 0 ∧ z.cells.all flat0 = true then
        match Instr.fill (fun i => some (i * sz, sz)) (if len * sz = 0 then #[] else (Array.range (len * sz)).map (z.cells[· % z.cells.size]!)) ps with
        | some c => if c.size = len * sz then some (.slice (some ⟨m.size, 0, some sz⟩) len len, m.push (.cells true c)) else none
        | none => none
      else none
    | _, _ => none
  | _ => none

theorem aBuildSlice_sound {P : Program} {β : Beta} {m m' : Mem} {w : World} {t : TypeId} {len : Nat} {ps : List (Nat × Value)} {ps' : Array (Nat × Value)} {v : Value} (hR : Rel P β m w) (hp : PRel β m.size ps ps'.toList)
    (h : aBuildSlice P m t len ps = some (v, m')) : Eff P β m w (Instr.buildSlice t len ps') v m' := by
  unfold aBuildSlice at h
  split at h
  · rename_i elem e1
    split at h
    · rename_i sz z e2 e3
      split at h
      · rename_i hc
        split at h
        · rename_i c ec
          split at h
          · rename_i hcs
            injection h with h; injection h with h1 h2; subst h1 h2
            have hz := zeros_rel (β := β) (N := m.size) hc.2.2.2 hc.2.2.1 (len * sz)
            have h24 : ¬ (len * sz > 2 ^ 24) := by have := hc.2.1; omega
            by_cases h0 : len * sz = 0
            · rw [if_pos h0] at ec
              obtain ⟨c', ec', hcc⟩ := fill_rel _ ps ps'.toList _ _ c hp (ARel.nil β m.size) ec
              obtain ⟨r1, r2⟩ := new_cells hR (fun i v hi => hcc.get hi) (by rw [hcc.1]; exact Nat.le_refl _) elem
              have hsz' : c'.size = len * sz := by rw [← hcc.1]; exact hcs
              refine ⟨_, _, _, ?_, slice_new (w := w) hc.1 (Nat.le_refl _) (Nat.le_of_eq hsz'.symm), r1, r2⟩
              have hm : ∀ f : Nat → Value, (Array.range (len * sz)).map f = #[] := by intro f; rw [h0]; simp
              simp only [Instr.buildSlice, Sem.run_bind, run_underlying e1, Result.andThen_ok, run_sizeOf e2, h24, if_false]
              rw [if_pos h0]
              simp only [Sem.run_bind, Sem.run_pure, Result.andThen_ok, hm, ec', newRow, run_newObj]
              rfl
            · rw [if_neg h0] at ec
              obtain ⟨c', ec', hcc⟩ := fill_rel _ ps ps'.toList _ _ c hp hz ec
              obtain ⟨r1, r2⟩ := new_cells hR (fun i v hi => hcc.get hi) (by rw [hcc.1]; exact Nat.le_refl _) elem
              have hsz' : c'.size = len * sz := by rw [← hcc.1]; exact hcs
              refine ⟨_, _, _, ?_, slice_new (w := w) hc.1 (Nat.le_refl _) (Nat.le_of_eq hsz'.symm), r1, r2⟩
              simp only [Instr.buildSlice, Sem.run_bind, run_underlying e1, Result.andThen_ok, run_sizeOf e2, h24, if_false]
              rw [if_neg h0]
              simp only [Sem.run_bind, run_zeroValue e3, Sem.run_pure, Result.andThen_ok, ec', newRow, run_newObj]
              rfl
          · cases h
        · cases h
      · cases h
    · cases h
  · cases h

theorem wrap_i64 {n : Int} (h0 : 0 ≤ n) (h1 : n < 9223372036854775808) : IntKind.i64.wrap n = n := by
  have e : IntKind.i64.bits = 64 := rfl
  unfold IntKind.wrap
  simp only [e]
  have : n % (2 ^ 64 : Int) = n := Int.emod_eq_of_lt h0 (by omega)
  rw [this]
  split
  · rename_i hh; simp at hh; omega
  · rfl

def bytesOf' (P : Program) (t : TypeId) : Option Nat := (infoF P t).map (·.bytes)
theorem info_of {P : Program} {t : TypeId} {n : Nat} (h : bytesOf' P t = some n) : ∃ i, P.info? t = some i ∧ i.bytes = n := by
  unfold bytesOf' at h
  cases e : infoF P t with
  | none => rw [e] at h; cases h
  | some i => rw [e] at h; injection h with h; exact ⟨i, infoF_spec e, h⟩

def aMakeSlice (P : Program) (m : Mem) (t : TypeId) (len cap : Value) : Option (Value × Mem) :=
  match undOf P t, len, cap with
  | some (.slice elem), .int _ l, .int _ c =>
    match szOf P elem, zeroOf P elem, bytesOf' P elem with
    | some sz, some z, some by_ =>
      if 0 < sz ∧ z.cells.size ≠ 0 ∧ z.cells.all flat0 = true ∧ 0 ≤ l ∧ l ≤ c ∧ c ≤ 1099511627776 ∧ by_ * c.toNat ≤ 140737488355328 then
        some (.slice (some ⟨m.size, 0, some sz⟩) l.toNat c.toNat, m.push (.cells true ((Array.range (c.toNat * sz)).map (z.cells[· % z.cells.size]!))))
      else none
    | _, _, _ => none
  | _, _, _ => none

theorem aMakeSlice_sound {P : Program} {β : Beta} {m m' : Mem} {w : World} {t : TypeId} {len cap len' cap' v : Value} (hR : Rel P β m w) (hl : VRel β m.size len len') (hc : VRel β m.size cap cap')
    (h : aMakeSlice P m t len cap = some (v, m')) : Eff P β m w (Instr.makeSlice t len' cap') v m' := by
  unfold aMakeSlice at h
  split at h
  · rename_i elem k l k2 c e1
    cases hl; cases hc
    split at h
    · rename_i sz z by_ e2 e3 e4
      split at h
      · rename_i hcond
        obtain ⟨hsz, hz0, hzf, hl0, hlc, hcb, hby⟩ := hcond
        injection h with h; injection h with h1 h2; subst h1 h2
        obtain ⟨i, ei, eb⟩ := info_of e4
        have hz := zeros_rel (β := β) (N := m.size) hzf hz0 (c.toNat * sz)
        obtain ⟨r1, r2⟩ := new_cells hR (fun i v hi => hz.get hi) (by rw [hz.1]; exact Nat.le_refl _) elem
        refine ⟨_, _, _, ?_, slice_new (w := w) hsz (by omega) (by simp), r1, r2⟩
        have hwl := wrap_i64 hl0 (by omega)
        have hwc := wrap_i64 (n := c) (by omega) (by omega)
        have hnl : ¬ ((i.bytes : Int) * c > 2 ^ 48) := by
          have : (i.bytes : Int) * c = ((i.bytes * c.toNat : Nat) : Int) := by rw [Int.natCast_mul]; congr 1; omega
          rw [this, eb]; omega
        have hcond : ((decide (c < 0) || decide ((i.bytes : Int) * c > 2 ^ 48)) || decide (l < 0) || decide (l > c)) = false := by
          simp only [Bool.or_eq_false_iff, decide_eq_false_iff_not]
          exact ⟨⟨⟨by omega, hnl⟩, by omega⟩, by omega⟩
        simp only [Instr.makeSlice, Sem.run_bind, run_underlying e1, Result.andThen_ok, asInt, asIntOf, Sem.run_pure, run_typeInfo ei, hwl, hwc]
        rw [if_neg (by rw [hcond]; simp)]
        simp only [Sem.run_bind, run_askRoom, Result.andThen_ok, run_sizeOf e2]
        by_cases h0 : c.toNat * sz = 0
        · rw [if_pos h0]
          have hm : ∀ f : Nat → Value, (Array.range (c.toNat * sz)).map f = #[] := by intro f; rw [h0]; simp
          simp only [Sem.run_bind, Sem.run_pure, Result.andThen_ok, hm, newRow, run_newObj]
          rfl
        · rw [if_neg h0]
          simp only [Sem.run_bind, run_zeroValue e3, Sem.run_pure, Result.andThen_ok, newRow, run_newObj]
          rfl
      · cases h
    · cases h
  · cases h

end Go.AM

/-! ### A11 -/
namespace Go.AM
set_option linter.unusedVariables false
set_option linter.unusedSimpArgs false

/-- How long what is appended, or copied, is. -/
def aLenOf : Value → Option Nat
  | .slice _ n _ => some n
  | .string s => some s.size
  | _ => none
theorem aLenOf_sound {P : Program} {β : Beta} {N : Nat} {w : World} {x x' : Value} {n : Nat} (hx : VRel β N x x') (h : aLenOf x = some n) : (Builtin.lenOf x').run P w = .ok n w := by
  unfold aLenOf at h
  split at h
  · injection h with h; subst h
    cases hx <;> rfl
  · injection h with h; subst h
    cases hx; rfl
  · cases h

/-- The first n elements of what is appended, or copied, as cells. -/
def aFirst (m : Mem) (sz n : Nat) (x : Value) : Option (Array Value) :=
  if n = 0 then some #[] else
  match x with
  | .slice (some ⟨b, o, some _⟩) _ _ =>
    match Mem.get m b with
    | .cells _ c => if o + n * sz ≤ c.size then some (c.extract o (o + n * sz)) else none
    | _ => none
  | .string s => some ((s.extract 0 n).data.map fun b => .int .u8 b.toNat)
  | _ => none

theorem aFirst_sound {P : Program} {β : Beta} {m : Mem} {w : World} {sz n : Nat} {x x' : Value} {c : Array Value} (hR : Rel P β m w) (hx : VRel β m.size x x') (hn : aLenOf x ≠ none) (h : aFirst m sz n x = some c) :
    ∃ c', (Builtin.firstCells sz n x').run P w = .ok c' w ∧ ARel β m.size c c' := by
  unfold aFirst at h
  split at h
  · rename_i h0
    injection h with h; subst h; subst h0
    cases hx <;> simp [aLenOf] at hn <;> first
      | exact ⟨#[], by simp [Builtin.firstCells, loadCells, loadCellsFrom], ARel.nil _ _⟩
      | exact ⟨#[], by simp [Builtin.firstCells], ARel.nil _ _⟩
  · rename_i h0
    split at h
    · rename_i b o s l cp
      cases hx with
      | slice _ _ _ _ _ cap' hb hz hl hc hbd =>
        split at h
        · rename_i r c0 e1
          obtain ⟨c', e', fz, hw, hcap, hcs, _⟩ := hR.cells b r c0 e1
          split at h
          · rename_i hle
            injection h with h; subst h
            rcases ARel.block (β := β) (N := m.size) hcs hle with ⟨hA, hlen⟩ | h1
            · refine ⟨_, ?_, hA⟩
              simp only [Builtin.firstCells, loadCells]
              rw [run_loadCells hw (n * sz) 0 #[] (by omega)]
              simp
            · refine ⟨#[], ?_, ?_⟩
              · simp only [Builtin.firstCells, loadCells, h1, loadCellsFrom, Sem.run_pure]
              · have : c0.extract o (o + n * sz) = #[] := by rw [h1]; simp; omega
                rw [this]; exact ARel.nil _ _
          · cases h
        · cases h
    · rename_i s
      cases hx
      injection h with h; subst h
      refine ⟨_, rfl, ?_⟩
      exact ARel.map _ _ _ (fun x _ => .int _ _)
    · cases h

def isIntT : TypeDesc → Bool
  | .int _ => true
  | _ => false

/-- What is left of a slice's row once more is appended. -/
def aAppend (P : Program) (m : Mem) (t xt : TypeId) (s x : Value) : Option (Value × Mem) :=
  match undOf P t, undOf P xt with
  | some (.slice elem), some ux =>
    match isIntT ux, szOf P elem, zeroOf P elem, bytesOf' P elem, aLenOf x with
    | false, some sz, some z, some by_, some n =>
      match aFirst m sz n x with
      | none => none
      | some new =>
        if 0 < sz ∧ z.cells.size = sz ∧ new.size = n * sz ∧ new.all Value.oneCell' = true then
          match s with
          | .slice none 0 0 =>
            if n = 0 then some (.slice none 0 0, m)
            else if n ≤ 1099511627776 ∧ n * by_ ≤ 70368744177664 then some (.slice (some ⟨m.size, 0, some sz⟩) n n, m.push (.cells true new)) else none
          | .slice (some ⟨b, o, some s'⟩) len cap =>
            if s' = sz then
              if n = 0 then some (s, m)
              else match Mem.get m b with
                | .cells true c =>
                  if len + n ≤ cap then
                    if o + (len + n) * sz ≤ c.size then some (.slice (some ⟨b, o, some sz⟩) (len + n) cap, m.setIfInBounds b (.cells true (lay c (o + len * sz) new))) else none
                  else if o = 0 ∧ len * sz ≤ c.size ∧ len + n ≤ 1099511627776 ∧ (len + n) * by_ ≤ 70368744177664 then
                    some (.slice (some ⟨m.size, 0, some sz⟩) (len + n) (len + n), (m.setIfInBounds b .dead).push (.cells true (c.extract 0 (len * sz) ++ new)))
                  else none
                | .grow c => if o = 0 ∧ len * sz = c.size ∧ len + n ≤ 1099511627776 ∧ (len + n) * by_ ≤ 70368744177664 then
                    some (.slice (some ⟨m.size, 0, some sz⟩) (len + n) (len + n), (m.setIfInBounds b (.cells false c)).push (.grow (c ++ new)))
                  else none
                | _ => none
            else none
          | .slice (some ⟨b, o, none⟩) 0 0 =>
            if n = 0 then some (s, m)
            else if o = 1 ∧ n ≤ 1099511627776 ∧ n * by_ ≤ 70368744177664 then some (.slice (some ⟨m.size, 0, some sz⟩) n n, m.push (.cells true new)) else none
          | _ => none
        else none
    | _, _, _, _, _ => none
  | _, _ => none

theorem growBy_le (newLen : Nat) : ∀ (r c : Nat), 256 ≤ c → c ≤ 2 * newLen → Builtin.growBy newLen r c ≤ 2 * newLen
  | 0, c, _, h => h
  | r + 1, c, h1, h2 => by
    unfold Builtin.growBy
    split
    · exact h2
    · rename_i hc
      exact growBy_le newLen r _ (by omega) (by omega)
theorem nextslicecap_le {need old : Nat} (h : old < need) : Builtin.nextslicecap need old ≤ 2 * need := by
  unfold Builtin.nextslicecap
  split
  · omega
  · split
    · omega
    · exact growBy_le need 4 old (by omega) (by omega)

theorem run_appendCap {P : Program} {w : World} {need old : Nat} {e : TypeId} (h : need < 9223372036854775808) : ∃ c, need ≤ c ∧ (choose (.appendCap need old e)).run P w = .ok c { w with drawn := w.drawn + 1 } := by
  refine ⟨_, ?_, by rw [run_choose, if_neg (by simp [Question.forced])]⟩
  simp [Question.cut]

theorem zeroCells_size (z : Array Value) (n : Nat) : (Builtin.zeroCells z n).size = n * z.size := by simp [Builtin.zeroCells]

/-- A new row: what was there, what comes, and room. -/
theorem append_moved {P : Program} {β : Beta} {m m0 : Mem} {w w0 : World} (hR : Rel P β m0 w) (hS : Stp β m w0 β m0 w) (hsz : m0.size = m.size) {elem : TypeId} {old new old' new' rest : Array Value} {need newCap sz : Nat} (ho : ARel β m.size old old') (hn : ARel β m.size new new')
    (hz : 0 < sz) (hlen : (old ++ new).size = need * sz) (hcap : need ≤ newCap) (hrest : rest.size = (newCap - need) * sz) :
    ∃ β', VRel β' (m0.push (.cells true (old ++ new))).size (.slice (some ⟨m0.size, 0, some sz⟩) need need) (.slice (some ⟨w.heap.size, 0, none⟩) need newCap) ∧
      Rel P β' (m0.push (.cells true (old ++ new))) (World.pushObj w (.cells (old' ++ new' ++ rest) elem)) ∧ Stp β m w0 β' (m0.push (.cells true (old ++ new))) (World.pushObj w (.cells (old' ++ new' ++ rest) elem)) := by
  have hA := ho.append hn
  have hsize : (old' ++ new' ++ rest).size = newCap * sz := by
    have h1 : (old' ++ new').size = need * sz := by rw [← hA.1]; exact hlen
    rw [Array.size_append, h1, hrest, ← Nat.add_mul]; congr 1; omega
  obtain ⟨r1, r2⟩ := new_cells (c' := old' ++ new' ++ rest) hR (c := old ++ new) (fun i v hi => by
    obtain ⟨v', e', hv⟩ := hA.get hi
    refine ⟨v', ?_, by rw [hsz]; exact hv⟩
    rw [Array.getElem?_append_left (Array.getElem?_eq_some_iff.1 e').1]; exact e') (by
      rw [hsize, hlen]; exact Nat.mul_le_mul_right _ hcap) elem
  exact ⟨_, slice_new' (m := m0) (w := w) hz (Nat.le_refl _) hcap (by rw [hsize]; exact Nat.le_refl _), r1, hS.trans r2⟩

/-- A new row goes on growing. -/
theorem Eff.regrow {P : Program} {β : Beta} {m m0 : Mem} {w : World} {s : Sem Value} {v : Value} {c : Array Value} (h : Eff P β m w s v (m0.push (.cells true c))) : Eff P β m w s v (m0.push (.grow c)) := by
  obtain ⟨v', w', β', hr, hv, hR, hS⟩ := h
  have hg : Mem.get (m0.push (.cells true c)) m0.size = .cells true c := by rw [get_push, if_pos rfl]
  have e : (m0.push (.cells true c)).setIfInBounds m0.size (.grow c) = m0.push (.grow c) := by
    apply Array.ext_getElem?
    intro i
    rw [Array.getElem?_setIfInBounds]
    by_cases hi : m0.size = i
    · subst hi; simp
    · rw [if_neg hi, Array.getElem?_push, Array.getElem?_push, if_neg (fun e => hi e.symm), if_neg (fun e => hi e.symm)]
  obtain ⟨r1, r2⟩ := hR.grow_of hg
  rw [e] at r1 r2
  exact ⟨v', w', β', hr, by simpa using hv, r1, hS.trans r2⟩
theorem aAppend_sound {P : Program} {β : Beta} {m m' : Mem} {w : World} {t xt rt : TypeId} {s x s' x' v : Value} (hR : Rel P β m w) (hs : VRel β m.size s s') (hx : VRel β m.size x x')
    (h : aAppend P m t xt s x = some (v, m')) : Eff P β m w (Builtin.append_ #[t, xt] rt #[s', x']) v m' := by
  unfold aAppend at h
  split at h
  rotate_left
  · cases h
  rename_i elem ux e1 e2
  split at h
  rotate_left
  · cases h
  rename_i sz z by_ n ez esz ezz eby en
  split at h
  · cases h
  rename_i new enew
  split at h
  rotate_left
  · cases h
  rename_i hcond
  obtain ⟨hsz, hzs, hns, hone⟩ := hcond
  obtain ⟨i, ei, eb⟩ := info_of eby
  have hlen := aLenOf_sound (P := P) (w := w) hx en
  obtain ⟨new', hfirst, hnew⟩ := aFirst_sound hR hx (by rw [en]; simp) enew
  have hnew1 : new'.all Value.oneCell' = true := hnew.oneCell hone
  -- the model's way to the branching
  have start : ∀ (base : Option Addr) (sLen sCap : Nat) (r : Result Value),
      (if sLen + n ≤ sCap then (match base with
          | some a => ((storeCells (a.add (sLen * sz)) new'.toList).run P w).andThen fun _ w' => .ok (.slice base (sLen + n) sCap) w'
          | none => .ok (.slice base (sLen + n) sCap) w)
        else
          if Builtin.nextslicecap (sLen + n) sCap * by_ > 2 ^ 48 then .halt (.stuck "") w else
          ((choose (.appendCap (sLen + n) sCap elem)).run P w).andThen fun newCap w1 =>
            ((Builtin.firstCells sz sLen (.slice base sLen sCap)).run P w1).andThen fun old w2 =>
              ((Builtin.firstCells sz n x').run P w2).andThen fun nw w3 =>
                .ok (.slice (some ⟨w3.heap.size, 0, none⟩) (sLen + n) newCap) (World.pushObj w3 (.cells (old ++ nw ++ Builtin.zeroCells z.cells (newCap - (sLen + n))) elem))) = r →
      (∀ q, r ≠ .halt (.stuck "") q) → (¬ (sLen + n ≤ sCap) → ((sLen + n : Nat) : Int) ≤ IntKind.i64.max) →
      (Builtin.append_ #[t, xt] rt #[.slice base sLen sCap, x']).run P w = r := by
    intro base sLen sCap r hr hq hby
    subst hr
    cases ux <;> first
      | (simp [isIntT] at ez; done)
      | (simp only [Builtin.append_, List.getElem?_toArray, List.getElem?_cons_zero, List.getElem?_cons_succ, Sem.run_bind, run_underlying e1, Result.andThen_ok, run_sizeOf esz, run_underlying e2, Sem.run_pure, Bool.false_eq_true, if_false, hlen, Bool.not_false, if_true]
         by_cases hc : sLen + n ≤ sCap
         · rw [if_pos hc, if_pos hc]
           simp only [Sem.run_bind, hfirst, Result.andThen_ok]
           cases base with
           | none => rfl
           | some a => simp only [Sem.run_bind, Sem.run_pure]
         · rw [if_neg hc, if_neg hc]
           have hb : ¬ (Builtin.nextslicecap (sLen + n) sCap * by_ > 2 ^ 48) := by
             intro hb
             rw [if_neg hc, if_pos hb] at hq
             exact hq _ rfl
           have hb' : ¬ (Builtin.nextslicecap (sLen + n) sCap * i.bytes > 2 ^ 48) := by rw [eb]; exact hb
           rw [if_neg hb]
           simp only [Sem.run_bind, run_typeInfo ei, Result.andThen_ok]
           rw [if_neg (by rintro ⟨h1, _⟩; have := hby hc; omega)]
           simp only [Sem.run_bind, run_typeInfo ei, Result.andThen_ok]
           rw [if_neg hb']
           simp only [Sem.run_bind, run_typeInfo ei, Result.andThen_ok, run_askRoom, run_zeroValue ezz, newRow, run_newObj, Sem.run_pure]
           rfl)
  -- room, where the row has to move
  have moved : ∀ (base : Option Addr) (sLen sCap : Nat) (m0 : Mem) (old : Array Value), Rel P β m0 w → Stp β m w β m0 w → m0.size = m.size → ¬ (sLen + n ≤ sCap) → sLen + n ≤ 1099511627776 → (sLen + n) * by_ ≤ 70368744177664 →
      old.size = sLen * sz → (∃ old', (Builtin.firstCells sz sLen (.slice base sLen sCap)).run P { w with drawn := w.drawn + 1 } = .ok old' { w with drawn := w.drawn + 1 } ∧ ARel β m.size old old') →
      Eff P β m w (Builtin.append_ #[t, xt] rt #[.slice base sLen sCap, x']) (.slice (some ⟨m.size, 0, some sz⟩) (sLen + n) (sLen + n)) (m0.push (.cells true (old ++ new))) := by
    rintro base sLen sCap m0 old hR0 hS0 hsz0 hc h40 hby hold ⟨old', hold', hrel⟩
    obtain ⟨newCap, hge, hch⟩ := run_appendCap (P := P) (w := w) (need := sLen + n) (old := sCap) (e := elem) (by omega)
    have hdr : ({ w with drawn := w.drawn + 1 } : World).heap = w.heap := rfl
    obtain ⟨new2, hf2, hn2⟩ := aFirst_sound (hR.drew hdr) hx (by rw [en]; simp) enew
    obtain ⟨β', hv, hR', hS'⟩ := append_moved (P := P) (β := β) (m := m) (m0 := m0) (w := { w with drawn := w.drawn + 1 }) (w0 := w) (hR0.drew hdr) (hS0.trans (Stp.drew hdr rfl rfl rfl)) hsz0 (elem := elem) (old := old) (new := new) (old' := old') (new' := new2) (rest := Builtin.zeroCells z.cells (newCap - (sLen + n))) (need := sLen + n) (newCap := newCap) hrel hn2 hsz (by rw [Array.size_append, hold, hns, Nat.add_mul]) hge (by rw [zeroCells_size, hzs])
    have hns2 : Builtin.nextslicecap (sLen + n) sCap ≤ 2 * (sLen + n) := nextslicecap_le (by omega)
    have hnb : ¬ (Builtin.nextslicecap (sLen + n) sCap * by_ > 2 ^ 48) := by
      have := Nat.mul_le_mul_right by_ hns2
      have h2 : 2 * (sLen + n) * by_ = 2 * ((sLen + n) * by_) := by rw [Nat.mul_assoc]
      omega
    refine ⟨.slice (some ⟨w.heap.size, 0, none⟩) (sLen + n) newCap, _, β', start base sLen sCap _ ?_ (by intro q hq; cases hq) (fun _ => ?_), ?_, hR', hS'⟩
    rotate_left
    · have : IntKind.i64.max = 9223372036854775807 := by decide
      omega
    rotate_left
    · rw [if_neg hc, if_neg hnb, hch]
      simp only [Result.andThen_ok, hold', hf2]
    · rw [hsz0] at hv; exact hv
  have n0 : n = 0 → new' = #[] := by
    intro h0
    have : new'.size = 0 := by rw [← hnew.1, hns, h0, Nat.zero_mul]
    exact Array.eq_empty_of_size_eq_zero this
  split at h
  · -- nil
    cases hs
    split at h
    · rename_i h0
      injection h with h; injection h with h1 h2; subst h1 h2
      subst h0
      refine ⟨_, w, β, start none 0 0 (.ok (.slice none 0 0) w) (by simp) (by intro q hq; cases hq) (fun hh => absurd (by omega) hh), .sliceNil, hR, .refl _ _ _⟩
    · rename_i h0
      split at h
      · rename_i hb
        injection h with h; injection h with h1 h2; subst h1 h2
        have := moved none 0 0 m #[] hR (.refl _ _ _) rfl (by omega) (by omega) (by simpa using hb.2) (by simp) ⟨#[], rfl, ARel.nil _ _⟩
        simpa using this
      · cases h
  · rename_i b o s'' len cap
    cases hs with
    | slice _ _ _ _ _ cap' hb hz hl hc hbd =>
      split at h
      rotate_left
      · cases h
      rename_i hse
      subst hse
      split at h
      · rename_i h0
        injection h with h; injection h with h1 h2; subst h1 h2
        subst h0
        refine ⟨_, w, β, start (some ⟨β.blk b, β.sh b + o, none⟩) len cap' (.ok (.slice (some ⟨β.blk b, β.sh b + o, none⟩) len cap') w) ?_ (by intro q hq; cases hq) (fun hh => absurd (by omega) hh), .slice b o _ len cap cap' hb hz hl hc hbd, hR, .refl _ _ _⟩
        · rw [if_pos (by omega), n0 rfl]
          rfl
      · rename_i h0
        split at h
        rotate_left
        rotate_left
        · cases h
        rotate_left
        · -- a row that grows
          rename_i c ec
          split at h
          rotate_left
          · cases h
          rename_i hin
          obtain ⟨ho, hlc, h40, hby⟩ := hin
          injection h with h; injection h with h1 h2; subst h1 h2
          subst ho
          obtain ⟨c', e', fz, hw, hcap, hcs, hsh, hcsz, hfz⟩ := hR.growing b c ec
          rw [hsh] at hbd hcs
          simp only [Nat.zero_add, Nat.add_zero] at hbd hcs
          have hsz2 : (c ++ new).size = len * s'' + n * s'' := by rw [Array.size_append, hns, hlc]
          have hblock : ∀ (i : Nat) v, c[i]? = some v → ∃ v', c'[0 + i]? = some v' ∧ VRel β m.size v v' := by intro i v hi; rw [Nat.zero_add]; exact hcs i v hi
          by_cases hcc : len + n ≤ cap'
          · have hlen' : len * s'' + n * s'' ≤ c'.size := by
              have := Nat.mul_le_mul_right s'' hcc
              rw [Nat.add_mul] at this; omega
            have hst := run_storeCells' (P := P) (off := len * s'') hw hnew1 (by rw [← hnew.1, hns]; exact hlen') hfz
            have hOR : ObjRel (β.ext m.size (β.blk b) (β.cap b)) (m.size + 1) m.size (.grow (c ++ new)) (.cells (lay c' (len * s'') new') e' fz) := by
              refine ⟨_, e', fz, rfl, ?_, fun i v hi => ?_, fun _ => ⟨by simp [Beta.ext], by rw [lay_size]; simp [Beta.ext]; exact hcsz, by rw [lay_size]; exact hfz⟩⟩
              · simp only [Beta.ext, if_true, Nat.zero_add]; rw [hsz2]; omega
              · have hi' := (Array.getElem?_eq_some_iff.1 hi).1
                rw [hsz2] at hi'
                have hsh' : (β.ext m.size (β.blk b) (β.cap b)).sh m.size = 0 := by simp [Beta.ext]
                rw [hsh', Nat.zero_add, lay_get']
                by_cases hil : i < len * s''
                · rw [if_neg (by omega)]
                  rw [Array.getElem?_append_left (by omega)] at hi
                  obtain ⟨v', hv', hr'⟩ := hcs i v hi
                  exact ⟨v', hv', hr'.mono (Beta.ext_agree _ _ _ _) (by omega)⟩
                · rw [Array.getElem?_append_right (by omega), ← hlc] at hi
                  obtain ⟨v', hv', hr'⟩ := hnew.get hi
                  refine ⟨v', ?_, hr'.mono (Beta.ext_agree _ _ _ _) (by omega)⟩
                  rw [if_pos ⟨by omega, by rw [← hnew.1, hns]; omega, by omega⟩]
                  exact hv'
            obtain ⟨r1, r2⟩ := hR.branch ec hw (c1 := lay c' (len * s'') new') (fun i hi => by rw [lay_get', if_neg (by omega)]) (by rw [lay_size]) (by omega) hOR
            refine ⟨_, _, _, start (some ⟨β.blk b, β.sh b + 0, none⟩) len cap' (.ok (.slice (some ⟨β.blk b, β.sh b + 0, none⟩) (len + n) cap') _) ?_ (by intro q hq; cases hq) (fun hh => absurd (by omega) hh), ?_, r1, r2⟩
            · rw [if_pos hcc, hsh]
              simp only [add_none, Nat.zero_add]
              rw [hst]; rfl
            · have := VRel.slice (β := β.ext m.size (β.blk b) (β.cap b)) (N := ((m.setIfInBounds b (.cells false c)).push (.grow (c ++ new))).size) m.size 0 s'' (len + n) (len + n) cap' (by simp) hz (Nat.le_refl _) hcc (by simp [Beta.ext]; exact hbd)
              simpa [Beta.ext, hsh] using this
          · obtain ⟨k1, k2⟩ := hR.freeze ec
            have := moved (some ⟨β.blk b, β.sh b + 0, none⟩) len cap' (m.setIfInBounds b (.cells false c)) c k1 k2 (by simp) hcc h40 hby hlc.symm (by
              have hwd : ({ w with drawn := w.drawn + 1 } : World).heap[β.blk b]? = some (.cells c' e' fz) := hw
              have hc'sz : len * s'' ≤ c'.size := by
                have := Nat.mul_le_mul_right s'' (Nat.le_trans hl hc); omega
              refine ⟨c'.extract 0 (0 + len * s''), ?_, ?_⟩
              · simp only [Builtin.firstCells, loadCells]
                rw [run_loadCells hwd (len * s'') 0 #[] (by rw [hsh]; omega)]
                simp [hsh]
              · rcases ARel.block (β := β) (N := m.size) (sh := 0) (o := 0) (n := len * s'') hblock (by omega) with ⟨hA, _⟩ | h1
                · have hx2 : c.extract 0 (0 + len * s'') = c := by rw [Nat.zero_add, hlc]; simp
                  rw [hx2] at hA
                  simpa using hA
                · have : c = #[] := Array.eq_empty_of_size_eq_zero (by omega)
                  rw [h1, this]; simp; exact ARel.nil _ _)
            exact this.regrow
        rename_i c ec
        split at h
        · -- room is known
          rename_i hroom
          split at h
          · rename_i hin
            injection h with h; injection h with h1 h2; subst h1 h2
            have hsum : o + len * s'' + new.size ≤ c.size := by rw [hns]; rw [Nat.add_mul] at hin; omega
            obtain ⟨w', hr, r1, r2⟩ := write_cells hR ec hnew hsum hone
            refine ⟨_, w', β, start (some ⟨β.blk b, β.sh b + o, none⟩) len cap' (.ok (.slice (some ⟨β.blk b, β.sh b + o, none⟩) (len + n) cap') w') ?_ (by intro q hq; cases hq) (fun hh => absurd (by omega) hh), ?_, r1, r2⟩
            · rw [if_pos (by omega)]
              show Result.andThen ((storeCells ((⟨β.blk b, β.sh b + o, none⟩ : Addr).add (len * s'')) new'.toList).run P w) _ = _
              rw [add_none, Nat.add_assoc, hr]; rfl
            · simp only [Array.size_setIfInBounds]
              exact .slice b o _ (len + n) cap cap' hb hz hroom hc hbd
          · cases h
        · rename_i hroom
          split at h
          · rename_i hin
            obtain ⟨ho, hlc, h40, hby⟩ := hin
            injection h with h; injection h with h1 h2; subst h1 h2
            subst ho
            obtain ⟨c', e', fz, hw, hcap, hcs, hrw⟩ := hR.cells b true c ec
            obtain ⟨hsh, hcsz, hfz⟩ := hrw rfl
            rw [hsh] at hbd hcs
            simp only [Nat.zero_add, Nat.add_zero] at hbd hcs
            have hblock : ∀ (i : Nat) v, c[i]? = some v → ∃ v', c'[0 + i]? = some v' ∧ VRel β m.size v v' := by intro i v hi; rw [Nat.zero_add]; exact hcs i v hi
            by_cases hcc : len + n ≤ cap'
            · -- it had room all the same
              have hlen' : len * s'' + n * s'' ≤ c'.size := by
                have := Nat.mul_le_mul_right s'' hcc
                rw [Nat.add_mul] at this; omega
              have hst := run_storeCells' (P := P) (off := len * s'') hw hnew1 (by rw [← hnew.1, hns]; exact hlen') hfz
              have hOR : ObjRel (β.ext m.size (β.blk b) (β.cap b)) (m.size + 1) m.size (.cells true (c.extract 0 (len * s'') ++ new)) (.cells (lay c' (len * s'') new') e' fz) := by
                have hsz2 : (c.extract 0 (len * s'') ++ new).size = len * s'' + n * s'' := by rw [Array.size_append, hns]; simp; omega
                refine ⟨_, e', fz, rfl, ?_, fun i v hi => ?_, fun _ => ⟨by simp [Beta.ext], by rw [lay_size]; simp [Beta.ext]; exact hcsz, by rw [lay_size]; exact hfz⟩⟩
                · simp only [Beta.ext, if_true, Nat.zero_add]; rw [hsz2]; omega
                · have hi' := (Array.getElem?_eq_some_iff.1 hi).1
                  rw [hsz2] at hi'
                  have hsh' : (β.ext m.size (β.blk b) (β.cap b)).sh m.size = 0 := by simp [Beta.ext]
                  rw [hsh', Nat.zero_add, lay_get']
                  have hext : (c.extract 0 (len * s'')).size = len * s'' := by simp; omega
                  by_cases hil : i < len * s''
                  · rw [if_neg (by omega)]
                    rw [Array.getElem?_append_left (by rw [hext]; exact hil), Array.getElem?_extract] at hi
                    have hcond : i < min (len * s'') c.size - 0 := by omega
                    rw [if_pos hcond, Nat.zero_add] at hi
                    obtain ⟨v', hv', hr'⟩ := hcs i v hi
                    exact ⟨v', hv', hr'.mono (Beta.ext_agree _ _ _ _) (by omega)⟩
                  · rw [Array.getElem?_append_right (by rw [hext]; omega), hext] at hi
                    obtain ⟨v', hv', hr'⟩ := hnew.get hi
                    refine ⟨v', ?_, hr'.mono (Beta.ext_agree _ _ _ _) (by omega)⟩
                    rw [if_pos ⟨by omega, by rw [← hnew.1, hns]; omega, by omega⟩]
                    exact hv'
              obtain ⟨r1, r2⟩ := hR.alias (by rw [ec]; rfl) (fun c h => by rw [ec] at h; cases h) hOR
              refine ⟨_, _, _, start (some ⟨β.blk b, β.sh b + 0, none⟩) len cap' (.ok (.slice (some ⟨β.blk b, β.sh b + 0, none⟩) (len + n) cap') _) ?_ (by intro q hq; cases hq) (fun hh => absurd (by omega) hh), ?_, r1, r2⟩
              · rw [if_pos hcc, hsh]
                simp only [add_none, Nat.zero_add]
                rw [hst]; rfl
              · have := VRel.slice (β := β.ext m.size (β.blk b) (β.cap b)) (N := ((m.setIfInBounds b .dead).push (.cells true (c.extract 0 (len * s'') ++ new))).size) m.size 0 s'' (len + n) (len + n) cap' (by simp) hz (Nat.le_refl _) hcc (by simp [Beta.ext]; exact hbd)
                simpa [Beta.ext, hsh] using this
            · obtain ⟨k1, k2⟩ := hR.kill b
              have hext : (c.extract 0 (len * s'')).size = len * s'' := by simp; omega
              have := moved (some ⟨β.blk b, β.sh b + 0, none⟩) len cap' (m.setIfInBounds b .dead) (c.extract 0 (len * s'')) k1 k2 (by simp) hcc h40 hby hext (by
                have hwd : ({ w with drawn := w.drawn + 1 } : World).heap[β.blk b]? = some (.cells c' e' fz) := hw
                have hc'sz : len * s'' ≤ c'.size := by
                  have := Nat.mul_le_mul_right s'' (Nat.le_trans hl hc); omega
                refine ⟨c'.extract 0 (0 + len * s''), ?_, ?_⟩
                · simp only [Builtin.firstCells, loadCells]
                  rw [run_loadCells hwd (len * s'') 0 #[] (by rw [hsh]; omega)]
                  simp [hsh]
                · rcases ARel.block (β := β) (N := m.size) (sh := 0) (o := 0) (n := len * s'') hblock (by omega) with ⟨hA, _⟩ | h1
                  · simpa using hA
                  · rw [h1]; simp; exact ARel.nil _ _)
              exact this
          · cases h
  · rename_i b o
    split at h
    · rename_i h0
      injection h with h; injection h with h1 h2; subst h1 h2
      subst h0
      cases hs with
      | lost _ a' cap' ha =>
        refine ⟨_, w, β, start (some a') 0 cap' (.ok (.slice (some a') 0 cap') w) ?_ (by intro q hq; cases hq) (fun hh => absurd (by omega) hh), .lost b a' cap' ha, hR, .refl _ _ _⟩
        rw [if_pos (by omega), n0 rfl]; rfl
      | empty _ a' ha =>
        refine ⟨_, w, β, start (some a') 0 0 (.ok (.slice (some a') 0 0) w) ?_ (by intro q hq; cases hq) (fun hh => absurd (by omega) hh), .empty b a' ha, hR, .refl _ _ _⟩
        rw [if_pos (by omega), n0 rfl]; rfl
    · rename_i h0
      split at h
      · rename_i hb
        obtain ⟨ho, h40, hby⟩ := hb
        subst ho
        injection h with h; injection h with h1 h2; subst h1 h2
        cases hs with
        | empty _ a' ha =>
          have := moved (some a') 0 0 m #[] hR (.refl _ _ _) rfl (by omega) (by omega) (by simpa using hby) (by simp) ⟨#[], by simp [Builtin.firstCells, loadCells, loadCellsFrom], ARel.nil _ _⟩
          simpa using this
      · cases h
  · cases h

end Go.AM

/-! ### A12 -/
namespace Go.AM
set_option linter.unusedVariables false
set_option linter.unusedSimpArgs false

def aCopy (P : Program) (m : Mem) (t : TypeId) (d x : Value) : Option (Value × Mem) :=
  match undOf P t with
  | some (.slice elem) =>
    match szOf P elem, aLenOf x, d with
    | some sz, some n, .slice (some ⟨b, o, some s'⟩) len _ =>
      if s' = sz then
        if min n len = 0 then some (.int .i64 0, m) else
        match aFirst m sz (min n len) x, Mem.get m b with
        | some new, .cells true c =>
          if o + new.size ≤ c.size ∧ new.all Value.oneCell' = true then some (.int .i64 (min n len : Nat), m.setIfInBounds b (.cells true (lay c o new))) else none
        | _, _ => none
      else none
    | some _, some _, .slice none 0 0 => some (.int .i64 0, m)
    | some _, some _, .slice (some ⟨_, _, none⟩) 0 0 => some (.int .i64 0, m)
    | _, _, _ => none
  | _ => none

theorem aFirst_zero {P : Program} {w : World} {sz : Nat} {x' : Value} (h : (Builtin.lenOf x').run P w ≠ .halt (.stuck "slice or string expected") w) : (Builtin.firstCells sz 0 x').run P w = .ok #[] w := by
  cases x' <;> first
    | (exact absurd rfl h)
    | (rename_i a _ _; cases a <;> simp [Builtin.firstCells, loadCells, loadCellsFrom]; done)
    | (simp [Builtin.firstCells])

theorem aCopy_sound {P : Program} {β : Beta} {m m' : Mem} {w : World} {t xt rt : TypeId} {d x d' x' v : Value} (hR : Rel P β m w) (hd : VRel β m.size d d') (hx : VRel β m.size x x')
    (h : aCopy P m t d x = some (v, m')) : Eff P β m w (Builtin.copy_ #[t, xt] rt #[d', x']) v m' := by
  unfold aCopy at h
  split at h
  rotate_left
  · cases h
  rename_i elem e1
  have zero : ∀ (base : Option Addr) (cp n : Nat), base.isSome = false ∨ True → (Builtin.lenOf x').run P w = .ok n w → ∀ len, szOf P elem ≠ none → min n len = 0 → (Builtin.copy_ #[t, xt] rt #[.slice base len cp, x']).run P w = .ok (.int .i64 0) w := by
    intro base cp n _ hl len hs hm
    cases es : szOf P elem with
    | none => exact absurd es hs
    | some sz =>
      have hm' : Nat.min n len = 0 := hm
      simp only [Builtin.copy_, List.getElem?_toArray, List.getElem?_cons_zero, List.getElem?_cons_succ, Sem.run_bind, run_underlying e1, Result.andThen_ok, hl, run_sizeOf es, hm']
      rw [aFirst_zero (by rw [hl]; simp)]
      cases base with
      | none => rfl
      | some a => rfl
  split at h
  · rename_i sz n b o s' len cap es en
    cases hd with
    | slice _ _ _ _ _ cap' hb hz hl hc hbd =>
      have hlen := aLenOf_sound (P := P) (w := w) hx en
      split at h
      rotate_left
      · cases h
      rename_i hse; subst hse
      split at h
      · rename_i h0
        injection h with h; injection h with h1 h2; subst h1 h2
        exact ⟨_, w, β, zero _ _ n (.inr trivial) hlen len (by rw [es]; simp) h0, .int _ _, hR, .refl _ _ _⟩
      · rename_i h0
        split at h
        · rename_i new c e2 e3
          split at h
          · rename_i hc2
            injection h with h; injection h with h1 h2; subst h1 h2
            obtain ⟨new', hf, hn⟩ := aFirst_sound hR hx (by rw [en]; simp) e2
            obtain ⟨w', hr, r1, r2⟩ := write_cells hR e3 hn hc2.1 hc2.2
            refine ⟨_, w', β, ?_, .int _ _, r1, r2⟩
            have hm' : Nat.min n len = min n len := rfl
            simp only [Builtin.copy_, List.getElem?_toArray, List.getElem?_cons_zero, List.getElem?_cons_succ, Sem.run_bind, run_underlying e1, Result.andThen_ok, hlen, run_sizeOf es, hm', hf, hr, Sem.run_pure, goInt]
          · cases h
        · cases h
  · rename_i sz n es en
    cases hd
    have hlen := aLenOf_sound (P := P) (w := w) hx en
    injection h with h; injection h with h1 h2; subst h1 h2
    exact ⟨_, w, β, zero none _ n (.inr trivial) hlen 0 (by rw [es]; simp) (by simp), .int _ _, hR, .refl _ _ _⟩
  · rename_i sz n b o es en
    have hlen := aLenOf_sound (P := P) (w := w) hx en
    injection h with h; injection h with h1 h2; subst h1 h2
    cases hd with
    | lost _ a' cap' ha => exact ⟨_, w, β, zero _ _ n (.inr trivial) hlen 0 (by rw [es]; simp) (by simp), .int _ _, hR, .refl _ _ _⟩
    | empty _ a' ha => exact ⟨_, w, β, zero _ _ n (.inr trivial) hlen 0 (by rw [es]; simp) (by simp), .int _ _, hR, .refl _ _ _⟩
  · cases h

def aClear (P : Program) (m : Mem) (t : TypeId) (x : Value) : Option (Value × Mem) :=
  match undOf P t with
  | some u =>
    match u, x with
    | _, .map none => some (.tuple #[], m)
    | _, .slice none _ _ => some (.tuple #[], m)
    | _, .map (some r) => match Mem.get m r with
      | .map true _ => some (.tuple #[], m.setIfInBounds r (.map true []))
      | _ => none
    | .slice elem, .slice (some ⟨b, o, some _⟩) n _ =>
      if n = 0 then some (.tuple #[], m) else
      match zeroOf P elem, Mem.get m b with
      | some z, .cells true c =>
        if z.cells.size ≠ 0 ∧ z.cells.all flat0 = true ∧ o + n * z.cells.size ≤ c.size ∧ (Builtin.zeroCells z.cells n).all Value.oneCell' = true then
          some (.tuple #[], m.setIfInBounds b (.cells true (lay c o (Builtin.zeroCells z.cells n)))) else none
      | _, _ => none
    | .slice _, .slice (some ⟨_, _, none⟩) 0 0 => some (.tuple #[], m)
    | _, _ => none
  | none => none

theorem aClear_sound {P : Program} {β : Beta} {m m' : Mem} {w : World} {t rt : TypeId} {x x' v : Value} (hR : Rel P β m w) (hx : VRel β m.size x x')
    (h : aClear P m t x = some (v, m')) : Eff P β m w (Builtin.clear_ #[t] rt #[x']) v m' := by
  unfold aClear at h
  split at h
  rotate_left
  · cases h
  rename_i u e1
  have unit : ∀ N, VRel β N (.tuple #[]) (.tuple #[]) := fun N => .tuple _ _ rfl (ARel.nil _ _).2
  split at h
  · cases hx
    injection h with h; injection h with h1 h2; subst h1 h2
    exact ⟨_, w, β, by simp [Builtin.clear_, run_underlying e1], unit _, hR, .refl _ _ _⟩
  · cases hx
    injection h with h; injection h with h1 h2; subst h1 h2
    exact ⟨_, w, β, by simp [Builtin.clear_, run_underlying e1], unit _, hR, .refl _ _ _⟩
  · rename_i r
    cases hx with
    | map _ hr =>
      split at h
      · rename_i es e2
        injection h with h; injection h with h1 h2; subst h1 h2
        obtain ⟨es', clk, hw, _, _⟩ := hR.map r true es e2
        obtain ⟨r1, r2⟩ := hR.upd (b := r) (by rw [e2]; rfl) (fun c h => by rw [e2] at h; cases h) (o := .map true []) (O := .map #[] clk) ⟨#[], clk, rfl, rfl, fun i x e' hi => by simp at hi⟩
        refine ⟨_, _, β, ?_, unit _, r1, r2⟩
        have hg : (getObj (β.blk r)).run P w = .ok (.map es' clk) w := by simp [getObj, Sem.run, hw]
        have hs : (setObj (β.blk r) (.map #[] clk)).run P w = .ok () (World.putObj w (β.blk r) (.map #[] clk)) := by simp [setObj, Sem.run, hw, World.putObj]
        simp only [Builtin.clear_, List.getElem?_toArray, List.getElem?_cons_zero, Sem.run_bind, run_underlying e1, Result.andThen_ok, hg, hs, Sem.run_pure]
      · cases h
  · rename_i elem b o s' n cap
    cases hx with
    | slice _ _ _ _ _ cap' hb hz hl hc hbd =>
      split at h
      · rename_i h0
        injection h with h; injection h with h1 h2; subst h1 h2
        subst h0
        exact ⟨_, w, β, by simp [Builtin.clear_, run_underlying e1], unit _, hR, .refl _ _ _⟩
      · rename_i h0
        split at h
        · rename_i z c e2 e3
          split at h
          · rename_i hc2
            injection h with h; injection h with h1 h2; subst h1 h2
            have hzz : ARel β m.size (Builtin.zeroCells z.cells n) (Builtin.zeroCells z.cells n) := zeros_rel hc2.2.1 hc2.1 _
            obtain ⟨w', hr, r1, r2⟩ := write_cells hR e3 hzz (by rw [zeroCells_size]; exact hc2.2.2.1) hc2.2.2.2
            refine ⟨_, w', β, ?_, unit _, r1, r2⟩
            obtain ⟨k, rfl⟩ : ∃ k, n = k + 1 := ⟨n - 1, by omega⟩
            simp only [Builtin.clear_, List.getElem?_toArray, List.getElem?_cons_zero, Sem.run_bind, run_underlying e1, Result.andThen_ok, run_zeroValue e2, hr, Sem.run_pure]
          · cases h
        · cases h
  · injection h with h; injection h with h1 h2; subst h1 h2
    cases hx <;> exact ⟨_, w, β, by simp [Builtin.clear_, run_underlying e1], unit _, hR, .refl _ _ _⟩
  · cases h

/-! ### Maps -/
def aMakeMap (m : Mem) (r : Option Value) : Option (Value × Mem) :=
  match r with
  | none => some (.map (some m.size), m.push (.map true []))
  | some _ => none
theorem aMakeMap_sound {P : Program} {β : Beta} {m m' : Mem} {w : World} {t : TypeId} {r r' : Option Value} {v : Value} (hR : Rel P β m w) (hr : ORel β m.size r r') (h : aMakeMap m r = some (v, m')) : Eff P β m w (Instr.makeMap t r') v m' := by
  unfold aMakeMap at h
  split at h
  · cases r' with
    | some _ => exact hr.elim
    | none =>
      injection h with h; injection h with h1 h2; subst h1 h2
      obtain ⟨r1, r2⟩ := hR.push (o := .map true []) (O := .map #[] 0) (cap := 0) ⟨#[], 0, rfl, rfl, fun i x e' hi => by simp at hi⟩
      refine ⟨.map (some w.heap.size), _, _, by simp [Instr.makeMap]; rfl, ?_, r1, r2⟩
      have := VRel.map (β := β.ext m.size w.heap.size 0) (N := (m.push (.map true [])).size) m.size (by simp)
      simpa [Beta.ext] using this
  · cases h

def aMapUpdate (P : Program) (m : Mem) (t : TypeId) (x k v : Value) : Option Mem :=
  match undOf P t, x with
  | some (.map kt _), .map (some r) =>
    match undOf P kt, Mem.get m r with
    | some u, .map true es =>
      if plainKey u then
        match aFindNow u k es 0 with
        | some (some (i, _)) => some (m.setIfInBounds r (.map true (es.set i (k, v))))
        | some none => some (m.setIfInBounds r (.map true (es ++ [(k, v)])))
        | none => none
      else none
    | _, _ => none
  | _, _ => none

theorem bytes_eq {a b : ByteArray} (h : (a == b) = true) : a = b := by
  cases a; cases b
  congr 1
  exact eq_of_beq (show (_ == _) = true from h)
theorem bytes_refl (a : ByteArray) : (a == a) = true := by
  cases a
  rename_i d
  exact (show (d == d) = true from by simp)

theorem sameNow_true {u : TypeDesc} {a b : Value} (h : Instr.sameNow u a b = some true) : Instr.sameBits 10000 b a = true := by
  unfold Instr.sameNow at h
  split at h
  · split at h
    · rename_i hk; subst hk; injection h with h
      have := eq_of_beq h; subst this
      simp [Instr.sameBits]
    · cases h
  · injection h with h
    have := bytes_eq h; subst this
    simp only [Instr.sameBits]; exact bytes_refl _
  · injection h with h
    have := eq_of_beq h; subst this
    simp [Instr.sameBits]
  · cases h

theorem findNow_key {u : TypeDesc} {k : Value} : ∀ (es : List MapEntry) (i : Nat) (j : Nat) (v : Value), Instr.findNow u k es i = some (some (j, v)) → ∃ e, i ≤ j ∧ es[j - i]? = some e ∧ Instr.sameNow u k e.key = some true
  | [], i, j, v, h => by simp [Instr.findNow] at h
  | e :: es, i, j, v, h => by
    unfold Instr.findNow at h
    split at h
    · rename_i hs
      injection h with h; injection h with h; injection h with h1 h2; subst h1
      exact ⟨e, Nat.le_refl _, by simp, hs⟩
    · obtain ⟨e', h1, h2, h3⟩ := findNow_key es (i + 1) j v h
      refine ⟨e', by omega, ?_, h3⟩
      have : j - i = (j - (i + 1)) + 1 := by omega
      rw [this, List.getElem?_cons_succ]; exact h2
    · cases h

theorem aMapUpdate_sound {P : Program} {β : Beta} {m m' : Mem} {w : World} {t : TypeId} {x x' k k' v v' : Value} (hR : Rel P β m w) (hx : VRel β m.size x x') (hk : VRel β m.size k k') (hv : VRel β m.size v v') (h : aMapUpdate P m t x k v = some m') :
    ∃ w', (Instr.mapUpdate t x' k' v').run P w = .ok () w' ∧ Rel P β m' w' ∧ Stp β m w β m' w' := by
  unfold aMapUpdate at h
  split at h
  rotate_left
  · cases h
  rename_i kt et r e1
  cases hx with
  | map _ hr =>
  split at h
  rotate_left
  · cases h
  rename_i u es e2 e3
  split at h
  rotate_left
  · cases h
  rename_i hp
  obtain ⟨es', clk, hw, hs, hes⟩ := hR.map r true es e3
  have hg : (getObj (β.blk r)).run P w = .ok (.map es' clk) w := by simp [getObj, Sem.run, hw]
  have hset : ∀ O, (setObj (β.blk r) O).run P w = .ok () (World.putObj w (β.blk r) O) := by intro O; simp [setObj, Sem.run, hw, World.putObj]
  split at h
  · rename_i i v0 e5
    injection h with h; subst h
    obtain ⟨r', er, hrr⟩ := aFindNow_rel hk es es'.toList 0 _ (by simpa using hs.symm) (fun i x y a b => hes i x y a (by simpa using b)) e5
    cases r' with
    | none => exact hrr.elim
    | some q =>
      obtain ⟨j, v1⟩ := q
      obtain ⟨hij, _, _, hlt⟩ := hrr
      subst hij
      simp only [Nat.zero_add] at hlt
      have hf := run_findKey (P := P) (w := w) e2 er
      obtain ⟨e0, _, he0, hsame⟩ := findNow_key es'.toList 0 i v1 er
      simp only [Nat.sub_zero, Array.getElem?_toList] at he0
      have hstay : ((Instr.keyThatStays (((es'[i]?).map (·.key)).getD k') k')).run P w = .ok k' w := by
        rw [he0]
        simp [Instr.keyThatStays, sameNow_true hsame]
      have hOR : ObjRel β m.size r (.map true (es.set i (k, v))) (.map (es'.modify i fun e => { e with key := k', val := v' }) clk) := by
        refine ⟨_, clk, rfl, by simpa using hs, fun q x e' h1 h2 => ?_⟩
        rw [List.getElem?_set] at h1
        rw [Array.getElem?_modify] at h2
        by_cases hq : i = q
        · subst hq
          simp only [if_true, hlt] at h1
          injection h1 with h1; subst h1
          rw [if_pos rfl] at h2
          cases hq2 : es'[i]? with
          | none => rw [hq2] at h2; cases h2
          | some e2 => rw [hq2] at h2; injection h2 with h2; subst h2; exact ⟨hk, hv⟩
        · rw [if_neg hq] at h1 h2
          exact hes q x e' h1 h2
      obtain ⟨r1, r2⟩ := hR.upd (b := r) (by rw [e3]; rfl) (fun c h => by rw [e3] at h; cases h) hOR
      refine ⟨_, ?_, r1, r2⟩
      simp only [Instr.mapUpdate, Sem.run_bind, run_underlying e1, Result.andThen_ok, hg, run_checkKey _ e2 hp, hf, hstay, hset]
  · rename_i e5
    injection h with h; subst h
    obtain ⟨r', er, hrr⟩ := aFindNow_rel hk es es'.toList 0 _ (by simpa using hs.symm) (fun i x y a b => hes i x y a (by simpa using b)) e5
    cases r' with
    | some q => exact hrr.elim
    | none =>
      have hf := run_findKey (P := P) (w := w) e2 er
      have hOR : ObjRel β m.size r (.map true (es ++ [(k, v)])) (.map (es'.push { key := k', val := v', born := clk }) (clk + 1)) := by
        refine ⟨_, clk + 1, rfl, by simpa using hs, fun q x e' h1 h2 => ?_⟩
        rw [Array.getElem?_push] at h2
        by_cases hq : q = es'.size
        · subst hq
          rw [if_pos rfl] at h2; injection h2 with h2; subst h2
          rw [List.getElem?_append_right (by omega)] at h1
          have : es'.size - es.length = 0 := by omega
          rw [this] at h1; simp at h1; subst h1
          exact ⟨hk, hv⟩
        · rw [if_neg hq] at h2
          have hq2 := (Array.getElem?_eq_some_iff.1 h2).1
          rw [List.getElem?_append_left (by omega)] at h1
          exact hes q x e' h1 h2
      obtain ⟨r1, r2⟩ := hR.upd (b := r) (by rw [e3]; rfl) (fun c h => by rw [e3] at h; cases h) hOR
      refine ⟨_, ?_, r1, r2⟩
      simp only [Instr.mapUpdate, Sem.run_bind, run_underlying e1, Result.andThen_ok, hg, run_checkKey _ e2 hp, hf, hset]
  · cases h


/-- Noughts that are appended to nothing. -/
def aAppendN (P : Program) (m : Mem) (t xt : TypeId) (s x : Value) : Option (Value × Mem) :=
  match undOf P t, undOf P xt, s, x with
  | some (.slice elem), some ux, .slice none 0 0, .int _ l =>
    match isIntT ux, szOf P elem, zeroOf P elem, bytesOf' P elem with
    | true, some sz, some z, some by_ =>
      if 0 < sz ∧ z.cells.size = sz ∧ z.cells.all flat0 = true ∧ 0 < l ∧ l ≤ 1048576 ∧ by_ ≤ 1048576 then
        some (.slice (some ⟨m.size, 0, some sz⟩) l.toNat l.toNat, m.push (.cells true ((Array.range (l.toNat * z.cells.size)).map (z.cells[· % z.cells.size]!))))
      else none
    | _, _, _, _ => none
  | _, _, _, _ => none

theorem aAppendN_sound {P : Program} {β : Beta} {m m' : Mem} {w : World} {t xt rt : TypeId} {s x s' x' v : Value} (hR : Rel P β m w) (hs : VRel β m.size s s') (hx : VRel β m.size x x')
    (h : aAppendN P m t xt s x = some (v, m')) : Eff P β m w (Builtin.append_ #[t, xt] rt #[s', x']) v m' := by
  unfold aAppendN at h
  split at h
  rotate_left
  · cases h
  rename_i elem ux k l e1 e2
  cases hs
  cases hx
  split at h
  rotate_left
  · cases h
  rename_i sz z by_ ez esz ezz eby
  split at h
  rotate_left
  · cases h
  rename_i hcond
  obtain ⟨hsz, hzs, hzf, hl0, hl1, hb1⟩ := hcond
  injection h with h; injection h with h1 h2; subst h1 h2
  obtain ⟨i, ei, eb⟩ := info_of eby
  obtain ⟨n, rfl⟩ : ∃ n : Nat, l = Int.ofNat n := ⟨l.toNat, by simp; omega⟩
  have hn0 : 0 < n := by simpa using hl0
  have hn1 : n ≤ 1048576 := by simp at hl1; omega
  obtain ⟨newCap, hge, hch⟩ := run_appendCap (P := P) (w := w) (need := n) (old := 0) (e := elem) (by omega)
  have hdr : ({ w with drawn := w.drawn + 1 } : World).heap = w.heap := rfl
  have hz := zeros_rel (β := β) (N := m.size) hzf (by omega) (n * z.cells.size)
  have hns2 : Builtin.nextslicecap n 0 ≤ 2 * n := nextslicecap_le (by omega)
  have hmul : Builtin.nextslicecap n 0 * by_ ≤ 2 * n * by_ := Nat.mul_le_mul_right _ hns2
  have hmul2 : 2 * n * by_ ≤ 2 * 1048576 * 1048576 := Nat.mul_le_mul (by omega) hb1
  have hmul3 : n * by_ ≤ 1048576 * 1048576 := Nat.mul_le_mul hn1 hb1
  have hnb : ¬ (Builtin.nextslicecap n 0 * by_ > 2 ^ 48) := by omega
  have hnz : n * sz ≠ 0 := Nat.mul_ne_zero (by omega) (by omega)
  obtain ⟨β', hv, hR', hS'⟩ := append_moved (P := P) (β := β) (m := m) (m0 := m) (w := { w with drawn := w.drawn + 1 }) (w0 := w) (hR.drew hdr) (Stp.drew hdr rfl rfl rfl) rfl (elem := elem) (old := #[]) (new := (Array.range (n * z.cells.size)).map (z.cells[· % z.cells.size]!)) (old' := #[]) (new' := (Array.range (n * z.cells.size)).map (z.cells[· % z.cells.size]!)) (rest := Builtin.zeroCells z.cells (newCap - n)) (need := n) (newCap := newCap) (sz := sz) (ARel.nil _ _) hz hsz (by simp [hzs]) hge (by rw [zeroCells_size, hzs])
  have hwl : IntKind.i64.wrap (Int.ofNat n) = Int.ofNat n := wrap_i64 (by simp) (by simp; omega)
  have hlb : ¬ (Int.ofNat n * (i.bytes : Int) > 2 ^ 48) := by
    have e : Int.ofNat n * (i.bytes : Int) = ((n * i.bytes : Nat) : Int) := by simp
    rw [e, eb]; omega
  have hneed : ¬ ((0 + n : Nat) ≤ 0) := by omega
  rw [Array.empty_append] at hR' hS' hv
  refine ⟨_, _, β', ?_, hv, hR', hS'⟩
  cases ux <;> first
    | (simp [isIntT] at ez; done)
    | skip
  have hnl : ¬ (Int.ofNat n < 0) := by simp
  have hi64 : IntKind.i64.max = 9223372036854775807 := by decide
  simp only [Builtin.append_, List.getElem?_toArray, List.getElem?_cons_zero, List.getElem?_cons_succ, Sem.run_bind, run_underlying e1, Result.andThen_ok, run_sizeOf esz, run_underlying e2, Sem.run_pure, if_true, asInt, asIntOf, hwl, if_neg hnl, run_typeInfo ei, if_neg hlb]
  rw [show (Int.ofNat n).toNat = n from rfl, if_neg hneed]
  simp only [Sem.run_bind, Result.andThen_ok, run_typeInfo ei]
  rw [if_neg (by rintro ⟨h1, _⟩; rw [hi64] at h1; omega)]
  simp only [Sem.run_bind, Result.andThen_ok, run_typeInfo ei]
  rw [show (0 + n) = n by omega, if_neg (by rw [eb]; exact hnb)]
  simp only [Sem.run_bind, Result.andThen_ok, run_typeInfo ei, hch, run_askRoom, Bool.not_true, Bool.false_eq_true, if_false, if_neg hnz, run_zeroValue ezz, Sem.run_pure, newRow, run_newObj, Builtin.firstCells]
  rw [Array.empty_append]
  rfl

/-- The room of nothing. -/
def aCapNil (P : Program) (m : Mem) (t : TypeId) (x : Value) : Option (Value × Mem) :=
  match undOf P t, x with
  | some (.slice _), .slice none 0 0 => some (.int .i64 0, m)
  | _, _ => none
theorem aCapNil_sound {P : Program} {β : Beta} {m m' : Mem} {w : World} {t rt : TypeId} {x x' v : Value} (hR : Rel P β m w) (hx : VRel β m.size x x') (h : aCapNil P m t x = some (v, m')) :
    Eff P β m w (Builtin.cap_ #[t] rt #[x']) v m' := by
  unfold aCapNil at h
  split at h
  · rename_i e e1
    injection h with h; injection h with h1 h2; subst h1 h2
    cases hx
    refine ⟨.int .i64 0, w, β, ?_, .int _ _, hR, .refl _ _ _⟩
    simp [Builtin.cap_, run_underlying e1, goInt]
  · cases h
end Go.AM

/-! ### A13 -/
namespace Go.AM
set_option linter.unusedVariables false
set_option linter.unusedSimpArgs false

def aNilCheck : Value → Option Value
  | .pointer (some a) => some (.pointer (some a))
  | .func (.func f) a c => some (.func (.func f) a c)
  | .func (.yield l) a c => some (.func (.yield l) a c)
  | _ => none

/-- Operations that only compute. -/
def aPure (P : Program) (ρ : Operand → Value) (op : Op) : Option Value :=
  match op with
  | .move x => some (ρ x)
  | .assign x => some (ρ x)
  | .pick c a b => match ρ c with
    | .bool t => some (if t then ρ a else ρ b)
    | _ => none
  | .nilCheck x => aNilCheck (ρ x)
  | .binOp op t x y _ => aBin P op t (ρ x) (ρ y)
  | .unOp op _ x => aUn op (ρ x)
  | .convert s d x => aConv P s d (ρ x)
  | .makeInterface t x => match undOf P t with
    | some (.interface _) => none
    | some _ => some (.iface t (ρ x))
    | none => none
  | .makeFunc (.func f) a c => some (.func (.func f) (a.map ρ) (c.map ρ))
  | .fieldAddr s x f => aFieldAddr P s (ρ x) f
  | .field t x f => aField P t (ρ x) f
  | .indexAddr t x i => aIndexAddr P t (ρ x) (ρ i)
  | .index t x i => aIndex P t (ρ x) (ρ i)
  | .extract x i => match ρ x with
    | .tuple vs => vs[i]?
    | _ => none
  | .build t ps => aBuild P t (ps.toList.map fun p => (p.1, ρ p.2))
  | .call ⟨.builtin .len, ⟨[x]⟩, ⟨[t]⟩⟩ => aLen P t (ρ x)
  | .call ⟨.builtin .max, ⟨x :: l⟩, _⟩ => aFold aMax2 (ρ x) (l.map ρ)
  | .call ⟨.builtin .min, ⟨x :: l⟩, _⟩ => aFold aMin2 (ρ x) (l.map ρ)
  | _ => none

theorem PRel.of_map {β : Beta} {N : Nat} {ρ ρ' : Operand → Value} : ∀ (l : List (Nat × Operand)), (∀ p ∈ l, VRel β N (ρ p.2) (ρ' p.2)) → PRel β N (l.map fun p => (p.1, ρ p.2)) (l.map fun p => (p.1, ρ' p.2))
  | [], _ => trivial
  | p :: l, h => ⟨rfl, h p (by simp), PRel.of_map l (fun q hq => h q (by simp [hq]))⟩

theorem LRel.of_map {β : Beta} {N : Nat} {ρ ρ' : Operand → Value} (l : List Operand) (h : ∀ x ∈ l, VRel β N (ρ x) (ρ' x)) : ∀ (i : Nat) v v', (l.map ρ)[i]? = some v → (l.map ρ')[i]? = some v' → VRel β N v v' := by
  intro i v v' e e'
  rw [List.getElem?_map] at e e'
  cases hl : l[i]? with
  | none => rw [hl] at e; cases e
  | some x =>
    rw [hl] at e e'; injection e with e; injection e' with e'; subst e; subst e'
    exact h x (List.mem_of_getElem? hl)

theorem ARel.of_map {β : Beta} {N : Nat} {ρ ρ' : Operand → Value} (l : Array Operand) (h : ∀ x ∈ l, VRel β N (ρ x) (ρ' x)) : ARel β N (l.map ρ) (l.map ρ') := ARel.map l _ _ h

theorem aPure_sound {P : Program} {β : Beta} {N : Nat} {w : World} {ρ ρ' : Operand → Value} {o : Oper} {v : Value} (hρ : ∀ x ∈ o.op.operands, VRel β N (ρ x) (ρ' x)) (h : aPure P ρ o.op = some v) :
    ∃ v', (execOp ρ' o).run P w = .ok (.value v') w ∧ VRel β N v v' := by
  obtain ⟨dst, op, ty, pos, after, guard⟩ := o
  simp only at hρ h
  -- one value behind another
  have wrap : ∀ {s : Sem Value} {v' : Value}, s.run P w = .ok v' w → ((do pure (Next.value (← s)) : Sem Next)).run P w = .ok (.value v') w := by
    intro s v' hs; simp [hs]
  unfold aPure at h
  split at h
  · injection h with h; subst h
    exact ⟨_, rfl, hρ _ (by simp [Op.operands])⟩
  · injection h with h; subst h
    exact ⟨_, rfl, hρ _ (by simp [Op.operands])⟩
  · rename_i c a b
    have hc := hρ c (by simp [Op.operands])
    have ha := hρ a (by simp [Op.operands])
    have hb := hρ b (by simp [Op.operands])
    split at h
    · rename_i t et
      rw [et] at hc
      injection h with h; subst h
      cases hcc : ρ' c with
      | bool t' =>
        rw [hcc] at hc; cases hc
        refine ⟨if t then ρ' a else ρ' b, by simp [execOp, hcc, asBool], ?_⟩
        cases t <;> assumption
      | _ => rw [hcc] at hc; cases hc
    · cases h
  · rename_i x
    have hx := hρ x (by simp [Op.operands])
    unfold aNilCheck at h
    split at h
    · rename_i a ea
      rw [ea] at hx
      injection h with h; subst h
      cases hxx : ρ' x with
      | pointer q =>
        rw [hxx] at hx
        refine ⟨.pointer q, ?_, hx⟩
        cases hx; simp [execOp, hxx]
      | _ => rw [hxx] at hx; cases hx
    · rename_i f a c ea
      rw [ea] at hx
      injection h with h; subst h
      cases hxx : ρ' x with
      | func g a' c' =>
        rw [hxx] at hx
        refine ⟨_, ?_, hx⟩
        cases hx; simp [execOp, hxx]
      | _ => rw [hxx] at hx; cases hx
    · rename_i l a c ea
      rw [ea] at hx
      injection h with h; subst h
      cases hxx : ρ' x with
      | func g a' c' =>
        rw [hxx] at hx
        refine ⟨_, ?_, hx⟩
        cases hx; simp [execOp, hxx]
      | _ => rw [hxx] at hx; cases hx
    · cases h
  · rename_i op t x y yt
    obtain ⟨v', hr, hv⟩ := aBin_sound (X := x) (Y := y) (w := w) (hρ x (by simp [Op.operands])) (hρ y (by simp [Op.operands])) h
    exact ⟨v', by simp only [execOp]; exact wrap hr, hv⟩
  · rename_i op t x
    obtain ⟨v', hr, hv⟩ := aUn_sound (P := P) (w := w) (hρ x (by simp [Op.operands])) h
    exact ⟨v', by simp only [execOp]; exact wrap hr, hv⟩
  · rename_i s d x
    obtain ⟨v', hr, hv⟩ := aConv_sound (P := P) (w := w) (hρ x (by simp [Op.operands])) h
    exact ⟨v', by simp only [execOp]; exact wrap hr, hv⟩
  · rename_i t x
    have hx := hρ x (by simp [Op.operands])
    split at h
    · cases h
    · rename_i u hn e1
      injection h with h; subst h
      refine ⟨.iface t (ρ' x), ?_, .iface _ _ _ hx⟩
      simp only [execOp]
      refine wrap ?_
      simp only [Instr.makeInterface, Sem.run_bind, run_underlying e1, Result.andThen_ok]
      cases u <;> first | rfl | exact absurd rfl (hn _)
    · cases h
  · rename_i f a c
    injection h with h; subst h
    have ha : ARel β N (a.map ρ) (a.map ρ') := ARel.of_map a (fun x hx => hρ x (by simp [Op.operands, hx]))
    have hc : ARel β N (c.map ρ) (c.map ρ') := ARel.of_map c (fun x hx => hρ x (by simp [Op.operands, hx]))
    exact ⟨_, rfl, .func f _ _ _ _ ha.1 ha.2 hc.1 hc.2⟩
  · rename_i s x f
    obtain ⟨v', hr, hv⟩ := aFieldAddr_sound (P := P) (w := w) (hρ x (by simp [Op.operands])) h
    exact ⟨v', by simp only [execOp]; exact wrap hr, hv⟩
  · rename_i t x f
    obtain ⟨v', hr, hv⟩ := aField_sound (P := P) (w := w) (hρ x (by simp [Op.operands])) h
    exact ⟨v', by simp only [execOp]; exact wrap hr, hv⟩
  · rename_i t x i
    obtain ⟨v', hr, hv⟩ := aIndexAddr_sound (P := P) (w := w) (hρ x (by simp [Op.operands])) (hρ i (by simp [Op.operands])) h
    exact ⟨v', by simp only [execOp]; exact wrap hr, hv⟩
  · rename_i t x i
    obtain ⟨v', hr, hv⟩ := aIndex_sound (P := P) (w := w) (hρ x (by simp [Op.operands])) (hρ i (by simp [Op.operands])) h
    exact ⟨v', by simp only [execOp]; exact wrap hr, hv⟩
  · rename_i x i
    have hx := hρ x (by simp [Op.operands])
    split at h
    · rename_i vs ev
      rw [ev] at hx
      cases hxx : ρ' x with
      | tuple vs' =>
        rw [hxx] at hx
        cases hx with
        | tuple _ _ h1 h2 =>
          obtain ⟨v', e', hv⟩ := ARel.get ⟨h1, h2⟩ h
          refine ⟨v', ?_, hv⟩
          simp only [execOp]
          exact wrap (by simp [Instr.extract, hxx, e'])
      | _ => rw [hxx] at hx; cases hx
    · cases h
  · rename_i t ps
    obtain ⟨v', hr, hv⟩ := aBuild_sound (P := P) (w := w) (ps' := ps.map fun (i, x) => (i, ρ' x)) (by
      have := PRel.of_map (β := β) (N := N) (ρ := ρ) (ρ' := ρ') ps.toList (fun p hp => hρ p.2 (by
        simp only [Op.operands, List.mem_toArray, List.mem_map]; exact ⟨p, hp, rfl⟩))
      simpa using this) h
    exact ⟨v', by simp only [execOp]; exact wrap hr, hv⟩
  · rename_i x t
    obtain ⟨v', hr, hv⟩ := aLen_sound (P := P) (w := w) (rt := ty) (hρ x (by simp [Op.operands, Call.operands])) h
    refine ⟨v', ?_, hv⟩
    simp only [execOp, resolve, Sem.run_bind, Sem.run_pure, Result.andThen_ok, invoke, builtin, List.map_toArray, List.map_cons, List.map_nil]
    rw [hr]; rfl
  · rename_i x l ts
    have hl : ∀ y ∈ l, VRel β N (ρ y) (ρ' y) := fun y hy => hρ y (by simp [Op.operands, Call.operands, hy])
    obtain ⟨v', hr, hv⟩ := aFold_sound (P := P) (β := β) (N := N) (w := w) aMax2 Builtin.max2 aMax2_sound (l.map ρ) (l.map ρ') (ρ x) (ρ' x) v (by simp) (LRel.of_map l hl) (hρ x (by simp [Op.operands, Call.operands])) h
    refine ⟨v', ?_, hv⟩
    simp only [execOp, resolve, Sem.run_bind, Sem.run_pure, Result.andThen_ok, invoke, builtin, List.map_toArray, List.map_cons]
    have : (Builtin.max_ ts ty (ρ' x :: l.map ρ').toArray).run P w = .ok v' w := by simpa [Builtin.max_] using hr
    rw [this]; rfl
  · rename_i x l ts
    have hl : ∀ y ∈ l, VRel β N (ρ y) (ρ' y) := fun y hy => hρ y (by simp [Op.operands, Call.operands, hy])
    obtain ⟨v', hr, hv⟩ := aFold_sound (P := P) (β := β) (N := N) (w := w) aMin2 Builtin.min2 aMin2_sound (l.map ρ) (l.map ρ') (ρ x) (ρ' x) v (by simp) (LRel.of_map l hl) (hρ x (by simp [Op.operands, Call.operands])) h
    refine ⟨v', ?_, hv⟩
    simp only [execOp, resolve, Sem.run_bind, Sem.run_pure, Result.andThen_ok, invoke, builtin, List.map_toArray, List.map_cons]
    have : (Builtin.min_ ts ty (ρ' x :: l.map ρ').toArray).run P w = .ok v' w := by simpa [Builtin.min_] using hr
    rw [this]; rfl
  · cases h

/-- Operations that read memory. -/
def aRead (P : Program) (m : Mem) (ρ : Operand → Value) (op : Op) : Option Value :=
  match op with
  | .load t a => aLoad P m t (ρ a)
  | .slice t x lo hi mx => aSlice P m t (ρ x) (lo.map ρ) (hi.map ρ) (mx.map ρ)
  | .lookup t x k ok => aLookup P m t (ρ x) (ρ k) ok
  | .call ⟨.builtin .len, ⟨[x]⟩, ⟨[t]⟩⟩ => match undOf P t, ρ x with
    | some (.map _ _), .map (some r) => match Mem.get m r with
      | .map _ es => some (.int .i64 es.length)
      | _ => none
    | _, _ => none
  | _ => none

theorem ORel.of_map {β : Beta} {N : Nat} {ρ ρ' : Operand → Value} (x : Option Operand) (h : ∀ y, x = some y → VRel β N (ρ y) (ρ' y)) : ORel β N (x.map ρ) (x.map ρ') := by
  cases x with
  | none => trivial
  | some y => exact h y rfl

theorem aRead_sound {P : Program} {β : Beta} {m : Mem} {w : World} {ρ ρ' : Operand → Value} {o : Oper} {v : Value} (hR : Rel P β m w) (hρ : ∀ x ∈ o.op.operands, VRel β m.size (ρ x) (ρ' x)) (h : aRead P m ρ o.op = some v) :
    ∃ v', (execOp ρ' o).run P w = .ok (.value v') w ∧ VRel β m.size v v' := by
  obtain ⟨dst, op, ty, pos, after, guard⟩ := o
  simp only at hρ h
  have wrap : ∀ {s : Sem Value} {v' : Value}, s.run P w = .ok v' w → ((do pure (Next.value (← s)) : Sem Next)).run P w = .ok (.value v') w := by
    intro s v' hs; simp [hs]
  unfold aRead at h
  split at h
  · rename_i t a
    obtain ⟨v', hr, hv⟩ := aLoad_sound hR (hρ a (by simp [Op.operands])) h
    exact ⟨v', by simp only [execOp]; exact wrap hr, hv⟩
  · rename_i t x lo hi mx
    obtain ⟨v', hr, hv⟩ := aSlice_sound hR (hρ x (by simp [Op.operands])) (ORel.of_map lo (fun y hy => hρ y (by simp [Op.operands, hy]))) (ORel.of_map hi (fun y hy => hρ y (by simp [Op.operands, hy])))
      (ORel.of_map mx (fun y hy => hρ y (by simp [Op.operands, hy]))) h
    exact ⟨v', by simp only [execOp]; exact wrap hr, hv⟩
  · rename_i t x k ok
    obtain ⟨v', hr, hv⟩ := aLookup_sound hR (hρ x (by simp [Op.operands])) (hρ k (by simp [Op.operands])) h
    exact ⟨v', by simp only [execOp]; exact wrap hr, hv⟩
  · rename_i x t
    have hx := hρ x (by simp [Op.operands, Call.operands])
    split at h
    · rename_i kt et r e1 e2
      rw [e2] at hx
      split at h
      · rename_i rw_ es e3
        injection h with h; subst h
        obtain ⟨es', clk, hw, hs, _⟩ := hR.map r rw_ es e3
        cases hxx : ρ' x with
        | map q =>
          rw [hxx] at hx
          cases hx
          refine ⟨.int .i64 es'.size, ?_, by rw [hs]; exact .int _ _⟩
          have hg : (getObj (β.blk r)).run P w = .ok (.map es' clk) w := by simp [getObj, Sem.run, hw]
          have : (Builtin.len_ #[t] ty #[ρ' x]).run P w = .ok (.int .i64 es'.size) w := by simp [Builtin.len_, run_underlying e1, hxx, hg, goInt]
          simp only [execOp, resolve, Sem.run_bind, Sem.run_pure, Result.andThen_ok, invoke, builtin, List.map_toArray, List.map_cons, List.map_nil]
          rw [this]; rfl
        | _ => rw [hxx] at hx; cases hx
      · cases h
    · cases h
  · cases h

/-- Operations that make or write memory. -/
def aEff (P : Program) (m : Mem) (ρ : Operand → Value) (op : Op) : Option (Value × Mem) :=
  match op with
  | .alloc e => aAlloc P m e
  | .box _ x => some (aBox m (ρ x))
  | .buildSlice t len ps => aBuildSlice P m t len (ps.toList.map fun p => (p.1, ρ p.2))
  | .makeSlice t l c => aMakeSlice P m t (ρ l) (ρ c)
  | .makeMap _ r => aMakeMap m (r.map ρ)
  | .store t a v => (aStore P m t (ρ a) (ρ v)).map fun m' => (Go.undef, m')
  | .mapUpdate t x k v => (aMapUpdate P m t (ρ x) (ρ k) (ρ v)).map fun m' => (Go.undef, m')
  | .insert t x k v => (aMapUpdate P m t (ρ x) (ρ k) (ρ v)).map fun m' => (Go.undef, m')
  | .call ⟨.builtin .append, ⟨[s, x]⟩, ⟨[t, xt]⟩⟩ => match aAppend P m t xt (ρ s) (ρ x) with
    | some r => some r
    | none => aAppendN P m t xt (ρ s) (ρ x)
  | .call ⟨.builtin .cap, ⟨[x]⟩, ⟨[t]⟩⟩ => aCapNil P m t (ρ x)
  | .call ⟨.builtin .copy, ⟨[d, x]⟩, ⟨[t, _]⟩⟩ => aCopy P m t (ρ d) (ρ x)
  | .call ⟨.builtin .clear, ⟨[x]⟩, ⟨[t]⟩⟩ => aClear P m t (ρ x)
  | _ => none

/-- What an operation with an effect comes to. -/
def EffN (P : Program) (β : Beta) (m : Mem) (w : World) (s : Sem Next) (v : Value) (m' : Mem) : Prop :=
  ∃ nx v' w' β', s.run P w = .ok nx w' ∧ (nx = .value v' ∨ nx = .skip ∧ v' = Go.undef) ∧ VRel β' m'.size v v' ∧ Rel P β' m' w' ∧ Stp β m w β' m' w'

theorem EffN.of {P : Program} {β : Beta} {m m' : Mem} {w : World} {s : Sem Value} {S : Sem Next} {v : Value} (h : Eff P β m w s v m') (hS : ∀ v' w', s.run P w = .ok v' w' → S.run P w = .ok (.value v') w') : EffN P β m w S v m' := by
  obtain ⟨v', w', β', hs, h1, h2, h3⟩ := h
  exact ⟨_, v', w', β', hS v' w' hs, .inl rfl, h1, h2, h3⟩

theorem aEff_sound {P : Program} {β : Beta} {m m' : Mem} {w : World} {ρ ρ' : Operand → Value} {o : Oper} {v : Value} (hR : Rel P β m w) (hρ : ∀ x ∈ o.op.operands, VRel β m.size (ρ x) (ρ' x)) (h : aEff P m ρ o.op = some (v, m')) :
    EffN P β m w (execOp ρ' o) v m' := by
  obtain ⟨dst, op, ty, pos, after, guard⟩ := o
  simp only at hρ h
  cases op with
  | alloc e => exact EffN.of (aAlloc_sound hR h) (fun v' w' hs => by simp only [execOp, Sem.run_bind, hs]; rfl)
  | box e x =>
    have h' : aBox m (ρ x) = (v, m') := Option.some.inj h
    have := aBox_sound (e := e) hR (hρ x (by simp [Op.operands]))
    rw [h'] at this
    exact EffN.of this (fun v' w' hs => by simp only [execOp, Sem.run_bind, hs]; rfl)
  | buildSlice t len ps =>
    refine EffN.of (aBuildSlice_sound hR (ps' := ps.map fun (i, x) => (i, ρ' x)) ?_ h) (fun v' w' hs => by simp only [execOp, Sem.run_bind, hs]; rfl)
    have := PRel.of_map (β := β) (N := m.size) (ρ := ρ) (ρ' := ρ') ps.toList (fun p hp => hρ p.2 (by
      simp only [Op.operands, List.mem_toArray, List.mem_map]; exact ⟨p, hp, rfl⟩))
    simpa using this
  | makeSlice t l c => exact EffN.of (aMakeSlice_sound hR (hρ l (by simp [Op.operands])) (hρ c (by simp [Op.operands])) h) (fun v' w' hs => by simp only [execOp, Sem.run_bind, hs]; rfl)
  | makeMap t r => exact EffN.of (aMakeMap_sound (t := t) hR (ORel.of_map r (fun y hy => hρ y (by simp [Op.operands, hy]))) h) (fun v' w' hs => by simp only [execOp, Sem.run_bind, hs]; rfl)
  | store t a x =>
    have h' : (aStore P m t (ρ a) (ρ x)).map (fun m' => (Go.undef, m')) = some (v, m') := h
    cases e : aStore P m t (ρ a) (ρ x) with
    | none => rw [e] at h'; cases h'
    | some m1 =>
      rw [e] at h'; injection h' with h'; injection h' with h1 h2; subst h1 h2
      obtain ⟨w', hr, r1, r2⟩ := aStore_sound hR (hρ a (by simp [Op.operands])) (hρ x (by simp [Op.operands])) e
      exact ⟨.skip, Go.undef, w', β, by simp only [execOp, Sem.run_bind, hr]; rfl, .inr ⟨rfl, rfl⟩, .undef _ _, r1, r2⟩
  | mapUpdate t x k y =>
    have h' : (aMapUpdate P m t (ρ x) (ρ k) (ρ y)).map (fun m' => (Go.undef, m')) = some (v, m') := h
    cases e : aMapUpdate P m t (ρ x) (ρ k) (ρ y) with
    | none => rw [e] at h'; cases h'
    | some m1 =>
      rw [e] at h'; injection h' with h'; injection h' with h1 h2; subst h1 h2
      obtain ⟨w', hr, r1, r2⟩ := aMapUpdate_sound hR (hρ x (by simp [Op.operands])) (hρ k (by simp [Op.operands])) (hρ y (by simp [Op.operands])) e
      exact ⟨.skip, Go.undef, w', β, by simp only [execOp, Sem.run_bind, hr]; rfl, .inr ⟨rfl, rfl⟩, .undef _ _, r1, r2⟩
  | insert t x k y =>
    have h' : (aMapUpdate P m t (ρ x) (ρ k) (ρ y)).map (fun m' => (Go.undef, m')) = some (v, m') := h
    cases e : aMapUpdate P m t (ρ x) (ρ k) (ρ y) with
    | none => rw [e] at h'; cases h'
    | some m1 =>
      rw [e] at h'; injection h' with h'; injection h' with h1 h2; subst h1 h2
      obtain ⟨w', hr, r1, r2⟩ := aMapUpdate_sound hR (hρ x (by simp [Op.operands])) (hρ k (by simp [Op.operands])) (hρ y (by simp [Op.operands])) e
      exact ⟨.skip, Go.undef, w', β, by simp only [execOp, Sem.run_bind, hr]; rfl, .inr ⟨rfl, rfl⟩, .undef _ _, r1, r2⟩
  | call c =>
    unfold aEff at h
    split at h <;> rename_i heq <;> (try (cases heq)) <;> (try (cases h; done))
    · rename_i s x t xt
      split at h
      · rename_i r er
        injection h with h; subst h
        exact EffN.of (aAppend_sound (rt := ty) hR (hρ s (by simp [Op.operands, Call.operands])) (hρ x (by simp [Op.operands, Call.operands])) er) (fun v' w' hs => by
          simp only [execOp, resolve, Sem.run_bind, Sem.run_pure, Result.andThen_ok, invoke, builtin, List.map_toArray, List.map_cons, List.map_nil, hs])
      · exact EffN.of (aAppendN_sound (rt := ty) hR (hρ s (by simp [Op.operands, Call.operands])) (hρ x (by simp [Op.operands, Call.operands])) h) (fun v' w' hs => by
          simp only [execOp, resolve, Sem.run_bind, Sem.run_pure, Result.andThen_ok, invoke, builtin, List.map_toArray, List.map_cons, List.map_nil, hs])
    · rename_i x t
      exact EffN.of (aCapNil_sound (rt := ty) hR (hρ x (by simp [Op.operands, Call.operands])) h) (fun v' w' hs => by
        simp only [execOp, resolve, Sem.run_bind, Sem.run_pure, Result.andThen_ok, invoke, builtin, List.map_toArray, List.map_cons, List.map_nil, hs])
    · rename_i d x t xt
      exact EffN.of (aCopy_sound (xt := xt) (rt := ty) hR (hρ d (by simp [Op.operands, Call.operands])) (hρ x (by simp [Op.operands, Call.operands])) h) (fun v' w' hs => by
        simp only [execOp, resolve, Sem.run_bind, Sem.run_pure, Result.andThen_ok, invoke, builtin, List.map_toArray, List.map_cons, List.map_nil, hs])
    · rename_i x t
      exact EffN.of (aClear_sound (rt := ty) hR (hρ x (by simp [Op.operands, Call.operands])) h) (fun v' w' hs => by
        simp only [execOp, resolve, Sem.run_bind, Sem.run_pure, Result.andThen_ok, invoke, builtin, List.map_toArray, List.map_cons, List.map_nil, hs])
  | _ => exact absurd h (by simp [aEff])

end Go.AM

/-! ### A14 -/
namespace Go.AM
set_option linter.unusedVariables false
set_option linter.unusedSimpArgs false

def AObj.isLoop : AObj → Bool
  | .loop _ => true
  | _ => false
def LoopsIn (m m' : Mem) : Prop := ∀ b, (Mem.get m b).isLoop = true → (Mem.get m' b).isLoop = true
theorem LoopsIn.refl (m : Mem) : LoopsIn m m := fun _ h => h
theorem LoopsIn.trans {m m' m'' : Mem} (h : LoopsIn m m') (h' : LoopsIn m' m'') : LoopsIn m m'' := fun b hb => h' b (h b hb)
theorem LoopsIn.push (m : Mem) (o : AObj) : LoopsIn m (m.push o) := by
  intro b hb
  rw [get_push]
  have : b < m.size := by
    refine Mem.lt_of_live ?_
    cases h : Mem.get m b <;> rw [h] at hb <;> first | rfl | cases hb
  rw [if_neg (by omega)]; exact hb
theorem LoopsIn.set {m : Mem} {b : Nat} {o : AObj} (h : (Mem.get m b).isLoop = true → o.isLoop = true) : LoopsIn m (m.setIfInBounds b o) := by
  intro i hi
  rw [get_set]
  split
  · rename_i hc; rw [hc.1] at h; exact h hi
  · exact hi

theorem aEff_loops {P : Program} {m m' : Mem} {ρ : Operand → Value} {op : Op} {v : Value} (h : aEff P m ρ op = some (v, m')) : LoopsIn m m' := by
  have nl : ∀ {b : Nat} {o : AObj}, (Mem.get m b).isLoop = false → LoopsIn m (m.setIfInBounds b o) := by
    intro b o hb; refine LoopsIn.set (fun h => ?_); rw [hb] at h; cases h
  unfold aEff at h
  split at h
  · unfold aAlloc at h
    repeat' (split at h)
    all_goals first
      | (cases h; done)
      | (injection h with h; injection h with h1 h2; subst h2; exact LoopsIn.push _ _)
  · injection h with h; injection h with h1 h2; subst h2; exact LoopsIn.push _ _
  · unfold aBuildSlice at h
    repeat' (split at h)
    all_goals first
      | (cases h; done)
      | (injection h with h; injection h with h1 h2; subst h2; exact LoopsIn.push _ _)
  · unfold aMakeSlice at h
    repeat' (split at h)
    all_goals first
      | (cases h; done)
      | (injection h with h; injection h with h1 h2; subst h2; exact LoopsIn.push _ _)
  · unfold aMakeMap at h
    repeat' (split at h)
    all_goals first
      | (cases h; done)
      | (injection h with h; injection h with h1 h2; subst h2; exact LoopsIn.push _ _)
  · unfold aStore at h
    repeat' (split at h)
    all_goals first
      | (cases h; done)
      | (rename_i e _; simp only [Option.map_some, Option.some.injEq, Prod.mk.injEq] at h; obtain ⟨_, rfl⟩ := h; exact nl (by simp only [*, AObj.isLoop]))
  · unfold aMapUpdate at h
    repeat' (split at h)
    all_goals first
      | (cases h; done)
      | (simp only [Option.map_some, Option.some.injEq, Prod.mk.injEq] at h; obtain ⟨_, rfl⟩ := h; exact nl (by simp only [*, AObj.isLoop]))
  · unfold aMapUpdate at h
    repeat' (split at h)
    all_goals first
      | (cases h; done)
      | (simp only [Option.map_some, Option.some.injEq, Prod.mk.injEq] at h; obtain ⟨_, rfl⟩ := h; exact nl (by simp only [*, AObj.isLoop]))
  · split at h
    · rename_i r er
      injection h with h; subst h
      unfold aAppend at er
      repeat' (split at er)
      all_goals first
        | (cases er; done)
        | (injection er with er; injection er with h1 h2; subst h2; first
            | exact LoopsIn.refl _
            | exact LoopsIn.push _ _
            | exact nl (by simp only [*, AObj.isLoop])
            | exact LoopsIn.trans (nl (by simp only [*, AObj.isLoop])) (LoopsIn.push _ _))
    · unfold aAppendN at h
      repeat' (split at h)
      all_goals first
        | (cases h; done)
        | (injection h with h; injection h with h1 h2; subst h2; exact LoopsIn.push _ _)
  · unfold aCapNil at h
    split at h
    · injection h with h; injection h with h1 h2; subst h2; exact LoopsIn.refl _
    · cases h
  · unfold aCopy at h
    repeat' (split at h)
    all_goals first
      | (cases h; done)
      | (injection h with h; injection h with h1 h2; subst h2; first
          | exact LoopsIn.refl _
          | exact nl (by simp only [*, AObj.isLoop]))
  · unfold aClear at h
    repeat' (split at h)
    all_goals first
      | (cases h; done)
      | (injection h with h; injection h with h1 h2; subst h2; first
          | exact LoopsIn.refl _
          | exact nl (by simp only [*, AObj.isLoop]))
  · cases h

/-- Marks from a place in the heap on. -/
def MarksFrom (n : Nat) (ds : List Deferred) (w : World) : Prop :=
  ∃ rs : List Nat, ds = rs.map (fun r => { target := .collected r, args := #[] }) ∧ rs.Nodup ∧ ∀ r ∈ rs, n ≤ r ∧ w.heap[r]? = some (.deferred (some []))

theorem Rel.not_deferred {P : Program} {β : Beta} {m : Mem} {w : World} (h : Rel P β m w) {b r : Nat} {d : Option (List Deferred)} (hb : (Mem.get m b).live = true) (hr : w.heap[r]? = some (.deferred d)) : β.blk b ≠ r := by
  intro e
  obtain ⟨O, h1, h2⟩ := h.obj b hb
  rw [e, hr] at h1; injection h1 with h1; subst h1
  cases ho : Mem.get m b with
  | dead => rw [ho] at hb; cases hb
  | cells r c => rw [ho] at h2; obtain ⟨_, _, _, h3, _⟩ := h2; cases h3
  | map r es => rw [ho] at h2; obtain ⟨_, _, h3, _⟩ := h2; cases h3
  | loop L => rw [ho] at h2; obtain ⟨_, h3, _⟩ := h2; cases h3
  | grow c => rw [ho] at h2; obtain ⟨_, _, _, h3, _⟩ := h2; cases h3

theorem MarksFrom.stp {P : Program} {n : Nat} {ds : List Deferred} {β β' : Beta} {m m' : Mem} {w w' : World} (h : MarksFrom n ds w) (hR : Rel P β m w) (hS : Stp β m w β' m' w') : MarksFrom n ds w' := by
  obtain ⟨rs, h1, h2, h3⟩ := h
  refine ⟨rs, h1, h2, fun r hr => ⟨(h3 r hr).1, ?_⟩⟩
  have hh := (h3 r hr).2
  rw [hS.keep r (Array.getElem?_eq_some_iff.1 hh).1 (fun b hb => hR.not_deferred (AObj.live_of_rw hb) hh)]
  exact hh

theorem popped_heap (rs : List Nat) (w : World) (i : Nat) (hi : i ∉ rs) : (popped rs w).heap[i]? = w.heap[i]? := by
  induction rs generalizing w with
  | nil => rfl
  | cons r rs ih =>
    have h1 : i ≠ r := fun e => hi (by simp [e])
    have h2 : i ∉ rs := fun e => hi (by simp [e])
    show (popped rs (World.putObj w r (.deferred none))).heap[i]? = _
    rw [ih _ h2]
    simp only [World.putObj]
    rw [Array.getElem?_setIfInBounds_ne (fun e => h1 e.symm)]
theorem popped_rest (rs : List Nat) (w : World) : (popped rs w).heap.size = w.heap.size ∧ (popped rs w).os = w.os ∧ (popped rs w).tape = w.tape ∧ (popped rs w).output = w.output := by
  induction rs generalizing w with
  | nil => exact ⟨rfl, rfl, rfl, rfl⟩
  | cons r rs ih =>
    have := ih (World.putObj w r (.deferred none))
    simp only [World.putObj, Array.size_setIfInBounds] at this
    exact this

theorem Rel.popped {P : Program} {β : Beta} {m : Mem} {w : World} (h : Rel P β m w) {rs : List Nat} (hr : ∀ r ∈ rs, w.heap[r]? = some (.deferred (some []))) : Rel P β m (popped rs w) := by
  refine ⟨h.gsz, h.glob, fun b hb => ?_, h.inj⟩
  obtain ⟨O, h1, h2⟩ := h.obj b hb
  refine ⟨O, ?_, h2⟩
  rw [popped_heap rs w _ (fun hm => h.not_deferred hb (hr _ hm) rfl)]
  exact h1
theorem Stp.popped {β β' : Beta} {m m' : Mem} {w w' : World} (h : Stp β m w β' m' w') {rs : List Nat} (hr : ∀ r ∈ rs, w.heap.size ≤ r) : Stp β m w β' m' (popped rs w') := by
  obtain ⟨p1, p2, p3, p4⟩ := popped_rest rs w'
  refine ⟨h.msz, by rw [p1]; exact h.wsz, h.agree, h.fresh, fun i hi hn => ?_, by rw [p2]; exact h.os, by rw [p3]; exact h.tape, by rw [p4]; exact h.output⟩
  rw [popped_heap rs w' i (fun hm => by have := hr i hm; omega)]
  exact h.keep i hi hn

/-! ### The judgements -/
/-- The round's own loop is there. -/
def InRound (b : FB) (β : Beta) (m : Mem) : Prop := ∀ l, b.roundOf = some l → ∃ a, (Mem.get m a).isLoop = true ∧ β.blk a = l

def ACd (P : Program) (c : Code) (t : Array Value) (m : Mem) (e : AExit) (t' : Array Value) (m' : Mem) : Prop :=
  LoopsIn m m' ∧ ∀ (b : FB) (β : Beta) (w : World) (ts : Array Value) (ds : List Deferred) (n : Nat), Rel P β m w → ARel β m.size t ts → MarksFrom n ds w → n ≤ w.heap.size → (b.roundOf ≠ none → ds = []) → InRound b β m →
    CR P b c (fun e' ts' ds' w' => e' = e ∧ MarksFrom n ds' w' ∧ (b.roundOf ≠ none → ds' = []) ∧ ∃ β', ARel β' m'.size t' ts' ∧ Rel P β' m' w' ∧ Stp β m w β' m' w') ts ds w

def AOp (P : Program) (o : Oper) (t : Array Value) (m : Mem) (v : Value) (m' : Mem) : Prop :=
  LoopsIn m m' ∧ ∀ (b : FB) (β : Beta) (w : World) (ts : Array Value) (ds : List Deferred), Rel P β m w → ARel β m.size t ts →
    OR P b ts ds w o (fun v' w' => ∃ β', VRel β' m'.size v v' ∧ Rel P β' m' w' ∧ Stp β m w β' m' w')

def ACalls (P : Program) (f : FuncId) (args : Array Value) (m : Mem) (v : Value) (m' : Mem) : Prop :=
  LoopsIn m m' ∧ ∀ (β : Beta) (w : World) (args' : Array Value), Rel P β m w → ARel β m.size args args' →
    Calls P f args' w (fun e w' => ∃ v', e = .returned v' ∧ ∃ β', VRel β' m'.size v v' ∧ Rel P β' m' w' ∧ Stp β m w β' m' w')

theorem InRound.next {b : FB} {β β' : Beta} {m m' : Mem} {w w' : World} (h : InRound b β m) (hl : LoopsIn m m') (hS : Stp β m w β' m' w') : InRound b β' m' := by
  intro l hb
  obtain ⟨a, h1, h2⟩ := h l hb
  refine ⟨a, hl a h1, ?_⟩
  have : a < m.size := by
    refine Mem.lt_of_live ?_
    cases h : Mem.get m a <;> rw [h] at h1 <;> first | rfl | cases h1
  rw [hS.agree.blk a this]; exact h2

/-! ### Operations -/
def okOps (P : Program) (op : Op) : Bool := op.operands.all (okOper P.globals.size)

theorem ops_rel {P : Program} {β : Beta} {m : Mem} {w : World} {t ts : Array Value} (hR : Rel P β m w) (hT : ARel β m.size t ts) {op : Op} (h : okOps P op = true) : ∀ x ∈ op.operands, VRel β m.size (ev t x) (ev ts x) := by
  intro x hx
  unfold okOps at h
  rw [Array.all_eq_true] at h
  obtain ⟨i, hi, rfl⟩ := Array.mem_iff_getElem.1 hx
  exact ev_rel hR hT (h i hi)

theorem AOp.pure {P : Program} {o : Oper} {t : Array Value} {m : Mem} {v : Value} (hd : noDefer o.op = true) (ho : okOps P o.op = true) (h : aPure P (ev t) o.op = some v) : AOp P o t m v m := by
  refine ⟨.refl _, fun b β w ts ds hR hT => ?_⟩
  obtain ⟨v', hr, hv⟩ := aPure_sound (w := w) (ops_rel hR hT ho) h
  exact OR.value hd hr ⟨β, hv, hR, .refl _ _ _⟩

theorem AOp.read {P : Program} {o : Oper} {t : Array Value} {m : Mem} {v : Value} (hd : noDefer o.op = true) (ho : okOps P o.op = true) (h : aRead P m (ev t) o.op = some v) : AOp P o t m v m := by
  refine ⟨.refl _, fun b β w ts ds hR hT => ?_⟩
  obtain ⟨v', hr, hv⟩ := aRead_sound hR (ops_rel hR hT ho) h
  exact OR.value hd hr ⟨β, hv, hR, .refl _ _ _⟩

theorem AOp.eff {P : Program} {o : Oper} {t : Array Value} {m m' : Mem} {v : Value} (hd : noDefer o.op = true) (ho : okOps P o.op = true) (h : aEff P m (ev t) o.op = some (v, m')) : AOp P o t m v m' := by
  refine ⟨aEff_loops h, fun b β w ts ds hR hT => ?_⟩
  obtain ⟨nx, v', w', β', hr, hnx, hv, h2, h3⟩ := aEff_sound hR (ops_rel hR hT ho) h
  rcases hnx with rfl | ⟨rfl, rfl⟩
  · exact OR.value hd hr ⟨β', hv, h2, h3⟩
  · exact OR.none hd hr ⟨β', hv, h2, h3⟩

def callable (P : Program) (g : FuncId) : Bool :=
  match P.funcs[g]? with
  | some fn => fn.name != "runtime.NumGoroutine" && fn.body.isSome
  | none => false

theorem run_callFunc {P : Program} {w : World} {g : FuncId} {args : Array Value} (h : callable P g = true) : (callFunc g args).run P w = .ok (.enter g args) w := by
  unfold callable at h
  split at h
  · rename_i fn e
    simp only [Bool.and_eq_true, bne_iff_ne, ne_eq] at h
    have h1 : (fn.name == "runtime.NumGoroutine") = false := by simpa using h.1
    have h2 : fn.body.isNone = false := by cases hb : fn.body <;> simp_all
    simp only [callFunc, Sem.run_bind, run_program, Result.andThen_ok, e, h1, Bool.false_eq_true, if_false, h2, Sem.run_pure]
  · cases h

theorem AOp.call {P : Program} {o : Oper} {c : Call} {f : Operand} {t : Array Value} {m m' : Mem} {v : Value} {g : FuncId} {a cap : Array Value} (hc : o.op = .call c) (hf : c.callee = .value f) (ho : okOps P o.op = true)
    (hv : ev t f = .func (.func g) a cap) (hcall : callable P g = true) (h : ACalls P g (a ++ c.args.map (ev t) ++ cap) m v m') : AOp P o t m v m' := by
  refine ⟨h.1, fun b β w ts ds hR hT => ?_⟩
  have hops := ops_rel hR hT ho
  have hfv : VRel β m.size (ev t f) (ev ts f) := hops f (by rw [hc]; simp [Op.operands, Call.operands, hf])
  have hargs : ARel β m.size (c.args.map (ev t)) (c.args.map (ev ts)) := ARel.of_map _ (fun x hx => hops x (by rw [hc]; simp [Op.operands, Call.operands, hf, hx]))
  rw [hv] at hfv
  cases hfs : ev ts f with
  | func g' a' cap' =>
    rw [hfs] at hfv
    cases hfv with
    | func _ _ _ _ _ h1 h2 h3 h4 =>
      have hA : ARel β m.size (a ++ c.args.map (ev t) ++ cap) (a' ++ c.args.map (ev ts) ++ cap') := (ARel.append ⟨h1, h2⟩ hargs).append ⟨h3, h4⟩
      refine OR.enter (f := g) (args := a' ++ c.args.map (ev ts) ++ cap') (by rw [hc]; rfl) ?_ (Runs.of_calls (h.2 β w _ hR hA))
      obtain ⟨dst, op, ty, pos, after, guard⟩ := o
      simp only at hc; subst hc
      simp only [execOp, resolve, hf, hfs, Deferred.ofValue, Sem.run_bind, Sem.run_pure, Result.andThen_ok, invoke, run_callFunc hcall]
  | _ => rw [hfs] at hfv; cases hfv

end Go.AM

/-! ### A15 -/
namespace Go.AM
set_option linter.unusedVariables false
set_option linter.unusedSimpArgs false

section
variable {P : Program} {t t1 t2 : Array Value} {m m1 m2 : Mem} {e : AExit}

theorem ACd.skip : ACd P .skip t m .normal t m :=
  ⟨.refl _, fun b β w ts ds n hR hT hM hn hd hI => CR.skip ⟨rfl, hM, hd, β, hT, hR, .refl _ _ _⟩⟩
theorem ACd.label {l : Nat} : ACd P (.label l) t m .normal t m :=
  ⟨.refl _, fun b β w ts ds n hR hT hM hn hd hI => CR.label ⟨rfl, hM, hd, β, hT, hR, .refl _ _ _⟩⟩
theorem ACd.exit {id : Nat} : ACd P (.exit id) t m (.exit id) t m :=
  ⟨.refl _, fun b β w ts ds n hR hT hM hn hd hI => CR.exit ⟨rfl, hM, hd, β, hT, hR, .refl _ _ _⟩⟩
theorem ACd.ret : ACd P .ret t m .ret t m :=
  ⟨.refl _, fun b β w ts ds n hR hT hM hn hd hI => CR.ret ⟨rfl, hM, hd, β, hT, hR, .refl _ _ _⟩⟩

theorem ACd.cond {c : Operand} {x y : Code} {q : Bool} (ho : okOper P.globals.size c = true) (hc : ev t c = .bool q) (h : ACd P (if q then x else y) t m e t1 m1) : ACd P (.cond c x y) t m e t1 m1 := by
  refine ⟨h.1, fun b β w ts ds n hR hT hM hn hd hI => ?_⟩
  have hv := ev_rel hR hT ho
  rw [hc] at hv
  cases hs : ev ts c with
  | bool q' => rw [hs] at hv; cases hv; exact CR.cond hs (h.2 b β w ts ds n hR hT hM hn hd hI)
  | _ => rw [hs] at hv; cases hv

theorem ACd.seq {x y : Code} (h1 : ACd P x t m .normal t1 m1) (h2 : ACd P y t1 m1 e t2 m2) : ACd P (.seq x y) t m e t2 m2 := by
  refine ⟨h1.1.trans h2.1, fun b β w ts ds n hR hT hM hn hd hI => ?_⟩
  refine CR.seq ((h1.2 b β w ts ds n hR hT hM hn hd hI).mono ?_)
  rintro e1 ts1 ds1 w1 ⟨rfl, hM1, hd1, β1, hT1, hR1, hS1⟩
  refine (h2.2 b β1 w1 ts1 ds1 n hR1 hT1 hM1 (Nat.le_trans hn hS1.wsz) hd1 (hI.next h1.1 hS1)).mono ?_
  rintro e2 ts2 ds2 w2 ⟨rfl, hM2, hd2, β2, hT2, hR2, hS2⟩
  exact ⟨rfl, hM2, hd2, β2, hT2, hR2, hS1.trans hS2⟩

theorem ACd.seq_out {x y : Code} (he : e ≠ .normal) (h1 : ACd P x t m e t1 m1) : ACd P (.seq x y) t m e t1 m1 := by
  refine ⟨h1.1, fun b β w ts ds n hR hT hM hn hd hI => ?_⟩
  refine CR.seq ((h1.2 b β w ts ds n hR hT hM hn hd hI).mono ?_)
  rintro e1 ts1 ds1 w1 ⟨rfl, h⟩
  cases e1 with
  | normal => exact absurd rfl he
  | exit id => exact ⟨rfl, h⟩
  | ret => exact ⟨rfl, h⟩

theorem ACd.block {id : Nat} {x : Code} (h1 : ACd P x t m e t1 m1) : ACd P (.block id x) t m (if e = .exit id then .normal else e) t1 m1 := by
  refine ⟨h1.1, fun b β w ts ds n hR hT hM hn hd hI => ?_⟩
  refine CR.block ((h1.2 b β w ts ds n hR hT hM hn hd hI).mono ?_)
  rintro e1 ts1 ds1 w1 ⟨rfl, h⟩
  cases e1 with
  | normal => exact ⟨by simp, h⟩
  | exit j =>
    by_cases hj : j = id
    · subst hj; simp only [if_true]; exact ⟨by simp, h⟩
    · simp only [hj, if_false]; exact ⟨by simp [hj], h⟩
  | ret => exact ⟨by simp, h⟩

theorem ACd.scope {x : Code} (h1 : ACd P x t m e t1 m1) : ACd P (.scope x) t m e t1 m1 :=
  ⟨h1.1, fun b β w ts ds n hR hT hM hn hd hI => CR.scope (h1.2 b β w ts ds n hR hT hM hn hd hI)⟩

theorem ACd.loop {x : Code} (h1 : ACd P x t m .normal t1 m1) (h2 : ACd P (.loop x) t1 m1 e t2 m2) : ACd P (.loop x) t m e t2 m2 := by
  refine ⟨h1.1.trans h2.1, fun b β w ts ds n hR hT hM hn hd hI => ?_⟩
  refine CR.loop ((h1.2 b β w ts ds n hR hT hM hn hd hI).mono ?_)
  rintro e1 ts1 ds1 w1 ⟨rfl, hM1, hd1, β1, hT1, hR1, hS1⟩
  refine (h2.2 b β1 w1 ts1 ds1 n hR1 hT1 hM1 (Nat.le_trans hn hS1.wsz) hd1 (hI.next h1.1 hS1)).mono ?_
  rintro e2 ts2 ds2 w2 ⟨rfl, hM2, hd2, β2, hT2, hR2, hS2⟩
  exact ⟨rfl, hM2, hd2, β2, hT2, hR2, hS1.trans hS2⟩

theorem ACd.loop_out {x : Code} (he : e ≠ .normal) (h1 : ACd P x t m e t1 m1) : ACd P (.loop x) t m e t1 m1 := by
  refine ⟨h1.1, fun b β w ts ds n hR hT hM hn hd hI => ?_⟩
  refine CR.loop ((h1.2 b β w ts ds n hR hT hM hn hd hI).mono ?_)
  rintro e1 ts1 ds1 w1 ⟨rfl, h⟩
  cases e1 with
  | normal => exact absurd rfl he
  | exit id => exact ⟨rfl, h⟩
  | ret => exact ⟨rfl, h⟩
end

/-! ### Regions -/
def awanted (ops : Array Oper) (t : Array Value) (o : Oper) : Bool := Region.wanted o (yielded ops t)

/-- Operations one after the other. -/
inductive ARow (P : Program) (ops : Array Oper) : List Nat → Array Value → Mem → Array Value → Mem → Prop
  | nil (t : Array Value) (m : Mem) : ARow P ops [] t m t m
  | op {i : Nat} {l : List Nat} {o : Oper} {t t' : Array Value} {m m1 m' : Mem} {v : Value} (ho : ops[i]? = some o) (hw : awanted ops t o = true) (h : AOp P o t m v m1) (hr : ARow P ops l (put t o.dst v) m1 t' m') : ARow P ops (i :: l) t m t' m'
  | off {i : Nat} {l : List Nat} {o : Oper} {t t' : Array Value} {m m' : Mem} (ho : ops[i]? = some o) (hw : awanted ops t o = false) (hr : ARow P ops l (put t o.dst Go.undef) m t' m') : ARow P ops (i :: l) t m t' m'

theorem yielded_rel {β : Beta} {N : Nat} {ops : Array Oper} {t ts : Array Value} (hT : ARel β N t ts) (j : Nat) : yielded ops ts j = yielded ops t j := by
  unfold yielded
  cases h : (ops[j]?).bind (·.dst) with
  | none => rfl
  | some d =>
    simp only [Option.bind_some]
    cases e : t[d]? with
    | none =>
      have : ts[d]? = none := Array.getElem?_eq_none_iff.2 (by rw [← hT.1]; exact Array.getElem?_eq_none_iff.1 e)
      rw [this]
    | some v =>
      obtain ⟨v', e', hv⟩ := hT.get e
      rw [e']
      cases hv <;> rfl

theorem wanted_rel {β : Beta} {N : Nat} {ops : Array Oper} {t ts : Array Value} (hT : ARel β N t ts) (o : Oper) : Region.wanted o (yielded ops ts) = awanted ops t o := by
  unfold awanted
  have : yielded ops ts = yielded ops t := funext (yielded_rel hT)
  rw [this]

theorem ARow.loops {P : Program} {ops : Array Oper} {l : List Nat} {t t' : Array Value} {m m' : Mem} (h : ARow P ops l t m t' m') : LoopsIn m m' := by
  induction h with
  | nil => exact .refl _
  | op _ _ h _ ih => exact h.1.trans ih
  | off _ _ _ ih => exact ih

theorem RR.mono {P : Program} {b : FB} {ops : Array Oper} {ds : List Deferred} : ∀ (l : List Nat) (ts : Array Value) (w : World) (Q Q' : Array Value → World → Prop), (∀ ts w, Q ts w → Q' ts w) → RR P b ops ds Q l ts w → RR P b ops ds Q' l ts w
  | [], ts, w, Q, Q', hq, h => hq _ _ h
  | i :: l, ts, w, Q, Q', hq, h => by
    simp only [RR] at h ⊢
    cases ho : ops[i]? with
    | none => rw [ho] at h; exact RR.mono l _ _ _ _ hq h
    | some o =>
      rw [ho] at h
      simp only at h ⊢
      split at h
      · rename_i hc
        rw [if_pos hc]
        intro ops' i' rest k cs ho' hw'
        obtain ⟨v', w1, hr, s⟩ := h ops' i' rest k cs ho' hw'
        exact ⟨v', w1, RR.mono l _ _ _ _ hq hr, s⟩
      · rename_i hc
        rw [if_neg hc]
        exact RR.mono l _ _ _ _ hq h

theorem ARow.sound {P : Program} {ops : Array Oper} {b : FB} {ds : List Deferred} {l : List Nat} {t t' : Array Value} {m m' : Mem} (h : ARow P ops l t m t' m') :
    ∀ (β : Beta) (w : World) (ts : Array Value), Rel P β m w → ARel β m.size t ts →
      RR P b ops ds (fun ts' w' => ∃ β', ARel β' m'.size t' ts' ∧ Rel P β' m' w' ∧ Stp β m w β' m' w') l ts w := by
  induction h with
  | nil t m => exact fun β w ts hR hT => ⟨β, hT, hR, .refl _ _ _⟩
  | @op i l o t t' m m1 m' v ho hw h hr ih =>
    intro β w ts hR hT
    simp only [RR, ho, wanted_rel hT, hw, if_true]
    intro ops' i' rest k cs ho' hw'
    obtain ⟨v', w1, ⟨β1, hv1, hR1, hS1⟩, s⟩ := h.2 b β w ts ds hR hT ops' i' rest k cs ho' hw'
    refine ⟨v', w1, ?_, s⟩
    have hT1 : ARel β1 m1.size (put t o.dst v) (put ts o.dst v') := (hT.mono hS1.agree hS1.msz).put _ hv1
    refine RR.mono _ _ _ _ _ ?_ (ih β1 w1 _ hR1 hT1)
    rintro ts2 w2 ⟨β2, hT2, hR2, hS2⟩
    exact ⟨β2, hT2, hR2, hS1.trans hS2⟩
  | @off i l o t t' m m' ho hw hr ih =>
    intro β w ts hR hT
    simp only [RR, ho, wanted_rel hT, hw, Bool.false_eq_true, if_false]
    exact ih β w _ hR (hT.put _ (.undef _ _))

theorem ACd.region {P : Program} {id : Nat} {ops : Array Oper} {t t' : Array Value} {m m' : Mem} (h : ARow P ops (List.range ops.size) t m t' m') : ACd P (.region id ops false) t m .normal t' m' := by
  refine ⟨h.loops, fun b β w ts ds n hR hT hM hn hd hI => ?_⟩
  intro k cs
  obtain ⟨ts', w', ⟨β', hT', hR', hS'⟩, s⟩ := RR.steps _ _ _ (h.sound (b := b) (ds := ds) β w ts hR hT) k cs
  exact ⟨.normal, ts', ds, w', ⟨rfl, hM.stp hR hS', hd, β', hT', hR', hS'⟩, (Steps.one st_region).trans s⟩

/-- A region that draws its order: it has to come to the same in every order. -/
theorem ACd.region_draw {P : Program} {id : Nat} {ops : Array Oper} {t t' : Array Value} {m m' : Mem} (h : ∀ q, ARow P ops (Region.schedule (P.follows .mixedOrders) ops q) t m t' m') : ACd P (.region id ops true) t m .normal t' m' := by
  refine ⟨(h 0).loops, fun b β w ts ds n hR hT hM hn hd hI => ?_⟩
  intro k cs
  have hdr : ({ w with drawn := w.drawn + 1 } : World).heap = w.heap := rfl
  obtain ⟨ts', w', ⟨β', hT', hR', hS'⟩, s⟩ := RR.steps _ _ _ ((h (w.tape w.drawn (.order b.fn id))).sound (b := b) (ds := ds) β { w with drawn := w.drawn + 1 } ts (hR.drew hdr) hT) k cs
  have hS2 : Stp β m w β' m' w' := (Stp.drew (w' := { w with drawn := w.drawn + 1 }) hdr rfl rfl rfl).trans hS'
  exact ⟨.normal, ts', ds, w', ⟨rfl, hM.stp hR hS2, hd, β', hT', hR', hS2⟩, (Steps.one st_region_draw).trans s⟩

/-! ### Functions -/
def aResult (P : Program) (m : Mem) (t : Array Value) : ResultVar → Option Value
  | .tmp i => some (t.getD i Go.undef)
  | .cell a ty => aLoad P m ty (t.getD a Go.undef)
def aResults (P : Program) (m : Mem) (t : Array Value) : List ResultVar → Option (List Value)
  | [] => some []
  | r :: rs => match aResult P m t r, aResults P m t rs with
    | some v, some vs => some (v :: vs)
    | _, _ => none
def oneOf (vs : List Value) : Value :=
  match vs with
  | [v] => v
  | vs => .tuple vs.toArray

def resSem (ts : Array Value) : ResultVar → Sem Value
  | .tmp t => Pure.pure (ts.getD t Go.undef)
  | .cell a t => do loadVar t (← asAddr (ts.getD a Go.undef))
theorem results_eq (fn : Func) (ts : Array Value) : results fn ts = (do
    let vs ← fn.results.mapM (resSem ts)
    pure (if h : vs.size = 1 then vs[0] else .tuple vs)) := by
  unfold results
  congr 1

theorem aResults_sound {P : Program} {β : Beta} {m : Mem} {w : World} {t ts : Array Value} (hR : Rel P β m w) (hT : ARel β m.size t ts) : ∀ (rs : List ResultVar) (vs : List Value), aResults P m t rs = some vs →
    ∃ vs', (rs.mapM (resSem ts)).run P w = .ok vs' w ∧ vs.length = vs'.length ∧
      ∀ (i : Nat) v v', vs[i]? = some v → vs'[i]? = some v' → VRel β m.size v v'
  | [], vs, h => by
    injection h with h; subst h
    exact ⟨[], rfl, rfl, fun i v v' e => by simp at e⟩
  | r :: rs, vs, h => by
    unfold aResults at h
    cases e1 : aResult P m t r with
    | none => rw [e1] at h; cases h
    | some v =>
      cases e2 : aResults P m t rs with
      | none => rw [e1, e2] at h; cases h
      | some vr =>
        rw [e1, e2] at h; injection h with h; subst h
        obtain ⟨vr', hr, hl, hv⟩ := aResults_sound hR hT rs vr e2
        have one : ∃ v', (resSem ts r).run P w = .ok v' w ∧ VRel β m.size v v' := by
          cases r with
          | tmp i => injection e1 with e1; subst e1; exact ⟨_, rfl, hT.getD i⟩
          | cell a ty =>
            have hx := hT.getD a
            obtain ⟨v', hr', hv'⟩ := aLoad_sound hR hx e1
            refine ⟨v', ?_, hv'⟩
            have hs : ∀ q, (Instr.loadAt ty q).run P w = .ok v' w → (do loadVar ty (← asAddr q) : Sem Value).run P w = .ok v' w := by
              intro q hq
              cases q with
              | pointer o =>
                cases o with
                | none => simp [Instr.loadAt, Instr.sureAddr] at hq
                | some a => simpa [Instr.loadAt, Instr.sureAddr, asAddr] using hq
              | _ => simp [Instr.loadAt, Instr.sureAddr] at hq
            exact hs _ hr'
        obtain ⟨v', hr1, hv1⟩ := one
        refine ⟨v' :: vr', ?_, by simp [hl], fun i x x' e e' => ?_⟩
        · rw [List.mapM_cons, Sem.run_bind, hr1]
          simp only [Result.andThen_ok, Sem.run_bind, hr, Sem.run_pure]
        · cases i with
          | zero => simp at e e'; subst e; subst e'; exact hv1
          | succ i => exact hv i x x' (by simpa using e) (by simpa using e')

theorem results_sound {P : Program} {β : Beta} {m : Mem} {w : World} {fn : Func} {t ts : Array Value} {vs : List Value} (hR : Rel P β m w) (hT : ARel β m.size t ts) (h : aResults P m t fn.results.toList = some vs) :
    ∃ v', (results fn ts).run P w = .ok v' w ∧ VRel β m.size (oneOf vs) v' := by
  obtain ⟨vs', hr, hl, hv⟩ := aResults_sound hR hT _ vs h
  have hm : (fn.results.mapM (resSem ts)).run P w = .ok vs'.toArray w := by
    rw [Array.mapM_eq_mapM_toList, Sem.run_map, hr]; rfl
  refine ⟨if h : vs'.toArray.size = 1 then vs'.toArray[0] else .tuple vs'.toArray, ?_, ?_⟩
  · rw [results_eq, Sem.run_bind, hm]; rfl
  · unfold oneOf
    split
    · rename_i v
      obtain ⟨v', rfl⟩ : ∃ v', vs' = [v'] := by
        cases vs' with
        | nil => simp at hl
        | cons v' r => cases r with
          | nil => exact ⟨v', rfl⟩
          | cons _ _ => simp at hl
      simp only [List.size_toArray, List.length_cons, List.length_nil, Nat.zero_add, dif_pos]
      exact hv 0 v v' rfl rfl
    · rename_i hne
      rw [dif_neg]
      · exact .tuple _ _ (by simpa using hl) (fun i v v' e e' => hv i v v' (by simpa using e) (by simpa using e'))
      · intro h1
        simp only [List.size_toArray] at h1
        cases vs with
        | nil => simp at hl; omega
        | cons v r => cases r with
          | nil => exact hne v rfl
          | cons _ _ => simp at hl; omega

theorem ACalls.body {P : Program} {f : FuncId} {fn : Func} {c : Code} {args : Array Value} {m m' : Mem} {e : AExit} {t' : Array Value} {vs : List Value} (hf : P.funcs[f]? = some fn) (hb : fn.body = some c)
    (h : ACd P c (args ++ Array.replicate (fn.ntmps - args.size) Go.undef) m e t' m') (he : e = .normal ∨ e = .ret) (hr : aResults P m' t' fn.results.toList = some vs) : ACalls P f args m (oneOf vs) m' := by
  refine ⟨h.1, fun β w args' hR hA => ?_⟩
  have hT : ARel β m.size (args ++ Array.replicate (fn.ntmps - args.size) Go.undef) (args' ++ Array.replicate (fn.ntmps - args'.size) Go.undef) := by
    rw [← hA.1]; exact hA.append (ARel.replicate _ (.undef _ _))
  refine calls_of_CR hf hb ((h.2 ⟨f, .normal, none⟩ β w _ [] w.heap.size hR hT ⟨[], rfl, by simp, by simp⟩ (Nat.le_refl _) (fun _ => rfl) (fun l hl => by cases hl)).mono ?_)
  rintro e' ts' ds' w' ⟨rfl, ⟨rs, h1, h2, h3⟩, _, β', hT', hR', hS'⟩
  have hrs : ∀ r ∈ rs, w'.heap[r]? = some (.deferred (some [])) := fun r hr => (h3 r hr).2
  have hRp := hR'.popped hrs
  have hSp := hS'.popped (fun r hr => (h3 r hr).1)
  obtain ⟨v', hv', hvr⟩ := results_sound (fn := fn) hRp hT' hr
  rcases he with rfl | rfl
  · exact ⟨rs, h1, h2, hrs, v', hv', β', hvr, hRp, hSp⟩
  · exact ⟨rs, h1, h2, hrs, v', hv', β', hvr, hRp, hSp⟩

end Go.AM

/-! ### A16 -/
namespace Go.AM
set_option linter.unusedVariables false
set_option linter.unusedSimpArgs false

def setParams (t : Array Value) (ps : Array Tmp) (args : Array Value) : Array Value :=
  (ps.zip args).foldl (fun t (p, a) => t.setIfInBounds p a) t

theorem setParams_rel {β : Beta} {N : Nat} {t ts : Array Value} {ps : Array Tmp} {args args' : Array Value} (hT : ARel β N t ts) (hA : ARel β N args args') : ARel β N (setParams t ps args) (setParams ts ps args') := by
  unfold setParams
  rw [← Array.foldl_toList, ← Array.foldl_toList, Array.toList_zip, Array.toList_zip]
  have key : ∀ (ps : List Tmp) (l l' : List Value) (t ts : Array Value), l.length = l'.length → (∀ (i : Nat) v v', l[i]? = some v → l'[i]? = some v' → VRel β N v v') → ARel β N t ts →
      ARel β N ((ps.zip l).foldl (fun t (p, a) => t.setIfInBounds p a) t) ((ps.zip l').foldl (fun t (p, a) => t.setIfInBounds p a) ts) := by
    intro ps
    induction ps with
    | nil => intro l l' t ts _ _ h; simpa using h
    | cons p ps ih =>
      intro l l' t ts hl hv h
      cases l with
      | nil => cases l' with
        | nil => simpa using h
        | cons _ _ => simp at hl
      | cons x l => cases l' with
        | nil => simp at hl
        | cons x' l' =>
          simp only [List.zip_cons_cons, List.foldl_cons]
          exact ih l l' _ _ (by simpa using hl) (fun i v v' e e' => hv (i + 1) v v' (by simpa using e) (by simpa using e')) (h.set p (hv 0 x x' rfl rfl))
  exact key ps.toList args.toList args'.toList t ts (by simpa using hA.1) (fun i v v' e e' => hA.2 i v v' (by simpa using e) (by simpa using e')) hT

def ARound (P : Program) (l : Nat) (args : Array Value) (m : Mem) (v : Value) (m' : Mem) : Prop :=
  ∃ L t2 m2 L2 e t4 m4 L4, Mem.get m l = .loop L ∧ args.size = L.params.size ∧
    ACd P L.assign (setParams L.tmps L.params args) m .normal t2 m2 ∧ Mem.get m2 l = .loop L2 ∧ L2.state = .ready ∧
    ACd P L.body t2 (m2.setIfInBounds l (.loop { L2 with state := .busy })) e t4 m4 ∧ Mem.get m4 l = .loop L4 ∧
    m' = m4.setIfInBounds l (.loop { L4 with state := if e.jump.isNone then .ready else .done, pending := e.jump }) ∧ v = .bool e.jump.isNone

theorem isLoop_of {m : Mem} {l : Nat} {L : ALoop} (h : Mem.get m l = .loop L) : (Mem.get m l).isLoop = true := by rw [h]; rfl

theorem ARound.loops {P : Program} {l : Nat} {args : Array Value} {m m' : Mem} {v : Value} (h : ARound P l args m v m') : LoopsIn m m' := by
  obtain ⟨L, t2, m2, L2, e, t4, m4, L4, _, _, h3, _, _, h6, _, rfl, _⟩ := h
  exact ((h3.1.trans (LoopsIn.set (fun _ => rfl))).trans h6.1).trans (LoopsIn.set (fun _ => rfl))

theorem Rel.setLoop {P : Program} {β : Beta} {m : Mem} {w : World} (hR : Rel P β m w) {l : Nat} {L L' : ALoop} {r' : Loop} (h : Mem.get m l = .loop L)
    (h1 : r'.state = L'.state) (h2 : r'.pending = L'.pending) (h3 : r'.params = L'.params) (h4 : r'.assign = L'.assign) (h5 : r'.body = L'.body) (h6 : ARel β m.size L'.tmps r'.tmps) :
    Rel P β (m.setIfInBounds l (.loop L')) (World.putObj w (β.blk l) (.loop r')) ∧ Stp β m w β (m.setIfInBounds l (.loop L')) (World.putObj w (β.blk l) (.loop r')) :=
  hR.upd (by rw [h]; rfl) (fun c h' => by rw [h] at h'; cases h') ⟨r', rfl, h1, h2, h3, h4, h5, h6⟩

theorem AOp.yield {P : Program} {o : Oper} {c : Call} {f : Operand} {t : Array Value} {m m' : Mem} {v : Value} {l : Nat} (hc : o.op = .call c) (hf : c.callee = .value f) (ho : okOps P o.op = true)
    (hv : ev t f = .func (.yield l) #[] #[]) (h : ARound P l (c.args.map (ev t)) m v m') : AOp P o t m v m' := by
  refine ⟨h.loops, fun b β w ts ds hR hT => ?_⟩
  have hops := ops_rel hR hT ho
  have hfv : VRel β m.size (ev t f) (ev ts f) := hops f (by rw [hc]; simp [Op.operands, Call.operands, hf])
  have hA : ARel β m.size (c.args.map (ev t)) (c.args.map (ev ts)) := ARel.of_map _ (fun x hx => hops x (by rw [hc]; simp [Op.operands, Call.operands, hf, hx]))
  obtain ⟨L, t2, m2, L2, e, t4, m4, L4, hl, hsz, h3, hl2, hst, h6, hl4, rfl, rfl⟩ := h
  rw [hv] at hfv
  cases hfs : ev ts f with
  | func g' a' cap' =>
    rw [hfs] at hfv
    cases hfv with
    | yield _ hlt =>
      obtain ⟨r, hr, e1, e2, e3, e4, e5, e6⟩ := hR.loop l L hl
      have hrun : (execOp (ev ts) o).run P w = .ok (.round (β.blk l) r.fn (setParams r.tmps r.params (c.args.map (ev ts))) r.assign r.body) w := by
        obtain ⟨dst, op, ty, pos, after, guard⟩ := o
        simp only at hc; subst hc
        have hg : (Instr.getLoop (β.blk l)).run P w = .ok r w := by simp [Instr.getLoop, getObj, bind, Sem.bind, pure, Sem.run, hr]
        have hsz' : (c.args.map (ev ts)).size = r.params.size := by rw [e3, ← hsz]; exact hA.1.symm
        have hsz2 : ¬ ((#[] ++ c.args.map (ev ts)).size ≠ r.params.size) := by simpa using hsz'
        simp only [execOp, resolve, hf, hfs, Deferred.ofValue, Sem.run_bind, Sem.run_pure, Result.andThen_ok, invoke, Instr.yield, hg]
        rw [if_neg hsz2]
        simp [setParams]
      refine OR.round (by rw [hc]; rfl) hrun ?_
      refine runs_round ?_
      have hTT : ARel β m.size (setParams L.tmps L.params (c.args.map (ev t))) (setParams r.tmps r.params (c.args.map (ev ts))) := by
        rw [e3]; exact setParams_rel e6 hA
      have hin : InRound ⟨r.fn, .normal, some (β.blk l)⟩ β m := fun l' hl' => by cases hl'; exact ⟨l, isLoop_of hl, rfl⟩
      rw [e4]
      refine (h3.2 ⟨r.fn, .normal, some (β.blk l)⟩ β w _ [] w.heap.size hR hTT ⟨[], rfl, by simp, by simp⟩ (Nat.le_refl _) (fun _ => rfl) hin).mono ?_
      rintro e0 ts2 ds2 w2 ⟨rfl, hM2, hd2, β2, hT2, hR2, hS2⟩
      refine ⟨rfl, hd2 (by simp), ?_⟩
      have hb2 : β2.blk l = β.blk l := hS2.agree.blk l hlt
      obtain ⟨r2, hr2, f1, f2, f3, f4, f5, f6⟩ := hR2.loop l L2 hl2
      refine ⟨r2, by rw [← hb2]; exact hr2, by rw [f1]; exact hst, ?_⟩
      obtain ⟨hR3, hS3⟩ := hR2.setLoop (L' := { L2 with state := .busy }) (r' := { r2 with state := .busy }) hl2 rfl f2 f3 f4 f5 f6
      rw [hb2] at hR3 hS3
      have hlt2 : l < m2.size := Mem.lt_of_live (by rw [hl2]; rfl)
      have hin3 : InRound ⟨r.fn, .normal, some (β.blk l)⟩ β2 (m2.setIfInBounds l (.loop { L2 with state := .busy })) := fun l' hl' => by
        cases hl'
        refine ⟨l, ?_, hb2⟩
        rw [get_set, if_pos ⟨rfl, hlt2⟩]; rfl
      rw [e5]
      refine (h6.2 ⟨r.fn, .normal, some (β.blk l)⟩ β2 _ ts2 [] w2.heap.size hR3 (by simpa using hT2) ⟨[], rfl, by simp, by simp⟩ (by simp [World.putObj]) (fun _ => rfl) hin3).mono ?_
      rintro e9 ts4 ds4 w4 ⟨rfl, hM4, hd4, β4, hT4, hR4, hS4⟩
      refine ⟨hd4 (by simp), ?_⟩
      have hb4 : β4.blk l = β.blk l := by rw [hS4.agree.blk l (by simpa using hlt2)]; exact hb2
      obtain ⟨r4, hr4, g1, g2, g3, g4, g5, g6⟩ := hR4.loop l L4 hl4
      refine ⟨r4, by rw [← hb4]; exact hr4, ?_⟩
      obtain ⟨hR5, hS5⟩ := hR4.setLoop (L' := { L4 with state := if e9.jump.isNone then .ready else .done, pending := e9.jump }) (r' := { r4 with state := if e9.jump.isNone then .ready else .done, pending := e9.jump }) hl4 rfl rfl g3 g4 g5 g6
      rw [hb4] at hR5 hS5
      exact ⟨β4, .bool _, hR5, hS2.trans (hS3.trans (hS4.trans hS5))⟩
  | _ => rw [hfs] at hfv; cases hfv

theorem ACd.rangeFunc {P : Program} {f : Operand} {params : Array Tmp} {as bd : Code} {t : Array Value} {m m2 : Mem} {g : FuncId} {a cap : Array Value} {v : Value} {L : ALoop} {e : AExit}
    (ho : okOper P.globals.size f = true) (hv : ev t f = .func (.func g) a cap) (hcall : callable P g = true)
    (h : ACalls P g (a ++ #[.func (.yield m.size) #[] #[]] ++ cap) (m.push (.loop { state := .ready, pending := none, tmps := t, params, assign := as, body := bd })) v m2)
    (hL : Mem.get m2 m.size = .loop L) (hs : L.state ≠ .busy) (hp : L.pending = e.jump) : ACd P (.rangeFunc f params as bd) t m e t (m2.setIfInBounds m.size .dead) := by
  have hloops : LoopsIn m (m2.setIfInBounds m.size .dead) := by
    intro i hi
    have hlt : i < m.size := by
      refine Mem.lt_of_live ?_
      cases hh : Mem.get m i <;> rw [hh] at hi <;> first | rfl | cases hi
    rw [get_set, if_neg (by omega)]
    exact h.1 i (LoopsIn.push m _ i hi)
  refine ⟨hloops, fun b β w ts ds n hR hT hM hn hd hI => ?_⟩
  have hfv := ev_rel hR hT ho
  rw [hv] at hfv
  cases hfs : ev ts f with
  | func g' a' cap' =>
    rw [hfs] at hfv
    cases hfv with
    | func _ _ _ _ _ h1 h2 h3 h4 =>
      obtain ⟨D, mark, w1, hrun, hcase⟩ := run_enterLoop (P := P) (w := w) b.fn ts params as bd b.roundOf (fun l hl => by
        obtain ⟨x, hx1, hx2⟩ := hI l hl
        cases hh : Mem.get m x with
        | loop L' => obtain ⟨r, hr, _⟩ := hR.loop x L' hh; exact ⟨r, by rw [← hx2]; exact hr⟩
        | _ => rw [hh] at hx1; cases hx1)
      -- the world with the marks' block
      have hw1 : Rel P β m w1 ∧ Stp β m w β m w1 ∧ MarksFrom n (mark ++ ds) w1 ∧ (b.roundOf ≠ none → mark ++ ds = []) := by
        rcases hcase with ⟨hnone, rfl, rfl⟩ | ⟨hsome, rfl, rfl⟩
        · refine ⟨⟨hR.gsz, hR.glob, fun i hi => ?_, hR.inj⟩, ⟨Nat.le_refl _, by simp, .refl _ _, fun i hi => .inr ⟨i, hi, rfl⟩, fun i hi _ => by rw [Array.getElem?_push_lt hi, Array.getElem?_eq_getElem hi], rfl, rfl, rfl⟩, ?_, fun h => absurd hnone h⟩
          · obtain ⟨O, o1, o2⟩ := hR.obj i hi
            refine ⟨O, ?_, o2⟩
            have hlt := (Array.getElem?_eq_some_iff.1 o1).1
            rw [Array.getElem?_push_lt hlt, ← o1, Array.getElem?_eq_getElem hlt]
          · obtain ⟨rs, q1, q2, q3⟩ := hM
            refine ⟨w.heap.size :: rs, by rw [q1]; rfl, List.nodup_cons.2 ⟨fun hm => ?_, q2⟩, fun r hr => ?_⟩
            · have := (Array.getElem?_eq_some_iff.1 (q3 _ hm).2).1; omega
            · rcases List.mem_cons.1 hr with rfl | hr
              · exact ⟨hn, by simp⟩
              · refine ⟨(q3 r hr).1, ?_⟩
                have := (q3 r hr).2
                have hlt := (Array.getElem?_eq_some_iff.1 this).1
                rw [Array.getElem?_push_lt hlt, ← this, Array.getElem?_eq_getElem hlt]
        · exact ⟨hR, .refl _ _ _, by simpa using hM, fun h => by simpa using hd h⟩
      obtain ⟨hR1, hS1, hM1, hd1⟩ := hw1
      -- the world with the loop's record
      obtain ⟨hR2, hS2⟩ := hR1.push (o := .loop { state := .ready, pending := none, tmps := t, params, assign := as, body := bd }) (O := .loop { state := .ready, pending := none, fn := b.fn, tmps := ts, params, assign := as, body := bd, defers := D }) (cap := 0)
        ⟨_, rfl, rfl, rfl, rfl, rfl, rfl, hT.mono (Beta.ext_agree _ _ _ _) (by omega)⟩
      have hag := Beta.ext_agree β m.size w1.heap.size 0
      have hargs : ARel (β.ext m.size w1.heap.size 0) (m.push (.loop { state := .ready, pending := none, tmps := t, params, assign := as, body := bd })).size (a ++ #[.func (.yield m.size) #[] #[]] ++ cap) (a' ++ #[.func (.yield w1.heap.size) #[] #[]] ++ cap') := by
        have q1 : ARel β m.size a a' := ⟨h1, h2⟩
        have q2 : ARel β m.size cap cap' := ⟨h3, h4⟩
        have hle : m.size ≤ (m.push (.loop { state := .ready, pending := none, tmps := t, params, assign := as, body := bd })).size := by simp
        have one : ARel (β.ext m.size w1.heap.size 0) (m.push (.loop { state := .ready, pending := none, tmps := t, params, assign := as, body := bd })).size #[.func (.yield m.size) #[] #[]] #[.func (.yield w1.heap.size) #[] #[]] := by
          refine ⟨rfl, fun i x x' ex ex' => ?_⟩
          cases i with
          | zero =>
            simp at ex ex'; subst ex; subst ex'
            have := VRel.yield (β := β.ext m.size w1.heap.size 0) (N := (m.push (.loop { state := .ready, pending := none, tmps := t, params, assign := as, body := bd })).size) m.size (by simp)
            simpa [Beta.ext] using this
          | succ i => simp at ex
        exact ((q1.mono hag hle).append one).append (q2.mono hag hle)
      refine CR.rangeFunc (g := g) (args := a' ++ #[.func (.yield w1.heap.size) #[] #[]] ++ cap') (w2 := World.pushObj w1 (.loop { state := .ready, pending := none, fn := b.fn, tmps := ts, params, assign := as, body := bd, defers := D })) hrun ?_ ?_
      · simp only [callYield, hfs, Deferred.ofValue, Sem.run_bind, Sem.run_pure, Result.andThen_ok, invoke]
        exact run_callFunc hcall
      · refine (Runs.of_calls (h.2 _ _ _ hR2 hargs)).mono ?_
        rintro v' w3 ⟨β3, hv3, hR3, hS3⟩
        obtain ⟨r, hr, e1, e2, _⟩ := hR3.loop m.size L hL
        have hb3 : β3.blk m.size = w1.heap.size := by
          rw [hS3.agree.blk m.size (by simp)]; simp [Beta.ext]
        rw [hb3] at hr
        refine ⟨r, e, hr, by rw [e1]; exact hs, by rw [e2]; exact hp, rfl, ?_⟩
        obtain ⟨hR4, hS4⟩ := hR3.upd (b := m.size) (by rw [hL]; rfl) (fun c h' => by rw [hL] at h'; cases h') (o := .dead) (O := .loop { r with state := .exhausted }) trivial
        rw [hb3] at hR4 hS4
        have hSS : Stp β m w1 β3 (m2.setIfInBounds m.size .dead) (World.putObj w3 w1.heap.size (.loop { r with state := .exhausted })) := hS2.trans (hS3.trans hS4)
        exact ⟨hM1.stp hR1 hSS, hd1, β3, hT.mono hSS.agree hSS.msz, hR4, hS1.trans hSS⟩
  | _ => rw [hfs] at hfv; cases hfv

end Go.AM

/-! ### A17 -/
namespace Go.AM
set_option linter.unusedVariables false
set_option linter.unusedSimpArgs false

inductive AStep (P : Program) (op : Op) (ρ : Operand → Value) (m : Mem) (v : Value) (m' : Mem) : Prop
  | pure (h : aPure P ρ op = some v) (hm : m' = m)
  | read (h : aRead P m ρ op = some v) (hm : m' = m)
  | eff (h : aEff P m ρ op = some (v, m'))
  | call (c : Call) (f : Operand) (g : FuncId) (a cap : Array Value) (hc : op = .call c) (hf : c.callee = .value f) (hv : ρ f = .func (.func g) a cap) (hk : callable P g = true)
      (h : ACalls P g (a ++ c.args.map ρ ++ cap) m v m')
  | yield (c : Call) (f : Operand) (l : Nat) (hc : op = .call c) (hf : c.callee = .value f) (hv : ρ f = .func (.yield l) #[] #[]) (h : ARound P l (c.args.map ρ) m v m')

theorem noDefer_pure {P : Program} {ρ : Operand → Value} {op : Op} {v : Value} (h : aPure P ρ op = some v) : noDefer op = true := by
  cases op <;> first | rfl | (simp [aPure] at h)
theorem noDefer_read {P : Program} {m : Mem} {ρ : Operand → Value} {op : Op} {v : Value} (h : aRead P m ρ op = some v) : noDefer op = true := by
  cases op <;> first | rfl | (simp [aRead] at h)
theorem noDefer_eff {P : Program} {m : Mem} {ρ : Operand → Value} {op : Op} {v : Value × Mem} (h : aEff P m ρ op = some v) : noDefer op = true := by
  cases op <;> first | rfl | (simp [aEff] at h)

theorem AStep.aop {P : Program} {o : Oper} {t : Array Value} {m m' : Mem} {v : Value} (ho : okOps P o.op = true) (h : AStep P o.op (ev t) m v m') : AOp P o t m v m' := by
  cases h with
  | pure h hm => subst hm; exact AOp.pure (noDefer_pure h) ho h
  | read h hm => subst hm; exact AOp.read (noDefer_read h) ho h
  | eff h => exact AOp.eff (noDefer_eff h) ho h
  | call c f g a cap hc hf hv hk h => exact AOp.call hc hf ho hv hk h
  | yield c f l hc hf hv h => exact AOp.yield hc hf ho hv h

theorem map_congr_ops {ρ ρ' : Operand → Value} (l : Array Operand) (h : ∀ x ∈ l, ρ x = ρ' x) : l.map ρ = l.map ρ' := Array.map_congr_left h
theorem map_congr_list {ρ ρ' : Operand → Value} (l : List Operand) (h : ∀ x ∈ l, ρ x = ρ' x) : l.map ρ = l.map ρ' := List.map_congr_left h
theorem map_congr_parts {ρ ρ' : Operand → Value} (l : List (Nat × Operand)) (h : ∀ p ∈ l, ρ p.2 = ρ' p.2) : (l.map fun p => (p.1, ρ p.2)) = (l.map fun p => (p.1, ρ' p.2)) :=
  List.map_congr_left (fun p hp => by rw [h p hp])
theorem map_congr_opt {ρ ρ' : Operand → Value} (l : Option Operand) (h : ∀ x, l = some x → ρ x = ρ' x) : l.map ρ = l.map ρ' := by
  cases l with
  | none => rfl
  | some x => simp [h x rfl]

theorem aPure_congr {P : Program} {ρ ρ' : Operand → Value} {op : Op} (h : ∀ x ∈ op.operands, ρ x = ρ' x) : aPure P ρ op = aPure P ρ' op := by
  cases op with
  | move x => simp only [aPure]; rw [h x (by simp [Op.operands])]
  | assign x => simp only [aPure]; rw [h x (by simp [Op.operands])]
  | pick c a b => simp only [aPure]; rw [h c (by simp [Op.operands]), h a (by simp [Op.operands]), h b (by simp [Op.operands])]
  | nilCheck x => simp only [aPure]; rw [h x (by simp [Op.operands])]
  | binOp op t x y yt => simp only [aPure]; rw [h x (by simp [Op.operands]), h y (by simp [Op.operands])]
  | unOp op t x => simp only [aPure]; rw [h x (by simp [Op.operands])]
  | convert s d x => simp only [aPure]; rw [h x (by simp [Op.operands])]
  | makeInterface t x => simp only [aPure]; rw [h x (by simp [Op.operands])]
  | makeFunc fn a c =>
    cases fn with
    | func f =>
      simp only [aPure]
      rw [map_congr_ops a (fun x hx => h x (by simp [Op.operands, hx])), map_congr_ops c (fun x hx => h x (by simp [Op.operands, hx]))]
    | _ => rfl
  | fieldAddr s x f => simp only [aPure]; rw [h x (by simp [Op.operands])]
  | field t x f => simp only [aPure]; rw [h x (by simp [Op.operands])]
  | indexAddr t x i => simp only [aPure]; rw [h x (by simp [Op.operands]), h i (by simp [Op.operands])]
  | index t x i => simp only [aPure]; rw [h x (by simp [Op.operands]), h i (by simp [Op.operands])]
  | extract x i => simp only [aPure]; rw [h x (by simp [Op.operands])]
  | build t ps =>
    simp only [aPure]
    rw [map_congr_parts ps.toList (fun p hp => h p.2 (by simp only [Op.operands, List.mem_toArray, List.mem_map]; exact ⟨p, hp, rfl⟩))]
  | call c =>
    obtain ⟨callee, ⟨args⟩, ⟨ts⟩⟩ := c
    have ha : ∀ f, callee ≠ .value f → ∀ x ∈ args, ρ x = ρ' x := by
      intro f _ x hx
      exact h x (by cases callee <;> simp [Op.operands, Call.operands, hx])
    cases callee with
    | builtin b =>
      have hb : ∀ x ∈ args, ρ x = ρ' x := ha (.tmp 0) (by simp)
      cases b with
      | len =>
        rcases args with _ | ⟨x, _ | ⟨y, l⟩⟩ <;> rcases ts with _ | ⟨t, _ | ⟨u, r⟩⟩ <;> first
          | rfl
          | (simp only [aPure]; rw [hb x (by simp)])
      | max =>
        rcases args with _ | ⟨x, l⟩ <;> first
          | rfl
          | (simp only [aPure]; rw [hb x (by simp), map_congr_list l (fun y hy => hb y (by simp [hy]))])
      | min =>
        rcases args with _ | ⟨x, l⟩ <;> first
          | rfl
          | (simp only [aPure]; rw [hb x (by simp), map_congr_list l (fun y hy => hb y (by simp [hy]))])
      | _ => rfl
    | _ => rfl
  | _ => rfl

theorem aRead_congr {P : Program} {m : Mem} {ρ ρ' : Operand → Value} {op : Op} (h : ∀ x ∈ op.operands, ρ x = ρ' x) : aRead P m ρ op = aRead P m ρ' op := by
  cases op with
  | load t a => simp only [aRead]; rw [h a (by simp [Op.operands])]
  | slice t x lo hi mx =>
    simp only [aRead]
    rw [h x (by simp [Op.operands]), map_congr_opt lo (fun y hy => h y (by simp [Op.operands, hy])), map_congr_opt hi (fun y hy => h y (by simp [Op.operands, hy])), map_congr_opt mx (fun y hy => h y (by simp [Op.operands, hy]))]
  | lookup t x k ok => simp only [aRead]; rw [h x (by simp [Op.operands]), h k (by simp [Op.operands])]
  | call c =>
    obtain ⟨callee, ⟨args⟩, ⟨ts⟩⟩ := c
    cases callee with
    | builtin b =>
      have hb : ∀ x ∈ args, ρ x = ρ' x := fun x hx => h x (by simp [Op.operands, Call.operands, hx])
      cases b with
      | len =>
        rcases args with _ | ⟨x, _ | ⟨y, l⟩⟩ <;> rcases ts with _ | ⟨t, _ | ⟨u, r⟩⟩ <;> first
          | rfl
          | (simp only [aRead]; rw [hb x (by simp)])
      | _ => rfl
    | _ => rfl
  | _ => rfl

theorem aEff_congr {P : Program} {m : Mem} {ρ ρ' : Operand → Value} {op : Op} (h : ∀ x ∈ op.operands, ρ x = ρ' x) : aEff P m ρ op = aEff P m ρ' op := by
  cases op with
  | box e x => simp only [aEff]; rw [h x (by simp [Op.operands])]
  | buildSlice t len ps =>
    simp only [aEff]
    rw [map_congr_parts ps.toList (fun p hp => h p.2 (by simp only [Op.operands, List.mem_toArray, List.mem_map]; exact ⟨p, hp, rfl⟩))]
  | makeSlice t l c => simp only [aEff]; rw [h l (by simp [Op.operands]), h c (by simp [Op.operands])]
  | makeMap t r => simp only [aEff]; rw [map_congr_opt r (fun y hy => h y (by simp [Op.operands, hy]))]
  | store t a v => simp only [aEff]; rw [h a (by simp [Op.operands]), h v (by simp [Op.operands])]
  | mapUpdate t x k v => simp only [aEff]; rw [h x (by simp [Op.operands]), h k (by simp [Op.operands]), h v (by simp [Op.operands])]
  | insert t x k v => simp only [aEff]; rw [h x (by simp [Op.operands]), h k (by simp [Op.operands]), h v (by simp [Op.operands])]
  | call c =>
    obtain ⟨callee, ⟨args⟩, ⟨ts⟩⟩ := c
    cases callee with
    | builtin b =>
      have hb : ∀ x ∈ args, ρ x = ρ' x := fun x hx => h x (by simp [Op.operands, Call.operands, hx])
      cases b with
      | append =>
        rcases args with _ | ⟨x, _ | ⟨y, _ | ⟨z, l⟩⟩⟩ <;> rcases ts with _ | ⟨t, _ | ⟨u, _ | ⟨s, r⟩⟩⟩ <;> first
          | rfl
          | (simp only [aEff]; rw [hb x (by simp), hb y (by simp)])
      | copy =>
        rcases args with _ | ⟨x, _ | ⟨y, _ | ⟨z, l⟩⟩⟩ <;> rcases ts with _ | ⟨t, _ | ⟨u, _ | ⟨s, r⟩⟩⟩ <;> first
          | rfl
          | (simp only [aEff]; rw [hb x (by simp), hb y (by simp)])
      | clear =>
        rcases args with _ | ⟨x, _ | ⟨y, l⟩⟩ <;> rcases ts with _ | ⟨t, _ | ⟨u, r⟩⟩ <;> first
          | rfl
          | (simp only [aEff]; rw [hb x (by simp)])
      | cap =>
        rcases args with _ | ⟨x, _ | ⟨y, l⟩⟩ <;> rcases ts with _ | ⟨t, _ | ⟨u, r⟩⟩ <;> first
          | rfl
          | (simp only [aEff]; rw [hb x (by simp)])
      | _ => rfl
    | _ => rfl
  | _ => rfl

theorem AStep.congr {P : Program} {op : Op} {ρ ρ' : Operand → Value} {m m' : Mem} {v : Value} (h : ∀ x ∈ op.operands, ρ x = ρ' x) (hs : AStep P op ρ m v m') : AStep P op ρ' m v m' := by
  cases hs with
  | pure h1 hm => exact .pure (by rw [← aPure_congr h]; exact h1) hm
  | read h1 hm => exact .read (by rw [← aRead_congr h]; exact h1) hm
  | eff h1 => exact .eff (by rw [← aEff_congr h]; exact h1)
  | call c f g a cap hc hf hv hk h1 =>
    subst hc
    have e1 : c.args.map ρ = c.args.map ρ' := map_congr_ops _ (fun x hx => h x (by simp [Op.operands, Call.operands, hf, hx]))
    exact .call c f g a cap rfl hf (by rw [← h f (by simp [Op.operands, Call.operands, hf])]; exact hv) hk (by rw [← e1]; exact h1)
  | yield c f l hc hf hv h1 =>
    subst hc
    have e1 : c.args.map ρ = c.args.map ρ' := map_congr_ops _ (fun x hx => h x (by simp [Op.operands, Call.operands, hf, hx]))
    exact .yield c f l rfl hf (by rw [← h f (by simp [Op.operands, Call.operands, hf])]; exact hv) (by rw [← e1]; exact h1)

end Go.AM

/-! ### A18 -/
namespace Go.AM
set_option linter.unusedVariables false
set_option linter.unusedSimpArgs false

def waitsOf (W : Array Nat) (o : Oper) : Nat := o.after.foldl (fun s e => if Region.binds .any e then s ||| 2 ^ e.on ||| W.getD e.on 0 else s) 0
def okW (ops : Array Oper) (W : Array Nat) : Bool :=
  (List.range ops.size).all fun i => match ops[i]? with
    | some o => W.getD i 0 == waitsOf W o && o.after.all (fun e => !Region.binds .any e || decide (e.on < i))
    | none => false

def tmpsOf (xs : List Operand) : List Tmp := xs.filterMap fun | .tmp t => some t | _ => none
def slotsOf (ops : Array Oper) (o : Oper) : List Tmp :=
  tmpsOf o.op.operands.toList ++ (match o.guard with
    | some (g, _) => ((ops[g]?).bind (·.dst)).toList
    | none => [])
def dstOf (ops : Array Oper) (i : Nat) : Option Tmp := (ops[i]?).bind (·.dst)

def okSlots (ops : Array Oper) (W : Array Nat) : Bool :=
  (List.range ops.size).all fun i => (List.range ops.size).all fun j =>
    i == j || (match ops[i]?, dstOf ops j with
      | some o, some s => (!(slotsOf ops o).contains s && decide (o.dst ≠ some s)) || (if j < i then (W.getD i 0).testBit j else (W.getD j 0).testBit i)
      | _, _ => true)

theorem foldl_testBit (f : Edge → Nat) (p : Edge → Bool) : ∀ (l : List Edge) (s k : Nat), (l.foldl (fun s e => if p e then s ||| f e else s) s).testBit k = true → s.testBit k = true ∨ ∃ e ∈ l, p e = true ∧ (f e).testBit k = true
  | [], s, k, h => .inl h
  | e :: l, s, k, h => by
    rw [List.foldl_cons] at h
    rcases foldl_testBit f p l _ k h with h1 | ⟨e', he', h2⟩
    · split at h1
      · rename_i hp
        rw [Nat.testBit_or, Bool.or_eq_true] at h1
        rcases h1 with h1 | h1
        · exact .inl h1
        · exact .inr ⟨e, by simp, hp, h1⟩
      · exact .inl h1
    · exact .inr ⟨e', by simp [he'], h2⟩

theorem waits_spec {ops : Array Oper} {W : Array Nat} (h : okW ops W = true) {i : Nat} {o : Oper} (ho : ops[i]? = some o) :
    (∀ k, (W.getD i 0).testBit k = true → ∃ e ∈ o.after, Region.binds .any e = true ∧ (k = e.on ∨ (W.getD e.on 0).testBit k = true)) ∧ (∀ e ∈ o.after, Region.binds .any e = true → e.on < i) := by
  have hi : i < ops.size := (Array.getElem?_eq_some_iff.1 ho).1
  unfold okW at h
  rw [List.all_eq_true] at h
  have := h i (by simpa using hi)
  rw [ho] at this
  simp only [Bool.and_eq_true, beq_iff_eq] at this
  obtain ⟨h1, h2⟩ := this
  constructor
  · intro k hk
    rw [h1] at hk
    unfold waitsOf at hk
    rw [← Array.foldl_toList] at hk
    have e1 : (fun (s : Nat) (e : Edge) => if Region.binds .any e then s ||| 2 ^ e.on ||| W.getD e.on 0 else s) = (fun s e => if Region.binds .any e then s ||| (2 ^ e.on ||| W.getD e.on 0) else s) := by
      funext s e; rw [Nat.or_assoc]
    rw [e1] at hk
    rcases foldl_testBit _ _ _ _ _ hk with h3 | ⟨e, he, hb, h3⟩
    · simp at h3
    · refine ⟨e, by simpa using he, hb, ?_⟩
      rw [Nat.testBit_or, Bool.or_eq_true] at h3
      rcases h3 with h3 | h3
      · left
        rw [Nat.testBit_two_pow] at h3
        exact (show e.on = k by simpa using h3).symm
      · exact .inr h3
  · intro e he hb
    rw [Array.all_eq_true] at h2
    obtain ⟨j, hj, rfl⟩ := Array.mem_iff_getElem.1 he
    have := h2 j hj
    rw [hb] at this
    simpa using this

theorem slots_spec {ops : Array Oper} {W : Array Nat} (h : okSlots ops W = true) {i j : Nat} {o : Oper} {s : Tmp} (ho : ops[i]? = some o) (hj : dstOf ops j = some s) (hne : i ≠ j) (hs : s ∈ slotsOf ops o ∨ o.dst = some s) :
    (j < i ∧ (W.getD i 0).testBit j = true) ∨ (i < j ∧ (W.getD j 0).testBit i = true) := by
  have hi : i < ops.size := (Array.getElem?_eq_some_iff.1 ho).1
  have hjl : j < ops.size := by
    unfold dstOf at hj
    cases e : ops[j]? with
    | none => rw [e] at hj; cases hj
    | some o' => exact (Array.getElem?_eq_some_iff.1 e).1
  unfold okSlots at h
  rw [List.all_eq_true] at h
  have h1 := h i (by simpa using hi)
  rw [List.all_eq_true] at h1
  have h2 := h1 j (by simpa using hjl)
  rw [ho, hj] at h2
  have h3 : (i == j) = false := by simpa using hne
  rw [h3, Bool.false_or] at h2
  simp only [Bool.or_eq_true, Bool.and_eq_true, Bool.not_eq_true', decide_eq_true_eq] at h2
  rcases h2 with ⟨h4, h5⟩ | h4
  · rcases hs with hs | hs
    · rw [← List.contains_iff_mem] at hs; rw [hs] at h4; cases h4
    · exact absurd hs h5
  · split at h4
    · rename_i hlt; exact .inl ⟨hlt, h4⟩
    · rename_i hlt; exact .inr ⟨by omega, h4⟩

/-! ### What the temporaries hold, when some operations have been carried out -/
def Tof (ops : Array Oper) (v : Nat → Value) (t0 : Array Value) (D : Nat → Bool) : Nat → Array Value
  | 0 => t0
  | i + 1 => if D i then put (Tof ops v t0 D i) (dstOf ops i) (v i) else Tof ops v t0 D i

theorem put_get (t : Array Value) (d : Option Tmp) (v : Value) (s : Tmp) (h : d ≠ some s) : (put t d v)[s]? = t[s]? := by
  cases d with
  | none => rfl
  | some d =>
    have : d ≠ s := fun e => h (by rw [e])
    simp only [put]
    rw [Array.getElem?_setIfInBounds_ne this]

theorem Tof_above (ops : Array Oper) (v : Nat → Value) (t0 : Array Value) (D : Nat → Bool) (s : Tmp) (i : Nat) : ∀ n, i ≤ n → (∀ j, i ≤ j → j < n → D j = true → dstOf ops j ≠ some s) → (Tof ops v t0 D n)[s]? = (Tof ops v t0 D i)[s]?
  | 0, h, _ => by have : i = 0 := by omega
                  rw [this]
  | n + 1, h, hs => by
    by_cases hn : i = n + 1
    · rw [hn]
    · have ih := Tof_above ops v t0 D s i n (by omega) (fun j h1 h2 h3 => hs j h1 (by omega) h3)
      simp only [Tof]
      split
      · rename_i hD
        rw [put_get _ _ _ _ (hs n (by omega) (by omega) hD), ih]
      · exact ih

theorem put_get_congr {t t' : Array Value} {d : Option Tmp} {v : Value} {s : Tmp} (hsz : t.size = t'.size) (h : t[s]? = t'[s]?) : (put t d v)[s]? = (put t' d v)[s]? := by
  cases d with
  | none => exact h
  | some d =>
    simp only [put]
    rw [Array.getElem?_setIfInBounds, Array.getElem?_setIfInBounds, hsz, h]

theorem Tof_size (ops : Array Oper) (v : Nat → Value) (t0 : Array Value) (D : Nat → Bool) : ∀ n, (Tof ops v t0 D n).size = t0.size
  | 0 => rfl
  | n + 1 => by
    simp only [Tof]
    split
    · have := Tof_size ops v t0 D n
      cases h : dstOf ops n with
      | none => exact this
      | some d => simp only [put, Array.size_setIfInBounds]; exact this
    · exact Tof_size ops v t0 D n

theorem Tof_below (ops : Array Oper) (v : Nat → Value) (t0 : Array Value) (D : Nat → Bool) (s : Tmp) : ∀ i, (∀ j, j < i → dstOf ops j = some s → D j = true) → (Tof ops v t0 D i)[s]? = (Tof ops v t0 (fun _ => true) i)[s]?
  | 0, _ => rfl
  | i + 1, h => by
    have ih := Tof_below ops v t0 D s i (fun j h1 h2 => h j (by omega) h2)
    simp only [Tof, if_true]
    split
    · exact put_get_congr (by rw [Tof_size, Tof_size]) ih
    · rename_i hD
      by_cases hd : dstOf ops i = some s
      · exact absurd (h i (by omega) hd) hD
      · rw [put_get _ _ _ _ hd, ih]

theorem put_comm (t : Array Value) (a b : Option Tmp) (x y : Value) (h : ∀ s, a = some s → b ≠ some s) : put (put t a x) b y = put (put t b y) a x := by
  cases a with
  | none => rfl
  | some a => cases b with
    | none => rfl
    | some b =>
      have : a ≠ b := fun e => h a rfl (by rw [e])
      simp only [put]
      rw [Array.setIfInBounds_comm _ _ this]

theorem Tof_add (ops : Array Oper) (v : Nat → Value) (t0 : Array Value) (D : Nat → Bool) (i : Nat) (hi : D i = false) : ∀ n, i < n → (∀ j, i < j → j < n → D j = true → ∀ s, dstOf ops i = some s → dstOf ops j ≠ some s) →
    Tof ops v t0 (fun k => if k = i then true else D k) n = put (Tof ops v t0 D n) (dstOf ops i) (v i)
  | 0, h, _ => by omega
  | n + 1, h, hs => by
    have low : ∀ k, k ≤ i → Tof ops v t0 (fun k => if k = i then true else D k) k = Tof ops v t0 D k := by
      intro k
      induction k with
      | zero => intro _; rfl
      | succ k ih =>
        intro hk
        simp only [Tof]
        have hk' : (if k = i then true else D k) = D k := if_neg (by omega)
        simp only [ih (by omega), hk']
    by_cases hn : i = n
    · subst hn
      simp only [Tof, if_true, hi, Bool.false_eq_true, if_false]
      rw [low i (Nat.le_refl _)]
    · have ih := Tof_add ops v t0 D i hi n (by omega) (fun j h1 h2 h3 => hs j h1 (by omega) h3)
      simp only [Tof]
      have hn' : (if n = i then true else D n) = D n := if_neg (fun e => hn e.symm)
      simp only [ih, hn']
      split
      · rename_i hD
        exact put_comm _ _ _ _ _ (fun s h1 => hs n (by omega) (by omega) hD s h1)
      · rfl

/-! ### How far the effects have come -/
def stg (E D : Nat → Bool) : Nat → Nat
  | 0 => 0
  | i + 1 => if D i && E i then i + 1 else stg E D i

theorem stg_le (E D : Nat → Bool) : ∀ n, stg E D n ≤ n
  | 0 => Nat.le_refl _
  | n + 1 => by
    simp only [stg]
    split
    · exact Nat.le_refl _
    · have := stg_le E D n; omega
theorem stg_at (E D : Nat → Bool) : ∀ n, stg E D n = 0 ∨ (D (stg E D n - 1) = true ∧ E (stg E D n - 1) = true)
  | 0 => .inl rfl
  | n + 1 => by
    simp only [stg]
    split
    · rename_i h
      rw [Bool.and_eq_true] at h
      exact .inr (by simpa using h)
    · exact stg_at E D n
theorem stg_gt (E D : Nat → Bool) : ∀ n j, j < n → D j = true → E j = true → j < stg E D n
  | 0, j, h, _, _ => by omega
  | n + 1, j, h, h1, h2 => by
    simp only [stg]
    split
    · omega
    · rename_i hc
      have : j ≠ n := fun e => hc (by rw [← e, h1, h2]; rfl)
      exact stg_gt E D n j (by omega) h1 h2
theorem stg_congr (E D D' : Nat → Bool) : ∀ n, (∀ j, j < n → E j = true → D j = D' j) → stg E D n = stg E D' n
  | 0, _ => rfl
  | n + 1, h => by
    simp only [stg]
    rw [stg_congr E D D' n (fun j hj => h j (by omega))]
    by_cases he : E n = true
    · rw [h n (by omega) he]
    · have : E n = false := by simpa using he
      rw [this, Bool.and_false, Bool.and_false]
theorem stg_above (E D : Nat → Bool) (i : Nat) : ∀ n, i ≤ n → (∀ j, i ≤ j → j < n → E j = true → D j = false) → stg E D n = stg E D i
  | 0, h, _ => by have : i = 0 := by omega
                  rw [this]
  | n + 1, h, hs => by
    by_cases hn : i = n + 1
    · rw [hn]
    · simp only [stg]
      rw [stg_above E D i n (by omega) (fun j h1 h2 h3 => hs j h1 (by omega) h3)]
      split
      · rename_i hc
        rw [Bool.and_eq_true] at hc
        have := hs n (by omega) (by omega) hc.2
        rw [this] at hc; cases hc.1
      · rfl

/-! ### A run in the text's order that stands for all -/
/-- A read that no effect disturbs: it reads the same at every place where it may come. -/
def StageOk (n : Nat) (E : Nat → Bool) (W : Array Nat) (i k : Nat) : Prop :=
  k ≤ n ∧ (k = 0 ∨ E (k - 1) = true) ∧ (∀ j, j < n → E j = true → (W.getD i 0).testBit j = true → j < k) ∧ (∀ j, j < n → E j = true → (W.getD j 0).testBit i = true → k ≤ j)

structure Canon (P : Program) (ops : Array Oper) (W : Array Nat) (t0 : Array Value) (v : Nat → Value) (mem : Nat → Mem) (E : Nat → Bool) : Prop where
  okw : okW ops W = true
  oks : okSlots ops W = true
  chain : ∀ i j, i < j → j < ops.size → E i = true → E j = true → (W.getD j 0).testBit i = true
  step : ∀ i o, ops[i]? = some o → (awanted ops (Tof ops v t0 (fun _ => true) i) o = true → okOps P o.op = true) ∧
    ((awanted ops (Tof ops v t0 (fun _ => true) i) o = false ∧ v i = Go.undef ∧ E i = false ∧ mem (i + 1) = mem i) ∨
     (awanted ops (Tof ops v t0 (fun _ => true) i) o = true ∧ E i = true ∧ AStep P o.op (ev (Tof ops v t0 (fun _ => true) i)) (mem i) (v i) (mem (i + 1))) ∨
     (awanted ops (Tof ops v t0 (fun _ => true) i) o = true ∧ E i = false ∧ mem (i + 1) = mem i ∧ (aPure P (ev (Tof ops v t0 (fun _ => true) i)) o.op = some (v i) ∨
        ∀ k, StageOk ops.size E W i k → aRead P (mem k) (ev (Tof ops v t0 (fun _ => true) i)) o.op = some (v i))))

theorem Canon.mem_stg {P : Program} {ops : Array Oper} {W : Array Nat} {t0 : Array Value} {v : Nat → Value} {mem : Nat → Mem} {E : Nat → Bool} (h : Canon P ops W t0 v mem E) : ∀ i, i ≤ ops.size → mem i = mem (stg E (fun _ => true) i)
  | 0, _ => rfl
  | i + 1, hi => by
    simp only [stg, Bool.true_and]
    by_cases he : E i = true
    · rw [if_pos he]
    · rw [if_neg he, ← h.mem_stg i (by omega)]
      have hlt : i < ops.size := by omega
      obtain ⟨_, h1⟩ := h.step i ops[i] (Array.getElem?_eq_getElem hlt)
      rcases h1 with ⟨_, _, _, h2⟩ | ⟨_, h2, _⟩ | ⟨_, _, h2, _⟩
      · exact h2
      · exact absurd h2 he
      · exact h2

def Dof (listed : Array Bool) (i : Nat) : Bool := listed.getD i false

theorem ev_slots {t t' : Array Value} {x : Operand} (h : ∀ s, x = .tmp s → t[s]? = t'[s]?) : ev t x = ev t' x := by
  cases x with
  | tmp s => simp only [ev]; rw [Array.getD_eq_getD_getElem?, Array.getD_eq_getD_getElem?, h s rfl]
  | _ => rfl

theorem mem_tmps {x : Operand} {s : Tmp} {op : Op} (h : x ∈ op.operands) (e : x = .tmp s) : s ∈ tmpsOf op.operands.toList := by
  subst e
  unfold tmpsOf
  rw [List.mem_filterMap]
  exact ⟨.tmp s, by simpa using h, rfl⟩

theorem Canon.rows {P : Program} {ops : Array Oper} {W : Array Nat} {t0 : Array Value} {v : Nat → Value} {mem : Nat → Mem} {E : Nat → Bool} (h : Canon P ops W t0 v mem E) :
    ∀ (fuel q : Nat) (listed : Array Bool), listed.size = ops.size → (∀ j, Dof listed j = true → ∀ k, (W.getD j 0).testBit k = true → Dof listed k = true) → (List.range ops.size).countP (fun i => !Dof listed i) ≤ fuel →
      ARow P ops (Region.linearise.go .any ops fuel q listed []) (Tof ops v t0 (Dof listed) ops.size) (mem (stg E (Dof listed) ops.size)) (Tof ops v t0 (fun _ => true) ops.size) (mem ops.size) := by
  -- when all have been carried out
  have final : ∀ (listed : Array Bool), (∀ j, j < ops.size → Dof listed j = true) →
      ARow P ops [] (Tof ops v t0 (Dof listed) ops.size) (mem (stg E (Dof listed) ops.size)) (Tof ops v t0 (fun _ => true) ops.size) (mem ops.size) := by
    intro listed hall
    have e1 : Tof ops v t0 (Dof listed) ops.size = Tof ops v t0 (fun _ => true) ops.size := by
      have : ∀ n, n ≤ ops.size → Tof ops v t0 (Dof listed) n = Tof ops v t0 (fun _ => true) n := by
        intro n
        induction n with
        | zero => intro _; rfl
        | succ n ih => intro hn; simp only [Tof, if_true]; rw [ih (by omega), hall n (by omega)]; rfl
      exact this _ (Nat.le_refl _)
    have e2 : stg E (Dof listed) ops.size = stg E (fun _ => true) ops.size := stg_congr _ _ _ _ (fun j hj _ => hall j hj)
    rw [e1, e2, ← h.mem_stg ops.size (Nat.le_refl _)]
    exact .nil _ _
  intro fuel
  induction fuel with
  | zero =>
    intro q listed hsz hdown hcount
    refine final listed (fun j hj => ?_)
    have : (List.range ops.size).countP (fun i => !Dof listed i) = 0 := by omega
    rw [List.countP_eq_zero] at this
    simpa using this j (by simpa using hj)
  | succ fuel ih =>
    intro q listed hsz hdown hcount
    simp only [Region.linearise.go]
    change ARow P ops (match (Region.ready .any ops listed)[q % (Region.ready .any ops listed).length]? with
      | some i => Region.linearise.go .any ops fuel (q / (Region.ready .any ops listed).length) (listed.setIfInBounds i true) [i]
      | none => [].reverse) _ _ _ _
    cases hi : (Region.ready .any ops listed)[q % (Region.ready .any ops listed).length]? with
    | none =>
      have hnil : Region.ready .any ops listed = [] := by
        cases hr : Region.ready .any ops listed with
        | nil => rfl
        | cons x xs =>
          rw [hr] at hi
          have hlt : q % (x :: xs).length < (x :: xs).length := Nat.mod_lt _ (by simp)
          rw [List.getElem?_eq_getElem hlt] at hi; cases hi
      refine final listed (fun j => ?_)
      induction j using Nat.strongRecOn with
      | _ j ihj =>
        intro hj
        cases hD : Dof listed j with
        | true => rfl
        | false =>
          exfalso
          have ho : ops[j]? = some ops[j] := Array.getElem?_eq_getElem hj
          have hmem : j ∈ Region.ready .any ops listed := by
            unfold Region.ready
            rw [List.mem_filter]
            refine ⟨by simpa using hj, ?_⟩
            have hl : listed.getD j true = false := by
              have : j < listed.size := by omega
              unfold Dof at hD
              rw [Array.getD_eq_getD_getElem?, Array.getElem?_eq_getElem this] at hD ⊢
              simpa using hD
            rw [hl, ho]
            simp only [Bool.not_false, Bool.true_and, Option.map_some, Option.getD_some]
            rw [Array.all_eq_true]
            intro x hx
            cases hb : Region.binds .any (ops[j].after[x]) with
            | false => rfl
            | true =>
              have := (waits_spec h.okw ho).2 _ (Array.getElem_mem hx) hb
              have := ihj _ this (by omega)
              unfold Dof at this
              rw [this]; rfl
          rw [hnil] at hmem; cases hmem
    | some i =>
      simp only []
      rw [linearise_go_acc, List.reverse_singleton, List.singleton_append]
      have hmem := List.mem_of_getElem? hi
      unfold Region.ready at hmem
      rw [List.mem_filter] at hmem
      obtain ⟨hir, hic⟩ := hmem
      have hil : i < ops.size := by simpa using hir
      have ho : ops[i]? = some ops[i] := Array.getElem?_eq_getElem hil
      rw [Bool.and_eq_true, ho] at hic
      obtain ⟨hunl, hafter⟩ := hic
      simp only [Option.map_some, Option.getD_some] at hafter
      have hDi : Dof listed i = false := by
        have : i < listed.size := by omega
        unfold Dof
        rw [Array.getD_eq_getD_getElem?, Array.getElem?_eq_getElem this] at hunl ⊢
        simpa using hunl
      -- what i waits for has been carried out
      have hW : ∀ k, (W.getD i 0).testBit k = true → Dof listed k = true := by
        intro k hk
        obtain ⟨e, he, hb, hke⟩ := (waits_spec h.okw ho).1 k hk
        rw [Array.all_eq_true] at hafter
        obtain ⟨x, hx, rfl⟩ := Array.mem_iff_getElem.1 he
        have hon : Dof listed (ops[i].after[x]).on = true := by
          have := hafter x hx
          rw [hb] at this
          simpa [Dof] using this
        rcases hke with rfl | hke
        · exact hon
        · exact hdown _ hon k hke
      have hnotW : ∀ j, Dof listed j = true → (W.getD j 0).testBit i = false := by
        intro j hj
        cases hb : (W.getD j 0).testBit i with
        | false => rfl
        | true => rw [hdown j hj i hb] at hDi; cases hDi
      -- the slots that i looks at hold what they hold in the text's order
      have hslot : ∀ s, s ∈ slotsOf ops ops[i] → (Tof ops v t0 (Dof listed) ops.size)[s]? = (Tof ops v t0 (fun _ => true) i)[s]? := by
        intro s hs
        rw [Tof_above ops v t0 (Dof listed) s i ops.size (by omega)]
        · refine Tof_below ops v t0 (Dof listed) s i (fun j hj hd => ?_)
          rcases slots_spec h.oks ho hd (by omega) (.inl hs) with ⟨_, hb⟩ | ⟨hlt, _⟩
          · exact hW j hb
          · omega
        · intro j h1 h2 h3 hd
          by_cases hij : i = j
          · subst hij; rw [hDi] at h3; cases h3
          · rcases slots_spec h.oks ho hd hij (.inl hs) with ⟨hlt, _⟩ | ⟨_, hb⟩
            · omega
            · rw [hnotW j h3] at hb; cases hb
      have hev : ∀ x ∈ ops[i].op.operands, ev (Tof ops v t0 (fun _ => true) i) x = ev (Tof ops v t0 (Dof listed) ops.size) x := by
        intro x hx
        refine ev_slots (fun s hs => ?_)
        exact (hslot s (by unfold slotsOf; rw [List.mem_append]; exact .inl (mem_tmps hx hs))).symm
      have hwanted : awanted ops (Tof ops v t0 (Dof listed) ops.size) ops[i] = awanted ops (Tof ops v t0 (fun _ => true) i) ops[i] := by
        unfold awanted Region.wanted
        cases hg : ops[i].guard with
        | none => rfl
        | some g =>
          obtain ⟨g, want⟩ := g
          simp only
          congr 1
          unfold yielded
          cases hd : (ops[g]?).bind (·.dst) with
          | none => rfl
          | some d =>
            simp only [Option.bind_some]
            rw [hslot d (by unfold slotsOf; rw [hg]; simp only [hd, Option.toList_some]; simp)]
      -- carried out, too
      have hset : ∀ k, Dof (listed.setIfInBounds i true) k = if k = i then true else Dof listed k := by
        intro k
        unfold Dof
        rw [Array.getD_eq_getD_getElem?, Array.getElem?_setIfInBounds]
        by_cases hk : i = k
        · subst hk; rw [if_pos rfl, if_pos (by omega), if_pos rfl]; rfl
        · rw [if_neg hk, if_neg (fun e => hk e.symm), Array.getD_eq_getD_getElem?]
      have hfun : Dof (listed.setIfInBounds i true) = fun k => if k = i then true else Dof listed k := funext hset
      have hT : Tof ops v t0 (Dof (listed.setIfInBounds i true)) ops.size = put (Tof ops v t0 (Dof listed) ops.size) (dstOf ops i) (v i) := by
        rw [hfun]
        refine Tof_add ops v t0 (Dof listed) i hDi ops.size hil (fun j h1 h2 h3 s hs hd => ?_)
        have hdi : ops[i].dst = some s := by
          unfold dstOf at hs; rw [ho] at hs; exact hs
        rcases slots_spec h.oks ho hd (by omega) (.inr hdi) with ⟨hlt, _⟩ | ⟨_, hb⟩
        · omega
        · rw [hnotW j h3] at hb; cases hb
      have hdst : dstOf ops i = ops[i].dst := by unfold dstOf; rw [ho]; rfl
      rw [hdst] at hT
      have hdown' : ∀ j, Dof (listed.setIfInBounds i true) j = true → ∀ k, (W.getD j 0).testBit k = true → Dof (listed.setIfInBounds i true) k = true := by
        intro j hj k hk
        rw [hset] at hj ⊢
        split
        · rfl
        · by_cases hji : j = i
          · subst hji; exact hW k hk
          · rw [if_neg hji] at hj; exact hdown j hj k hk
      have hcount' : (List.range ops.size).countP (fun k => !Dof (listed.setIfInBounds i true) k) ≤ fuel := by
        have key : ∀ (l : List Nat), i ∈ l → l.countP (fun k => !Dof (listed.setIfInBounds i true) k) + 1 ≤ l.countP (fun k => !Dof listed k) := by
          intro l
          have mono : ∀ (l : List Nat), l.countP (fun k => !Dof (listed.setIfInBounds i true) k) ≤ l.countP (fun k => !Dof listed k) := by
            intro l
            refine List.countP_mono_left (fun k _ hk => ?_)
            rw [hset] at hk
            split at hk
            · cases hk
            · exact hk
          induction l with
          | nil => intro h; cases h
          | cons x l ih =>
            intro hx
            rw [List.countP_cons, List.countP_cons]
            by_cases hxi : x = i
            · subst hxi
              have h1 : (!Dof (listed.setIfInBounds x true) x) = false := by rw [hset]; simp
              have h2 : (!Dof listed x) = true := by rw [hDi]; rfl
              rw [h1, h2]
              have := mono l
              simp only [Bool.false_eq_true, if_false, if_true]; omega
            · have hl : i ∈ l := by
                rcases List.mem_cons.1 hx with e | e
                · exact absurd e.symm hxi
                · exact e
              have h1 : (!Dof (listed.setIfInBounds i true) x) = (!Dof listed x) := by rw [hset, if_neg hxi]
              rw [h1]
              have := ih hl
              omega
        have := key (List.range ops.size) (by simpa using hil)
        omega
      have hnext := ih (q / (Region.ready .any ops listed).length) (listed.setIfInBounds i true) (by simpa using hsz) hdown' hcount'
      rw [hT] at hnext
      obtain ⟨hok, hstep⟩ := h.step i ops[i] ho
      rcases hstep with ⟨h1, h2, h3, h4⟩ | ⟨h1, h2, h3⟩ | ⟨h1, h2, h3, h4⟩
      · -- passed over
        have hs : stg E (Dof (listed.setIfInBounds i true)) ops.size = stg E (Dof listed) ops.size := by
          refine stg_congr _ _ _ _ (fun j _ hj => ?_)
          rw [hset, if_neg]; rintro rfl; rw [h3] at hj; cases hj
        rw [hs, h2] at hnext
        exact .off ho (by rw [hwanted]; exact h1) hnext
      · -- an effect: the next one
        have hbelow : ∀ j, j < i → E j = true → Dof listed j = true := fun j hj he => hW j (h.chain j i hj hil he h2)
        have habove : ∀ j, i < j → j < ops.size → E j = true → Dof listed j = false := by
          intro j hj hjn he
          cases hd : Dof listed j with
          | false => rfl
          | true =>
            have := h.chain i j hj hjn h2 he
            rw [hnotW j hd] at this; cases this
        have hs1 : stg E (Dof listed) ops.size = stg E (fun _ => true) i := by
          rw [stg_above E (Dof listed) i ops.size (by omega) (fun j h5 h6 h7 => by
            by_cases hij : i = j
            · subst hij; exact hDi
            · exact habove j (by omega) h6 h7)]
          exact stg_congr _ _ _ _ (fun j hj he => hbelow j hj he)
        have hs2 : stg E (Dof (listed.setIfInBounds i true)) ops.size = i + 1 := by
          rw [stg_above E _ (i + 1) ops.size (by omega) (fun j h5 h6 h7 => by
            rw [hset, if_neg (by omega)]; exact habove j (by omega) h6 h7)]
          simp only [stg]
          rw [hset, if_pos rfl, h2]; rfl
        rw [hs2] at hnext
        rw [hs1, ← h.mem_stg i (by omega)]
        exact .op ho (by rw [hwanted]; exact h1) (AStep.aop (hok h1) (AStep.congr hev h3)) hnext
      · have hs : stg E (Dof (listed.setIfInBounds i true)) ops.size = stg E (Dof listed) ops.size := by
          refine stg_congr _ _ _ _ (fun j _ hj => ?_)
          rw [hset, if_neg]; rintro rfl; rw [h2] at hj; cases hj
        rw [hs] at hnext
        refine .op ho (by rw [hwanted]; exact h1) (AStep.aop (hok h1) (AStep.congr hev ?_)) hnext
        rcases h4 with h4 | h4
        · exact .pure h4 rfl
        · refine .read (h4 _ ⟨stg_le _ _ _, ?_, fun j hj he hb => stg_gt _ _ _ j hj (hW j hb) he, fun j hj he hb => ?_⟩) rfl
          · rcases stg_at E (Dof listed) ops.size with h5 | h5
            · exact .inl h5
            · exact .inr h5.2
          · -- no effect that waits for i has come
            rcases Nat.lt_or_ge j (stg E (Dof listed) ops.size) with hlt | hge
            · exfalso
              rcases stg_at E (Dof listed) ops.size with h5 | ⟨h5, h6⟩
              · omega
              · have hle := stg_le E (Dof listed) ops.size
                have hDj : Dof listed j = true := by
                  by_cases hj1 : j = stg E (Dof listed) ops.size - 1
                  · rw [hj1]; exact h5
                  · exact hdown _ h5 j (h.chain j _ (by omega) (by omega) he h6)
                rw [hnotW j hDj] at hb; cases hb
            · exact hge

theorem ACd.canon {P : Program} {id : Nat} {ops : Array Oper} {W : Array Nat} {t0 : Array Value} {v : Nat → Value} {mem : Nat → Mem} {E : Nat → Bool} (hm : P.follows .mixedOrders = true) (h : Canon P ops W t0 v mem E) :
    ACd P (.region id ops true) t0 (mem 0) .normal (Tof ops v t0 (fun _ => true) ops.size) (mem ops.size) := by
  refine ACd.region_draw (fun q => ?_)
  simp only [Region.schedule, hm, Bool.true_or, if_true]
  have hD : Dof (Array.replicate ops.size false) = fun _ => false := by
    funext k; unfold Dof; rw [Array.getD_eq_getD_getElem?, Array.getElem?_replicate]; split <;> rfl
  have := h.rows ops.size q (Array.replicate ops.size false) (by simp) (by intro j hj; rw [hD] at hj; cases hj) (by
    rw [List.countP_eq_length_filter]
    exact Nat.le_trans (List.length_filter_le _ _) (by simp))
  have e1 : Tof ops v t0 (Dof (Array.replicate ops.size false)) ops.size = t0 := by
    rw [hD]
    have : ∀ n, Tof ops v t0 (fun _ => false) n = t0 := by
      intro n
      induction n with
      | zero => rfl
      | succ n ih => simp only [Tof]; exact ih
    exact this _
  have e2 : stg E (Dof (Array.replicate ops.size false)) ops.size = 0 := by
    rw [hD]
    have : ∀ n, stg E (fun _ => false) n = 0 := by
      intro n
      induction n with
      | zero => rfl
      | succ n ih => simp only [stg, Bool.false_and]; exact ih
    exact this _
  rw [e1, e2] at this
  exact this

end Go.AM
