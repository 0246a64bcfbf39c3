/- Part 2 of the proof: The machine made abstract. -/
import Derived.Test.YtdokoekgdeebpaaDoorPartA
import Derived.Orders
set_option linter.unusedVariables false
set_option linter.unusedSimpArgs false
set_option maxRecDepth 100000
/-! A13 -/
namespace Go.AM
def aNilCheck : Value → Option Value
  | .pointer (some a) => some (.pointer (some a))
  | .func (.func f) a c => some (.func (.func f) a c)
  | .func (.yield l) a c => some (.func (.yield l) a c)
  | _ => none
/-- Operations that only compute. -/
def aPure (P : Program) (ρ : Operand → Value) (op : Op) : Option Value :=
  match op with
  | .move x => some (ρ x)
  | .assign x => some (ρ x)
  | .pick c a b => match ρ c with
    | .bool t => some (if t then ρ a else ρ b)
    | _ => none
  | .nilCheck x => aNilCheck (ρ x)
  | .binOp op t x y _ => aBin P op t (ρ x) (ρ y)
  | .unOp op _ x => aUn op (ρ x)
  | .convert s d x => aConv P s d (ρ x)
  | .makeInterface t x => match undOf P t with
    | some (.interface _) => none
    | some _ => some (.iface t (ρ x))
    | none => none
  | .makeFunc (.func f) a c => some (.func (.func f) (a.map ρ) (c.map ρ))
  | .fieldAddr s x f => aFieldAddr P s (ρ x) f
  | .field t x f => aField P t (ρ x) f
  | .indexAddr t x i => aIndexAddr P t (ρ x) (ρ i)
  | .index t x i => aIndex P t (ρ x) (ρ i)
  | .extract x i => match ρ x with
    | .tuple vs => vs[i]?
    | _ => none
  | .build t ps => aBuild P t (ps.toList.map fun p => (p.1, ρ p.2))
  | .call ⟨.builtin .len, ⟨[x]⟩, ⟨[t]⟩⟩ => aLen P t (ρ x)
  | .call ⟨.builtin .max, ⟨x :: l⟩, _⟩ => aFold aMax2 (ρ x) (l.map ρ)
  | .call ⟨.builtin .min, ⟨x :: l⟩, _⟩ => aFold aMin2 (ρ x) (l.map ρ)
  | _ => none
theorem PRel.of_map {β : Beta} {N : Nat} {ρ ρ' : Operand → Value} : ∀ (l : List (Nat × Operand)), (∀ p ∈ l, VRel β N (ρ p.2) (ρ' p.2)) → PRel β N (l.map fun p => (p.1, ρ p.2)) (l.map fun p => (p.1, ρ' p.2))
 | [], _ => trivial
 | p :: l, h => ⟨rfl, h p (by simp), PRel.of_map l (fun q hq => h q (by simp [hq]))⟩
theorem LRel.of_map {β : Beta} {N : Nat} {ρ ρ' : Operand → Value} (l : List Operand) (h : ∀ x ∈ l, VRel β N (ρ x) (ρ' x)) : ∀ (i : Nat) v v', (l.map ρ)[i]? = some v → (l.map ρ')[i]? = some v' → VRel β N v v' := by
 intro i v v' e e'
 rw [List.getElem?_map] at e e'
 cases hl : l[i]? with
 | none => rw [hl] at e; cases e
 | some x =>
  rw [hl] at e e'; injection e with e; injection e' with e'; subst e; subst e'
  exact h x (List.mem_of_getElem? hl)
theorem ARel.of_map {β : Beta} {N : Nat} {ρ ρ' : Operand → Value} (l : Array Operand) (h : ∀ x ∈ l, VRel β N (ρ x) (ρ' x)) : ARel β N (l.map ρ) (l.map ρ') := ARel.map l _ _ h
theorem aPure_sound {P : Program} {β : Beta} {N : Nat} {w : World} {ρ ρ' : Operand → Value} {o : Oper} {v : Value} (hρ : ∀ x ∈ o.op.operands, VRel β N (ρ x) (ρ' x)) (h : aPure P ρ o.op = some v) :
  ∃ v', (execOp ρ' o).run P w = .ok (.value v') w ∧ VRel β N v v' := by
 obtain ⟨dst, op, ty, pos, after, guard⟩ := o
 simp only at hρ h

 have wrap : ∀ {s : Sem Value} {v' : Value}, s.run P w = .ok v' w → ((do pure (Next.value (← s)) : Sem Next)).run P w = .ok (.value v') w := by
  intro s v' hs; simp [hs]
 unfold aPure at h
 split at h
 ·injection h with h; subst h
  exact ⟨_, rfl, hρ _ (by simp [Op.operands])⟩
 ·injection h with h; subst h
  exact ⟨_, rfl, hρ _ (by simp [Op.operands])⟩
 ·rename_i c a b
  have hc := hρ c (by simp [Op.operands])
  have ha := hρ a (by simp [Op.operands])
  have hb := hρ b (by simp [Op.operands])
  split at h
  ·rename_i t et
   rw [et] at hc
   injection h with h; subst h
   cases hcc : ρ' c with
   | bool t' =>
    rw [hcc] at hc; cases hc
    refine ⟨if t then ρ' a else ρ' b, by simp [execOp, hcc, asBool], ?_⟩
    cases t <;> assumption
   | _ => rw [hcc] at hc; cases hc
  ·cases h
 ·rename_i x
  have hx := hρ x (by simp [Op.operands])
  unfold aNilCheck at h
  split at h
  ·rename_i a ea
   rw [ea] at hx
   injection h with h; subst h
   cases hxx : ρ' x with
   | pointer q =>
    rw [hxx] at hx
    refine ⟨.pointer q, ?_, hx⟩
    cases hx; simp [execOp, hxx]
   | _ => rw [hxx] at hx; cases hx
  ·rename_i f a c ea
   rw [ea] at hx
   injection h with h; subst h
   cases hxx : ρ' x with
   | func g a' c' =>
    rw [hxx] at hx
    refine ⟨_, ?_, hx⟩
    cases hx; simp [execOp, hxx]
   | _ => rw [hxx] at hx; cases hx
  ·rename_i l a c ea
   rw [ea] at hx
   injection h with h; subst h
   cases hxx : ρ' x with
   | func g a' c' =>
    rw [hxx] at hx
    refine ⟨_, ?_, hx⟩
    cases hx; simp [execOp, hxx]
   | _ => rw [hxx] at hx; cases hx
  ·cases h
 ·rename_i op t x y yt
  obtain ⟨v', hr, hv⟩ := aBin_sound (X := x) (Y := y) (w := w) (hρ x (by simp [Op.operands])) (hρ y (by simp [Op.operands])) h
  exact ⟨v', by simp only [execOp]; exact wrap hr, hv⟩
 ·rename_i op t x
  obtain ⟨v', hr, hv⟩ := aUn_sound (P := P) (w := w) (hρ x (by simp [Op.operands])) h
  exact ⟨v', by simp only [execOp]; exact wrap hr, hv⟩
 ·rename_i s d x
  obtain ⟨v', hr, hv⟩ := aConv_sound (P := P) (w := w) (hρ x (by simp [Op.operands])) h
  exact ⟨v', by simp only [execOp]; exact wrap hr, hv⟩
 ·rename_i t x
  have hx := hρ x (by simp [Op.operands])
  split at h
  ·cases h
  ·rename_i u hn e1
   injection h with h; subst h
   refine ⟨.iface t (ρ' x), ?_, .iface _ _ _ hx⟩
   simp only [execOp]
   refine wrap ?_
   simp only [Instr.makeInterface, Sem.run_bind, run_underlying e1, Result.andThen_ok]
   cases u <;> first | rfl | exact absurd rfl (hn _)
  ·cases h
 ·rename_i f a c
  injection h with h; subst h
  have ha : ARel β N (a.map ρ) (a.map ρ') := ARel.of_map a (fun x hx => hρ x (by simp [Op.operands, hx]))
  have hc : ARel β N (c.map ρ) (c.map ρ') := ARel.of_map c (fun x hx => hρ x (by simp [Op.operands, hx]))
  exact ⟨_, rfl, .func f _ _ _ _ ha.1 ha.2 hc.1 hc.2⟩
 ·rename_i s x f
  obtain ⟨v', hr, hv⟩ := aFieldAddr_sound (P := P) (w := w) (hρ x (by simp [Op.operands])) h
  exact ⟨v', by simp only [execOp]; exact wrap hr, hv⟩
 ·rename_i t x f
  obtain ⟨v', hr, hv⟩ := aField_sound (P := P) (w := w) (hρ x (by simp [Op.operands])) h
  exact ⟨v', by simp only [execOp]; exact wrap hr, hv⟩
 ·rename_i t x i
  obtain ⟨v', hr, hv⟩ := aIndexAddr_sound (P := P) (w := w) (hρ x (by simp [Op.operands])) (hρ i (by simp [Op.operands])) h
  exact ⟨v', by simp only [execOp]; exact wrap hr, hv⟩
 ·rename_i t x i
  obtain ⟨v', hr, hv⟩ := aIndex_sound (P := P) (w := w) (hρ x (by simp [Op.operands])) (hρ i (by simp [Op.operands])) h
  exact ⟨v', by simp only [execOp]; exact wrap hr, hv⟩
 ·rename_i x i
  have hx := hρ x (by simp [Op.operands])
  split at h
  ·rename_i vs ev
   rw [ev] at hx
   cases hxx : ρ' x with
   | tuple vs' =>
    rw [hxx] at hx
    cases hx with
    | tuple _ _ h1 h2 =>
     obtain ⟨v', e', hv⟩ := ARel.get ⟨h1, h2⟩ h
     refine ⟨v', ?_, hv⟩
     simp only [execOp]
     exact wrap (by simp [Instr.extract, hxx, e'])
   | _ => rw [hxx] at hx; cases hx
  ·cases h
 ·rename_i t ps
  obtain ⟨v', hr, hv⟩ := aBuild_sound (P := P) (w := w) (ps' := ps.map fun (i, x) => (i, ρ' x)) (by
   have := PRel.of_map (β := β) (N := N) (ρ := ρ) (ρ' := ρ') ps.toList (fun p hp => hρ p.2 (by
    simp only [Op.operands, List.mem_toArray, List.mem_map]; exact ⟨p, hp, rfl⟩))
   simpa using this) h
  exact ⟨v', by simp only [execOp]; exact wrap hr, hv⟩
 ·rename_i x t
  obtain ⟨v', hr, hv⟩ := aLen_sound (P := P) (w := w) (rt := ty) (hρ x (by simp [Op.operands, Call.operands])) h
  refine ⟨v', ?_, hv⟩
  simp only [execOp, resolve, Sem.run_bind, Sem.run_pure, Result.andThen_ok, invoke, builtin, List.map_toArray, List.map_cons, List.map_nil]
  rw [hr]; rfl
 ·rename_i x l ts
  have hl : ∀ y ∈ l, VRel β N (ρ y) (ρ' y) := fun y hy => hρ y (by simp [Op.operands, Call.operands, hy])
  obtain ⟨v', hr, hv⟩ := aFold_sound (P := P) (β := β) (N := N) (w := w) aMax2 Builtin.max2 aMax2_sound (l.map ρ) (l.map ρ') (ρ x) (ρ' x) v (by simp) (LRel.of_map l hl) (hρ x (by simp [Op.operands, Call.operands])) h
  refine ⟨v', ?_, hv⟩
  simp only [execOp, resolve, Sem.run_bind, Sem.run_pure, Result.andThen_ok, invoke, builtin, List.map_toArray, List.map_cons]
  have : (Builtin.max_ ts ty (ρ' x :: l.map ρ').toArray).run P w = .ok v' w := by simpa [Builtin.max_] using hr
  rw [this]; rfl
 ·rename_i x l ts
  have hl : ∀ y ∈ l, VRel β N (ρ y) (ρ' y) := fun y hy => hρ y (by simp [Op.operands, Call.operands, hy])
  obtain ⟨v', hr, hv⟩ := aFold_sound (P := P) (β := β) (N := N) (w := w) aMin2 Builtin.min2 aMin2_sound (l.map ρ) (l.map ρ') (ρ x) (ρ' x) v (by simp) (LRel.of_map l hl) (hρ x (by simp [Op.operands, Call.operands])) h
  refine ⟨v', ?_, hv⟩
  simp only [execOp, resolve, Sem.run_bind, Sem.run_pure, Result.andThen_ok, invoke, builtin, List.map_toArray, List.map_cons]
  have : (Builtin.min_ ts ty (ρ' x :: l.map ρ').toArray).run P w = .ok v' w := by simpa [Builtin.min_] using hr
  rw [this]; rfl
 ·cases h
/-- Operations that read memory. -/
def aRead (P : Program) (m : Mem) (ρ : Operand → Value) (op : Op) : Option Value :=
  match op with
  | .load t a => aLoad P m t (ρ a)
  | .slice t x lo hi mx => aSlice P m t (ρ x) (lo.map ρ) (hi.map ρ) (mx.map ρ)
  | .lookup t x k ok => aLookup P m t (ρ x) (ρ k) ok
  | .call ⟨.builtin .len, ⟨[x]⟩, ⟨[t]⟩⟩ => match undOf P t, ρ x with
    | some (.map _ _), .map (some r) => match Mem.get m r with
      | .map _ es => some (.int .i64 es.length)
      | _ => none
    | _, _ => none
  | _ => none
theorem ORel.of_map {β : Beta} {N : Nat} {ρ ρ' : Operand → Value} (x : Option Operand) (h : ∀ y, x = some y → VRel β N (ρ y) (ρ' y)) : ORel β N (x.map ρ) (x.map ρ') := by
 cases x with
 | none => trivial
 | some y => exact h y rfl
theorem aRead_sound {P : Program} {β : Beta} {m : Mem} {w : World} {ρ ρ' : Operand → Value} {o : Oper} {v : Value} (hR : Rel P β m w) (hρ : ∀ x ∈ o.op.operands, VRel β m.size (ρ x) (ρ' x)) (h : aRead P m ρ o.op = some v) :
  ∃ v', (execOp ρ' o).run P w = .ok (.value v') w ∧ VRel β m.size v v' := by
 obtain ⟨dst, op, ty, pos, after, guard⟩ := o
 simp only at hρ h
 have wrap : ∀ {s : Sem Value} {v' : Value}, s.run P w = .ok v' w → ((do pure (Next.value (← s)) : Sem Next)).run P w = .ok (.value v') w := by
  intro s v' hs; simp [hs]
 unfold aRead at h
 split at h
 ·rename_i t a
  obtain ⟨v', hr, hv⟩ := aLoad_sound hR (hρ a (by simp [Op.operands])) h
  exact ⟨v', by simp only [execOp]; exact wrap hr, hv⟩
 ·rename_i t x lo hi mx
  obtain ⟨v', hr, hv⟩ := aSlice_sound hR (hρ x (by simp [Op.operands])) (ORel.of_map lo (fun y hy => hρ y (by simp [Op.operands, hy]))) (ORel.of_map hi (fun y hy => hρ y (by simp [Op.operands, hy])))
   (ORel.of_map mx (fun y hy => hρ y (by simp [Op.operands, hy]))) h
  exact ⟨v', by simp only [execOp]; exact wrap hr, hv⟩
 ·rename_i t x k ok
  obtain ⟨v', hr, hv⟩ := aLookup_sound hR (hρ x (by simp [Op.operands])) (hρ k (by simp [Op.operands])) h
  exact ⟨v', by simp only [execOp]; exact wrap hr, hv⟩
 ·rename_i x t
  have hx := hρ x (by simp [Op.operands, Call.operands])
  split at h
  ·rename_i kt et r e1 e2
   rw [e2] at hx
   split at h
   ·rename_i rw_ es e3
    injection h with h; subst h
    obtain ⟨es', clk, hw, hs, _⟩ := hR.map r rw_ es e3
    cases hxx : ρ' x with
    | map q =>
     rw [hxx] at hx
     cases hx
     refine ⟨.int .i64 es'.size, ?_, by rw [hs]; exact .int _ _⟩
     have hg : (getObj (β.blk r)).run P w = .ok (.map es' clk) w := by simp [getObj, Sem.run, hw]
     have : (Builtin.len_ #[t] ty #[ρ' x]).run P w = .ok (.int .i64 es'.size) w := by simp [Builtin.len_, run_underlying e1, hxx, hg, goInt]
     simp only [execOp, resolve, Sem.run_bind, Sem.run_pure, Result.andThen_ok, invoke, builtin, List.map_toArray, List.map_cons, List.map_nil]
     rw [this]; rfl
    | _ => rw [hxx] at hx; cases hx
   ·cases h
  ·cases h
 ·cases h
/-- Operations that make or write memory. -/
def aEff (P : Program) (m : Mem) (ρ : Operand → Value) (op : Op) : Option (Value × Mem) :=
  match op with
  | .alloc e => aAlloc P m e
  | .box _ x => some (aBox m (ρ x))
  | .buildSlice t len ps => aBuildSlice P m t len (ps.toList.map fun p => (p.1, ρ p.2))
  | .makeSlice t l c => aMakeSlice P m t (ρ l) (ρ c)
  | .makeMap _ r => aMakeMap m (r.map ρ)
  | .store t a v => (aStore P m t (ρ a) (ρ v)).map fun m' => (Go.undef, m')
  | .mapUpdate t x k v => (aMapUpdate P m t (ρ x) (ρ k) (ρ v)).map fun m' => (Go.undef, m')
  | .insert t x k v => (aMapUpdate P m t (ρ x) (ρ k) (ρ v)).map fun m' => (Go.undef, m')
  | .call ⟨.builtin .append, ⟨[s, x]⟩, ⟨[t, xt]⟩⟩ => match aAppend P m t xt (ρ s) (ρ x) with
    | some r => some r
    | none => aAppendN P m t xt (ρ s) (ρ x)
  | .call ⟨.builtin .cap, ⟨[x]⟩, ⟨[t]⟩⟩ => aCapNil P m t (ρ x)
  | .call ⟨.builtin .copy, ⟨[d, x]⟩, ⟨[t, _]⟩⟩ => aCopy P m t (ρ d) (ρ x)
  | .call ⟨.builtin .clear, ⟨[x]⟩, ⟨[t]⟩⟩ => aClear P m t (ρ x)
  | _ => none
/-- What an operation with an effect comes to. -/
def EffN (P : Program) (β : Beta) (m : Mem) (w : World) (s : Sem Next) (v : Value) (m' : Mem) : Prop :=
  ∃ nx v' w' β', s.run P w = .ok nx w' ∧ (nx = .value v' ∨ nx = .skip ∧ v' = Go.undef) ∧ VRel β' m'.size v v' ∧ Rel P β' m' w' ∧ Stp β m w β' m' w'
theorem EffN.of {P : Program} {β : Beta} {m m' : Mem} {w : World} {s : Sem Value} {S : Sem Next} {v : Value} (h : Eff P β m w s v m') (hS : ∀ v' w', s.run P w = .ok v' w' → S.run P w = .ok (.value v') w') : EffN P β m w S v m' := by
 obtain ⟨v', w', β', hs, h1, h2, h3⟩ := h
 exact ⟨_, v', w', β', hS v' w' hs, .inl rfl, h1, h2, h3⟩
theorem aEff_sound {P : Program} {β : Beta} {m m' : Mem} {w : World} {ρ ρ' : Operand → Value} {o : Oper} {v : Value} (hR : Rel P β m w) (hρ : ∀ x ∈ o.op.operands, VRel β m.size (ρ x) (ρ' x)) (h : aEff P m ρ o.op = some (v, m')) :
  EffN P β m w (execOp ρ' o) v m' := by
 obtain ⟨dst, op, ty, pos, after, guard⟩ := o
 simp only at hρ h
 cases op with
 | alloc e => exact EffN.of (aAlloc_sound hR h) (fun v' w' hs => by simp only [execOp, Sem.run_bind, hs]; rfl)
 | box e x =>
  have h' : aBox m (ρ x) = (v, m') := Option.some.inj h
  have := aBox_sound (e := e) hR (hρ x (by simp [Op.operands]))
  rw [h'] at this
  exact EffN.of this (fun v' w' hs => by simp only [execOp, Sem.run_bind, hs]; rfl)
 | buildSlice t len ps =>
  refine EffN.of (aBuildSlice_sound hR (ps' := ps.map fun (i, x) => (i, ρ' x)) ?_ h) (fun v' w' hs => by simp only [execOp, Sem.run_bind, hs]; rfl)
  have := PRel.of_map (β := β) (N := m.size) (ρ := ρ) (ρ' := ρ') ps.toList (fun p hp => hρ p.2 (by
   simp only [Op.operands, List.mem_toArray, List.mem_map]; exact ⟨p, hp, rfl⟩))
  simpa using this
 | makeSlice t l c => exact EffN.of (aMakeSlice_sound hR (hρ l (by simp [Op.operands])) (hρ c (by simp [Op.operands])) h) (fun v' w' hs => by simp only [execOp, Sem.run_bind, hs]; rfl)
 | makeMap t r => exact EffN.of (aMakeMap_sound (t := t) hR (ORel.of_map r (fun y hy => hρ y (by simp [Op.operands, hy]))) h) (fun v' w' hs => by simp only [execOp, Sem.run_bind, hs]; rfl)
 | store t a x =>
  have h' : (aStore P m t (ρ a) (ρ x)).map (fun m' => (Go.undef, m')) = some (v, m') := h
  cases e : aStore P m t (ρ a) (ρ x) with
  | none => rw [e] at h'; cases h'
  | some m1 =>
   rw [e] at h'; injection h' with h'; injection h' with h1 h2; subst h1 h2
   obtain ⟨w', hr, r1, r2⟩ := aStore_sound hR (hρ a (by simp [Op.operands])) (hρ x (by simp [Op.operands])) e
   exact ⟨.skip, Go.undef, w', β, by simp only [execOp, Sem.run_bind, hr]; rfl, .inr ⟨rfl, rfl⟩, .undef _ _, r1, r2⟩
 | mapUpdate t x k y =>
  have h' : (aMapUpdate P m t (ρ x) (ρ k) (ρ y)).map (fun m' => (Go.undef, m')) = some (v, m') := h
  cases e : aMapUpdate P m t (ρ x) (ρ k) (ρ y) with
  | none => rw [e] at h'; cases h'
  | some m1 =>
   rw [e] at h'; injection h' with h'; injection h' with h1 h2; subst h1 h2
   obtain ⟨w', hr, r1, r2⟩ := aMapUpdate_sound hR (hρ x (by simp [Op.operands])) (hρ k (by simp [Op.operands])) (hρ y (by simp [Op.operands])) e
   exact ⟨.skip, Go.undef, w', β, by simp only [execOp, Sem.run_bind, hr]; rfl, .inr ⟨rfl, rfl⟩, .undef _ _, r1, r2⟩
 | insert t x k y =>
  have h' : (aMapUpdate P m t (ρ x) (ρ k) (ρ y)).map (fun m' => (Go.undef, m')) = some (v, m') := h
  cases e : aMapUpdate P m t (ρ x) (ρ k) (ρ y) with
  | none => rw [e] at h'; cases h'
  | some m1 =>
   rw [e] at h'; injection h' with h'; injection h' with h1 h2; subst h1 h2
   obtain ⟨w', hr, r1, r2⟩ := aMapUpdate_sound hR (hρ x (by simp [Op.operands])) (hρ k (by simp [Op.operands])) (hρ y (by simp [Op.operands])) e
   exact ⟨.skip, Go.undef, w', β, by simp only [execOp, Sem.run_bind, hr]; rfl, .inr ⟨rfl, rfl⟩, .undef _ _, r1, r2⟩
 | call c =>
  unfold aEff at h
  split at h <;> rename_i heq <;> (try (cases heq)) <;> (try (cases h; done))
  ·rename_i s x t xt
   split at h
   ·rename_i r er
    injection h with h; subst h
    exact EffN.of (aAppend_sound (rt := ty) hR (hρ s (by simp [Op.operands, Call.operands])) (hρ x (by simp [Op.operands, Call.operands])) er) (fun v' w' hs => by
     simp only [execOp, resolve, Sem.run_bind, Sem.run_pure, Result.andThen_ok, invoke, builtin, List.map_toArray, List.map_cons, List.map_nil, hs])
   ·exact EffN.of (aAppendN_sound (rt := ty) hR (hρ s (by simp [Op.operands, Call.operands])) (hρ x (by simp [Op.operands, Call.operands])) h) (fun v' w' hs => by
     simp only [execOp, resolve, Sem.run_bind, Sem.run_pure, Result.andThen_ok, invoke, builtin, List.map_toArray, List.map_cons, List.map_nil, hs])
  ·rename_i x t
   exact EffN.of (aCapNil_sound (rt := ty) hR (hρ x (by simp [Op.operands, Call.operands])) h) (fun v' w' hs => by
    simp only [execOp, resolve, Sem.run_bind, Sem.run_pure, Result.andThen_ok, invoke, builtin, List.map_toArray, List.map_cons, List.map_nil, hs])
  ·rename_i d x t xt
   exact EffN.of (aCopy_sound (xt := xt) (rt := ty) hR (hρ d (by simp [Op.operands, Call.operands])) (hρ x (by simp [Op.operands, Call.operands])) h) (fun v' w' hs => by
    simp only [execOp, resolve, Sem.run_bind, Sem.run_pure, Result.andThen_ok, invoke, builtin, List.map_toArray, List.map_cons, List.map_nil, hs])
  ·rename_i x t
   exact EffN.of (aClear_sound (rt := ty) hR (hρ x (by simp [Op.operands, Call.operands])) h) (fun v' w' hs => by
    simp only [execOp, resolve, Sem.run_bind, Sem.run_pure, Result.andThen_ok, invoke, builtin, List.map_toArray, List.map_cons, List.map_nil, hs])
 | _ => exact absurd h (by simp [aEff])
end Go.AM

/-! A14 -/
namespace Go.AM
def AObj.isLoop : AObj → Bool
  | .loop _ => true
  | _ => false
def LoopsIn (m m' : Mem) : Prop := ∀ b, (Mem.get m b).isLoop = true → (Mem.get m' b).isLoop = true
theorem LoopsIn.refl (m : Mem) : LoopsIn m m := fun _ h => h
theorem LoopsIn.trans {m m' m'' : Mem} (h : LoopsIn m m') (h' : LoopsIn m' m'') : LoopsIn m m'' := fun b hb => h' b (h b hb)
theorem LoopsIn.push (m : Mem) (o : AObj) : LoopsIn m (m.push o) := by
 intro b hb
 rw [get_push]
 have : b < m.size := by
  refine Mem.lt_of_live ?_
  cases h : Mem.get m b <;> rw [h] at hb <;> first | rfl | cases hb
 rw [if_neg (by omega)]; exact hb
theorem LoopsIn.set {m : Mem} {b : Nat} {o : AObj} (h : (Mem.get m b).isLoop = true → o.isLoop = true) : LoopsIn m (m.setIfInBounds b o) := by
 intro i hi
 rw [get_set]
 split
 ·rename_i hc; rw [hc.1] at h; exact h hi
 ·exact hi
theorem aEff_loops {P : Program} {m m' : Mem} {ρ : Operand → Value} {op : Op} {v : Value} (h : aEff P m ρ op = some (v, m')) : LoopsIn m m' := by
 have nl : ∀ {b : Nat} {o : AObj}, (Mem.get m b).isLoop = false → LoopsIn m (m.setIfInBounds b o) := by
  intro b o hb; refine LoopsIn.set (fun h => ?_); rw [hb] at h; cases h
 unfold aEff at h
 split at h
 ·unfold aAlloc at h
  repeat' (split at h)
  all_goals first
   | (cases h; done)
   | (injection h with h; injection h with h1 h2; subst h2; exact LoopsIn.push _ _)
 ·injection h with h; injection h with h1 h2; subst h2; exact LoopsIn.push _ _
 ·unfold aBuildSlice at h
  repeat' (split at h)
  all_goals first
   | (cases h; done)
   | (injection h with h; injection h with h1 h2; subst h2; exact LoopsIn.push _ _)
 ·unfold aMakeSlice at h
  repeat' (split at h)
  all_goals first
   | (cases h; done)
   | (injection h with h; injection h with h1 h2; subst h2; exact LoopsIn.push _ _)
 ·unfold aMakeMap at h
  repeat' (split at h)
  all_goals first
   | (cases h; done)
   | (injection h with h; injection h with h1 h2; subst h2; exact LoopsIn.push _ _)
 ·unfold aStore at h
  repeat' (split at h)
  all_goals first
   | (cases h; done)
   | (rename_i e _; simp only [Option.map_some, Option.some.injEq, Prod.mk.injEq] at h; obtain ⟨_, rfl⟩ := h; exact nl (by simp only [*, AObj.isLoop]))
 ·unfold aMapUpdate at h
  repeat' (split at h)
  all_goals first
   | (cases h; done)
   | (simp only [Option.map_some, Option.some.injEq, Prod.mk.injEq] at h; obtain ⟨_, rfl⟩ := h; exact nl (by simp only [*, AObj.isLoop]))
 ·unfold aMapUpdate at h
  repeat' (split at h)
  all_goals first
   | (cases h; done)
   | (simp only [Option.map_some, Option.some.injEq, Prod.mk.injEq] at h; obtain ⟨_, rfl⟩ := h; exact nl (by simp only [*, AObj.isLoop]))
 ·split at h
  ·rename_i r er
   injection h with h; subst h
   unfold aAppend at er
   repeat' (split at er)
   all_goals first
    | (cases er; done)
    | (injection er with er; injection er with h1 h2; subst h2; first
      | exact LoopsIn.refl _
      | exact LoopsIn.push _ _
      | exact nl (by simp only [*, AObj.isLoop])
      | exact LoopsIn.trans (nl (by simp only [*, AObj.isLoop])) (LoopsIn.push _ _))
  ·unfold aAppendN at h
   repeat' (split at h)
   all_goals first
    | (cases h; done)
    | (injection h with h; injection h with h1 h2; subst h2; exact LoopsIn.push _ _)
 ·unfold aCapNil at h
  split at h
  ·injection h with h; injection h with h1 h2; subst h2; exact LoopsIn.refl _
  ·cases h
 ·unfold aCopy at h
  repeat' (split at h)
  all_goals first
   | (cases h; done)
   | (injection h with h; injection h with h1 h2; subst h2; first
     | exact LoopsIn.refl _
     | exact nl (by simp only [*, AObj.isLoop]))
 ·unfold aClear at h
  repeat' (split at h)
  all_goals first
   | (cases h; done)
   | (injection h with h; injection h with h1 h2; subst h2; first
     | exact LoopsIn.refl _
     | exact nl (by simp only [*, AObj.isLoop]))
 ·cases h
/-- Marks from a place in the heap on. -/
def MarksFrom (n : Nat) (ds : List Deferred) (w : World) : Prop :=
  ∃ rs : List Nat, ds = rs.map (fun r => { target := .collected r, args := #[] }) ∧ rs.Nodup ∧ ∀ r ∈ rs, n ≤ r ∧ w.heap[r]? = some (.deferred (some []))
theorem Rel.not_deferred {P : Program} {β : Beta} {m : Mem} {w : World} (h : Rel P β m w) {b r : Nat} {d : Option (List Deferred)} (hb : (Mem.get m b).live = true) (hr : w.heap[r]? = some (.deferred d)) : β.blk b ≠ r := by
 intro e
 obtain ⟨O, h1, h2⟩ := h.obj b hb
 rw [e, hr] at h1; injection h1 with h1; subst h1
 cases ho : Mem.get m b with
 | dead => rw [ho] at hb; cases hb
 | cells r c => rw [ho] at h2; obtain ⟨_, _, _, h3, _⟩ := h2; cases h3
 | map r es => rw [ho] at h2; obtain ⟨_, _, h3, _⟩ := h2; cases h3
 | loop L => rw [ho] at h2; obtain ⟨_, h3, _⟩ := h2; cases h3
 | grow c => rw [ho] at h2; obtain ⟨_, _, _, h3, _⟩ := h2; cases h3
theorem MarksFrom.stp {P : Program} {n : Nat} {ds : List Deferred} {β β' : Beta} {m m' : Mem} {w w' : World} (h : MarksFrom n ds w) (hR : Rel P β m w) (hS : Stp β m w β' m' w') : MarksFrom n ds w' := by
 obtain ⟨rs, h1, h2, h3⟩ := h
 refine ⟨rs, h1, h2, fun r hr => ⟨(h3 r hr).1, ?_⟩⟩
 have hh := (h3 r hr).2
 rw [hS.keep r (Array.getElem?_eq_some_iff.1 hh).1 (fun b hb => hR.not_deferred (AObj.live_of_rw hb) hh)]
 exact hh
theorem popped_heap (rs : List Nat) (w : World) (i : Nat) (hi : i ∉ rs) : (popped rs w).heap[i]? = w.heap[i]? := by
 induction rs generalizing w with
 | nil => rfl
 | cons r rs ih =>
  have h1 : i ≠ r := fun e => hi (by simp [e])
  have h2 : i ∉ rs := fun e => hi (by simp [e])
  show (popped rs (World.putObj w r (.deferred none))).heap[i]? = _
  rw [ih _ h2]
  simp only [World.putObj]
  rw [Array.getElem?_setIfInBounds_ne (fun e => h1 e.symm)]
theorem popped_rest (rs : List Nat) (w : World) : (popped rs w).heap.size = w.heap.size ∧ (popped rs w).os = w.os ∧ (popped rs w).tape = w.tape ∧ (popped rs w).output = w.output := by
 induction rs generalizing w with
 | nil => exact ⟨rfl, rfl, rfl, rfl⟩
 | cons r rs ih =>
  have := ih (World.putObj w r (.deferred none))
  simp only [World.putObj, Array.size_setIfInBounds] at this
  exact this
theorem Rel.popped {P : Program} {β : Beta} {m : Mem} {w : World} (h : Rel P β m w) {rs : List Nat} (hr : ∀ r ∈ rs, w.heap[r]? = some (.deferred (some []))) : Rel P β m (popped rs w) := by
 refine ⟨h.gsz, h.glob, fun b hb => ?_, h.inj⟩
 obtain ⟨O, h1, h2⟩ := h.obj b hb
 refine ⟨O, ?_, h2⟩
 rw [popped_heap rs w _ (fun hm => h.not_deferred hb (hr _ hm) rfl)]
 exact h1
theorem Stp.popped {β β' : Beta} {m m' : Mem} {w w' : World} (h : Stp β m w β' m' w') {rs : List Nat} (hr : ∀ r ∈ rs, w.heap.size ≤ r) : Stp β m w β' m' (popped rs w') := by
 obtain ⟨p1, p2, p3, p4⟩ := popped_rest rs w'
 refine ⟨h.msz, by rw [p1]; exact h.wsz, h.agree, h.fresh, fun i hi hn => ?_, by rw [p2]; exact h.os, by rw [p3]; exact h.tape, by rw [p4]; exact h.output, h.freshL⟩
 rw [popped_heap rs w' i (fun hm => by have := hr i hm; omega)]
 exact h.keep i hi hn
/-! ### The judgements -/
/-- The round's own loop is there. -/
def InRound (b : FB) (β : Beta) (m : Mem) : Prop := ∀ l, b.roundOf = some l → ∃ a, (Mem.get m a).isLoop = true ∧ β.blk a = l
def ACd (P : Program) (c : Code) (t : Array Value) (m : Mem) (e : AExit) (t' : Array Value) (m' : Mem) : Prop :=
  LoopsIn m m' ∧ ∀ (b : FB) (β : Beta) (w : World) (ts : Array Value) (ds : List Deferred) (n : Nat), Rel P β m w → ARel β m.size t ts → MarksFrom n ds w → n ≤ w.heap.size → (b.roundOf ≠ none → ds = []) → InRound b β m →
    CR P b c (fun e' ts' ds' w' => e' = e ∧ MarksFrom n ds' w' ∧ (b.roundOf ≠ none → ds' = []) ∧ ∃ β', ARel β' m'.size t' ts' ∧ Rel P β' m' w' ∧ Stp β m w β' m' w') ts ds w
def AOp (P : Program) (o : Oper) (t : Array Value) (m : Mem) (v : Value) (m' : Mem) : Prop :=
  LoopsIn m m' ∧ ∀ (b : FB) (β : Beta) (w : World) (ts : Array Value) (ds : List Deferred), Rel P β m w → ARel β m.size t ts →
    OR P b ts ds w o (fun v' w' => ∃ β', VRel β' m'.size v v' ∧ Rel P β' m' w' ∧ Stp β m w β' m' w')
def ACalls (P : Program) (f : FuncId) (args : Array Value) (m : Mem) (v : Value) (m' : Mem) : Prop :=
  LoopsIn m m' ∧ ∀ (β : Beta) (w : World) (args' : Array Value), Rel P β m w → ARel β m.size args args' →
    Calls P f args' w (fun e w' => ∃ v', e = .returned v' ∧ ∃ β', VRel β' m'.size v v' ∧ Rel P β' m' w' ∧ Stp β m w β' m' w')
theorem InRound.next {b : FB} {β β' : Beta} {m m' : Mem} {w w' : World} (h : InRound b β m) (hl : LoopsIn m m') (hS : Stp β m w β' m' w') : InRound b β' m' := by
 intro l hb
 obtain ⟨a, h1, h2⟩ := h l hb
 refine ⟨a, hl a h1, ?_⟩
 have : a < m.size := by
  refine Mem.lt_of_live ?_
  cases h : Mem.get m a <;> rw [h] at h1 <;> first | rfl | cases h1
 rw [hS.agree.blk a this]; exact h2
/-! ### Operations -/
def okOps (P : Program) (op : Op) : Bool := op.operands.all (okOper P.globals.size)
theorem ops_rel {P : Program} {β : Beta} {m : Mem} {w : World} {t ts : Array Value} (hR : Rel P β m w) (hT : ARel β m.size t ts) {op : Op} (h : okOps P op = true) : ∀ x ∈ op.operands, VRel β m.size (ev t x) (ev ts x) := by
 intro x hx
 unfold okOps at h
 rw [Array.all_eq_true] at h
 obtain ⟨i, hi, rfl⟩ := Array.mem_iff_getElem.1 hx
 exact ev_rel hR hT (h i hi)
theorem AOp.pure {P : Program} {o : Oper} {t : Array Value} {m : Mem} {v : Value} (hd : noDefer o.op = true) (ho : okOps P o.op = true) (h : aPure P (ev t) o.op = some v) : AOp P o t m v m := by
 refine ⟨.refl _, fun b β w ts ds hR hT => ?_⟩
 obtain ⟨v', hr, hv⟩ := aPure_sound (w := w) (ops_rel hR hT ho) h
 exact OR.value hd hr ⟨β, hv, hR, .refl _ _ _⟩
theorem AOp.read {P : Program} {o : Oper} {t : Array Value} {m : Mem} {v : Value} (hd : noDefer o.op = true) (ho : okOps P o.op = true) (h : aRead P m (ev t) o.op = some v) : AOp P o t m v m := by
 refine ⟨.refl _, fun b β w ts ds hR hT => ?_⟩
 obtain ⟨v', hr, hv⟩ := aRead_sound hR (ops_rel hR hT ho) h
 exact OR.value hd hr ⟨β, hv, hR, .refl _ _ _⟩
theorem AOp.eff {P : Program} {o : Oper} {t : Array Value} {m m' : Mem} {v : Value} (hd : noDefer o.op = true) (ho : okOps P o.op = true) (h : aEff P m (ev t) o.op = some (v, m')) : AOp P o t m v m' := by
 refine ⟨aEff_loops h, fun b β w ts ds hR hT => ?_⟩
 obtain ⟨nx, v', w', β', hr, hnx, hv, h2, h3⟩ := aEff_sound hR (ops_rel hR hT ho) h
 rcases hnx with rfl | ⟨rfl, rfl⟩
 ·exact OR.value hd hr ⟨β', hv, h2, h3⟩
 ·exact OR.none hd hr ⟨β', hv, h2, h3⟩
def callable (P : Program) (g : FuncId) : Bool :=
  match P.funcs[g]? with
  | some fn => fn.name != "runtime.NumGoroutine" && fn.body.isSome
  | none => false
theorem run_callFunc {P : Program} {w : World} {g : FuncId} {args : Array Value} (h : callable P g = true) : (callFunc g args).run P w = .ok (.enter g args) w := by
 unfold callable at h
 split at h
 ·rename_i fn e
  simp only [Bool.and_eq_true, bne_iff_ne, ne_eq] at h
  have h1 : (fn.name == "runtime.NumGoroutine") = false := by simpa using h.1
  have h2 : fn.body.isNone = false := by cases hb : fn.body <;> simp_all
  simp only [callFunc, Sem.run_bind, run_program, Result.andThen_ok, e, h1, Bool.false_eq_true, if_false, h2, Sem.run_pure]
 ·cases h
theorem AOp.call {P : Program} {o : Oper} {c : Call} {f : Operand} {t : Array Value} {m m' : Mem} {v : Value} {g : FuncId} {a cap : Array Value} (hc : o.op = .call c) (hf : c.callee = .value f) (ho : okOps P o.op = true)
  (hv : ev t f = .func (.func g) a cap) (hcall : callable P g = true) (h : ACalls P g (a ++ c.args.map (ev t) ++ cap) m v m') : AOp P o t m v m' := by
 refine ⟨h.1, fun b β w ts ds hR hT => ?_⟩
 have hops := ops_rel hR hT ho
 have hfv : VRel β m.size (ev t f) (ev ts f) := hops f (by rw [hc]; simp [Op.operands, Call.operands, hf])
 have hargs : ARel β m.size (c.args.map (ev t)) (c.args.map (ev ts)) := ARel.of_map _ (fun x hx => hops x (by rw [hc]; simp [Op.operands, Call.operands, hf, hx]))
 rw [hv] at hfv
 cases hfs : ev ts f with
 | func g' a' cap' =>
  rw [hfs] at hfv
  cases hfv with
  | func _ _ _ _ _ h1 h2 h3 h4 =>
   have hA : ARel β m.size (a ++ c.args.map (ev t) ++ cap) (a' ++ c.args.map (ev ts) ++ cap') := (ARel.append ⟨h1, h2⟩ hargs).append ⟨h3, h4⟩
   refine OR.enter (f := g) (args := a' ++ c.args.map (ev ts) ++ cap') (by rw [hc]; rfl) ?_ (Runs.of_calls (h.2 β w _ hR hA))
   obtain ⟨dst, op, ty, pos, after, guard⟩ := o
   simp only at hc; subst hc
   simp only [execOp, resolve, hf, hfs, Deferred.ofValue, Sem.run_bind, Sem.run_pure, Result.andThen_ok, invoke, run_callFunc hcall]
 | _ => rw [hfs] at hfv; cases hfv
end Go.AM

/-! A15 -/
namespace Go.AM
section
variable {P : Program} {t t1 t2 : Array Value} {m m1 m2 : Mem} {e : AExit}
theorem ACd.skip : ACd P .skip t m .normal t m :=
 ⟨.refl _, fun b β w ts ds n hR hT hM hn hd hI => CR.skip ⟨rfl, hM, hd, β, hT, hR, .refl _ _ _⟩⟩
theorem ACd.label {l : Nat} : ACd P (.label l) t m .normal t m :=
 ⟨.refl _, fun b β w ts ds n hR hT hM hn hd hI => CR.label ⟨rfl, hM, hd, β, hT, hR, .refl _ _ _⟩⟩
theorem ACd.exit {id : Nat} : ACd P (.exit id) t m (.exit id) t m :=
 ⟨.refl _, fun b β w ts ds n hR hT hM hn hd hI => CR.exit ⟨rfl, hM, hd, β, hT, hR, .refl _ _ _⟩⟩
theorem ACd.ret : ACd P .ret t m .ret t m :=
 ⟨.refl _, fun b β w ts ds n hR hT hM hn hd hI => CR.ret ⟨rfl, hM, hd, β, hT, hR, .refl _ _ _⟩⟩
theorem ACd.cond {c : Operand} {x y : Code} {q : Bool} (ho : okOper P.globals.size c = true) (hc : ev t c = .bool q) (h : ACd P (if q then x else y) t m e t1 m1) : ACd P (.cond c x y) t m e t1 m1 := by
 refine ⟨h.1, fun b β w ts ds n hR hT hM hn hd hI => ?_⟩
 have hv := ev_rel hR hT ho
 rw [hc] at hv
 cases hs : ev ts c with
 | bool q' => rw [hs] at hv; cases hv; exact CR.cond hs (h.2 b β w ts ds n hR hT hM hn hd hI)
 | _ => rw [hs] at hv; cases hv
theorem ACd.seq {x y : Code} (h1 : ACd P x t m .normal t1 m1) (h2 : ACd P y t1 m1 e t2 m2) : ACd P (.seq x y) t m e t2 m2 := by
 refine ⟨h1.1.trans h2.1, fun b β w ts ds n hR hT hM hn hd hI => ?_⟩
 refine CR.seq ((h1.2 b β w ts ds n hR hT hM hn hd hI).mono ?_)
 rintro e1 ts1 ds1 w1 ⟨rfl, hM1, hd1, β1, hT1, hR1, hS1⟩
 refine (h2.2 b β1 w1 ts1 ds1 n hR1 hT1 hM1 (Nat.le_trans hn hS1.wsz) hd1 (hI.next h1.1 hS1)).mono ?_
 rintro e2 ts2 ds2 w2 ⟨rfl, hM2, hd2, β2, hT2, hR2, hS2⟩
 exact ⟨rfl, hM2, hd2, β2, hT2, hR2, hS1.trans hS2⟩
theorem ACd.seq_out {x y : Code} (he : e ≠ .normal) (h1 : ACd P x t m e t1 m1) : ACd P (.seq x y) t m e t1 m1 := by
 refine ⟨h1.1, fun b β w ts ds n hR hT hM hn hd hI => ?_⟩
 refine CR.seq ((h1.2 b β w ts ds n hR hT hM hn hd hI).mono ?_)
 rintro e1 ts1 ds1 w1 ⟨rfl, h⟩
 cases e1 with
 | normal => exact absurd rfl he
 | exit id => exact ⟨rfl, h⟩
 | ret => exact ⟨rfl, h⟩
theorem ACd.block {id : Nat} {x : Code} (h1 : ACd P x t m e t1 m1) : ACd P (.block id x) t m (if e = .exit id then .normal else e) t1 m1 := by
 refine ⟨h1.1, fun b β w ts ds n hR hT hM hn hd hI => ?_⟩
 refine CR.block ((h1.2 b β w ts ds n hR hT hM hn hd hI).mono ?_)
 rintro e1 ts1 ds1 w1 ⟨rfl, h⟩
 cases e1 with
 | normal => exact ⟨by simp, h⟩
 | exit j =>
  by_cases hj : j = id
  ·subst hj; simp only [if_true]; exact ⟨by simp, h⟩
  ·simp only [hj, if_false]; exact ⟨by simp [hj], h⟩
 | ret => exact ⟨by simp, h⟩
theorem ACd.scope {x : Code} (h1 : ACd P x t m e t1 m1) : ACd P (.scope x) t m e t1 m1 :=
 ⟨h1.1, fun b β w ts ds n hR hT hM hn hd hI => CR.scope (h1.2 b β w ts ds n hR hT hM hn hd hI)⟩
theorem ACd.loop {x : Code} (h1 : ACd P x t m .normal t1 m1) (h2 : ACd P (.loop x) t1 m1 e t2 m2) : ACd P (.loop x) t m e t2 m2 := by
 refine ⟨h1.1.trans h2.1, fun b β w ts ds n hR hT hM hn hd hI => ?_⟩
 refine CR.loop ((h1.2 b β w ts ds n hR hT hM hn hd hI).mono ?_)
 rintro e1 ts1 ds1 w1 ⟨rfl, hM1, hd1, β1, hT1, hR1, hS1⟩
 refine (h2.2 b β1 w1 ts1 ds1 n hR1 hT1 hM1 (Nat.le_trans hn hS1.wsz) hd1 (hI.next h1.1 hS1)).mono ?_
 rintro e2 ts2 ds2 w2 ⟨rfl, hM2, hd2, β2, hT2, hR2, hS2⟩
 exact ⟨rfl, hM2, hd2, β2, hT2, hR2, hS1.trans hS2⟩
theorem ACd.loop_out {x : Code} (he : e ≠ .normal) (h1 : ACd P x t m e t1 m1) : ACd P (.loop x) t m e t1 m1 := by
 refine ⟨h1.1, fun b β w ts ds n hR hT hM hn hd hI => ?_⟩
 refine CR.loop ((h1.2 b β w ts ds n hR hT hM hn hd hI).mono ?_)
 rintro e1 ts1 ds1 w1 ⟨rfl, h⟩
 cases e1 with
 | normal => exact absurd rfl he
 | exit id => exact ⟨rfl, h⟩
 | ret => exact ⟨rfl, h⟩
end
/-! ### Regions -/
def awanted (ops : Array Oper) (t : Array Value) (o : Oper) : Bool := Region.wanted o (yielded ops t)
/-- Operations one after the other. -/
inductive ARow (P : Program) (ops : Array Oper) : List Nat → Array Value → Mem → Array Value → Mem → Prop
  | nil (t : Array Value) (m : Mem) : ARow P ops [] t m t m
  | op {i : Nat} {l : List Nat} {o : Oper} {t t' : Array Value} {m m1 m' : Mem} {v : Value} (ho : ops[i]? = some o) (hw : awanted ops t o = true) (h : AOp P o t m v m1) (hr : ARow P ops l (put t o.dst v) m1 t' m') : ARow P ops (i :: l) t m t' m'
  | off {i : Nat} {l : List Nat} {o : Oper} {t t' : Array Value} {m m' : Mem} (ho : ops[i]? = some o) (hw : awanted ops t o = false) (hr : ARow P ops l (put t o.dst Go.undef) m t' m') : ARow P ops (i :: l) t m t' m'
theorem yielded_rel {β : Beta} {N : Nat} {ops : Array Oper} {t ts : Array Value} (hT : ARel β N t ts) (j : Nat) : yielded ops ts j = yielded ops t j := by
 unfold yielded
 cases h : (ops[j]?).bind (·.dst) with
 | none => rfl
 | some d =>
  simp only [Option.bind_some]
  cases e : t[d]? with
  | none =>
   have : ts[d]? = none := Array.getElem?_eq_none_iff.2 (by rw [← hT.1]; exact Array.getElem?_eq_none_iff.1 e)
   rw [this]
  | some v =>
   obtain ⟨v', e', hv⟩ := hT.get e
   rw [e']
   cases hv <;> rfl
theorem wanted_rel {β : Beta} {N : Nat} {ops : Array Oper} {t ts : Array Value} (hT : ARel β N t ts) (o : Oper) : Region.wanted o (yielded ops ts) = awanted ops t o := by
 unfold awanted
 have : yielded ops ts = yielded ops t := funext (yielded_rel hT)
 rw [this]
theorem ARow.loops {P : Program} {ops : Array Oper} {l : List Nat} {t t' : Array Value} {m m' : Mem} (h : ARow P ops l t m t' m') : LoopsIn m m' := by
 induction h with
 | nil => exact .refl _
 | op _ _ h _ ih => exact h.1.trans ih
 | off _ _ _ ih => exact ih
theorem RR.mono {P : Program} {b : FB} {ops : Array Oper} {ds : List Deferred} : ∀ (l : List Nat) (ts : Array Value) (w : World) (Q Q' : Array Value → World → Prop), (∀ ts w, Q ts w → Q' ts w) → RR P b ops ds Q l ts w → RR P b ops ds Q' l ts w
 | [], ts, w, Q, Q', hq, h => hq _ _ h
 | i :: l, ts, w, Q, Q', hq, h => by
  simp only [RR] at h ⊢
  cases ho : ops[i]? with
  | none => rw [ho] at h; exact RR.mono l _ _ _ _ hq h
  | some o =>
   rw [ho] at h
   simp only at h ⊢
   split at h
   ·rename_i hc
    rw [if_pos hc]
    intro ops' i' rest k cs ho' hw'
    obtain ⟨v', w1, hr, s⟩ := h ops' i' rest k cs ho' hw'
    exact ⟨v', w1, RR.mono l _ _ _ _ hq hr, s⟩
   ·rename_i hc
    rw [if_neg hc]
    exact RR.mono l _ _ _ _ hq h
theorem ARow.sound {P : Program} {ops : Array Oper} {b : FB} {ds : List Deferred} {l : List Nat} {t t' : Array Value} {m m' : Mem} (h : ARow P ops l t m t' m') :
  ∀ (β : Beta) (w : World) (ts : Array Value), Rel P β m w → ARel β m.size t ts →
   RR P b ops ds (fun ts' w' => ∃ β', ARel β' m'.size t' ts' ∧ Rel P β' m' w' ∧ Stp β m w β' m' w') l ts w := by
 induction h with
 | nil t m => exact fun β w ts hR hT => ⟨β, hT, hR, .refl _ _ _⟩
 | @op i l o t t' m m1 m' v ho hw h hr ih =>
  intro β w ts hR hT
  simp only [RR, ho, wanted_rel hT, hw, if_true]
  intro ops' i' rest k cs ho' hw'
  obtain ⟨v', w1, ⟨β1, hv1, hR1, hS1⟩, s⟩ := h.2 b β w ts ds hR hT ops' i' rest k cs ho' hw'
  refine ⟨v', w1, ?_, s⟩
  have hT1 : ARel β1 m1.size (put t o.dst v) (put ts o.dst v') := (hT.mono hS1.agree hS1.msz).put _ hv1
  refine RR.mono _ _ _ _ _ ?_ (ih β1 w1 _ hR1 hT1)
  rintro ts2 w2 ⟨β2, hT2, hR2, hS2⟩
  exact ⟨β2, hT2, hR2, hS1.trans hS2⟩
 | @off i l o t t' m m' ho hw hr ih =>
  intro β w ts hR hT
  simp only [RR, ho, wanted_rel hT, hw, Bool.false_eq_true, if_false]
  exact ih β w _ hR (hT.put _ (.undef _ _))
theorem ACd.region {P : Program} {id : Nat} {ops : Array Oper} {t t' : Array Value} {m m' : Mem} (h : ARow P ops (List.range ops.size) t m t' m') : ACd P (.region id ops false) t m .normal t' m' := by
 refine ⟨h.loops, fun b β w ts ds n hR hT hM hn hd hI => ?_⟩
 intro k cs
 obtain ⟨ts', w', ⟨β', hT', hR', hS'⟩, s⟩ := RR.steps _ _ _ (h.sound (b := b) (ds := ds) β w ts hR hT) k cs
 exact ⟨.normal, ts', ds, w', ⟨rfl, hM.stp hR hS', hd, β', hT', hR', hS'⟩, (Steps.one st_region).trans s⟩
/-- A region that draws its order: it has to come to the same in every order. -/
theorem ACd.region_draw {P : Program} {id : Nat} {ops : Array Oper} {t t' : Array Value} {m m' : Mem} (h : ∀ q, ARow P ops (Region.schedule (P.follows .mixedOrders) ops q) t m t' m') : ACd P (.region id ops true) t m .normal t' m' := by
 refine ⟨(h 0).loops, fun b β w ts ds n hR hT hM hn hd hI => ?_⟩
 intro k cs
 have hdr : ({ w with drawn := w.drawn + 1 } : World).heap = w.heap := rfl
 obtain ⟨ts', w', ⟨β', hT', hR', hS'⟩, s⟩ := RR.steps _ _ _ ((h (w.tape w.drawn (.order b.fn id))).sound (b := b) (ds := ds) β { w with drawn := w.drawn + 1 } ts (hR.drew hdr) hT) k cs
 have hS2 : Stp β m w β' m' w' := (Stp.drew (w' := { w with drawn := w.drawn + 1 }) hdr rfl rfl rfl).trans hS'
 exact ⟨.normal, ts', ds, w', ⟨rfl, hM.stp hR hS2, hd, β', hT', hR', hS2⟩, (Steps.one st_region_draw).trans s⟩
/-! ### Functions -/
def aResult (P : Program) (m : Mem) (t : Array Value) : ResultVar → Option Value
  | .tmp i => some (t.getD i Go.undef)
  | .cell a ty => aLoad P m ty (t.getD a Go.undef)
def aResults (P : Program) (m : Mem) (t : Array Value) : List ResultVar → Option (List Value)
  | [] => some []
  | r :: rs => match aResult P m t r, aResults P m t rs with
    | some v, some vs => some (v :: vs)
    | _, _ => none
def oneOf (vs : List Value) : Value :=
  match vs with
  | [v] => v
  | vs => .tuple vs.toArray
def resSem (ts : Array Value) : ResultVar → Sem Value
  | .tmp t => Pure.pure (ts.getD t Go.undef)
  | .cell a t => do loadVar t (← asAddr (ts.getD a Go.undef))
theorem results_eq (fn : Func) (ts : Array Value) : results fn ts = (do
  let vs ← fn.results.mapM (resSem ts)
  pure (if h : vs.size = 1 then vs[0] else .tuple vs)) := by
 unfold results
 congr 1
theorem aResults_sound {P : Program} {β : Beta} {m : Mem} {w : World} {t ts : Array Value} (hR : Rel P β m w) (hT : ARel β m.size t ts) : ∀ (rs : List ResultVar) (vs : List Value), aResults P m t rs = some vs →
  ∃ vs', (rs.mapM (resSem ts)).run P w = .ok vs' w ∧ vs.length = vs'.length ∧
   ∀ (i : Nat) v v', vs[i]? = some v → vs'[i]? = some v' → VRel β m.size v v'
 | [], vs, h => by
  injection h with h; subst h
  exact ⟨[], rfl, rfl, fun i v v' e => by simp at e⟩
 | r :: rs, vs, h => by
  unfold aResults at h
  cases e1 : aResult P m t r with
  | none => rw [e1] at h; cases h
  | some v =>
   cases e2 : aResults P m t rs with
   | none => rw [e1, e2] at h; cases h
   | some vr =>
    rw [e1, e2] at h; injection h with h; subst h
    obtain ⟨vr', hr, hl, hv⟩ := aResults_sound hR hT rs vr e2
    have one : ∃ v', (resSem ts r).run P w = .ok v' w ∧ VRel β m.size v v' := by
     cases r with
     | tmp i => injection e1 with e1; subst e1; exact ⟨_, rfl, hT.getD i⟩
     | cell a ty =>
      have hx := hT.getD a
      obtain ⟨v', hr', hv'⟩ := aLoad_sound hR hx e1
      refine ⟨v', ?_, hv'⟩
      have hs : ∀ q, (Instr.loadAt ty q).run P w = .ok v' w → (do loadVar ty (← asAddr q) : Sem Value).run P w = .ok v' w := by
       intro q hq
       cases q with
       | pointer o =>
        cases o with
        | none => simp [Instr.loadAt, Instr.sureAddr] at hq
        | some a => simpa [Instr.loadAt, Instr.sureAddr, asAddr] using hq
       | _ => simp [Instr.loadAt, Instr.sureAddr] at hq
      exact hs _ hr'
    obtain ⟨v', hr1, hv1⟩ := one
    refine ⟨v' :: vr', ?_, by simp [hl], fun i x x' e e' => ?_⟩
    ·rw [List.mapM_cons, Sem.run_bind, hr1]
     simp only [Result.andThen_ok, Sem.run_bind, hr, Sem.run_pure]
    ·cases i with
     | zero => simp at e e'; subst e; subst e'; exact hv1
     | succ i => exact hv i x x' (by simpa using e) (by simpa using e')
theorem results_sound {P : Program} {β : Beta} {m : Mem} {w : World} {fn : Func} {t ts : Array Value} {vs : List Value} (hR : Rel P β m w) (hT : ARel β m.size t ts) (h : aResults P m t fn.results.toList = some vs) :
  ∃ v', (results fn ts).run P w = .ok v' w ∧ VRel β m.size (oneOf vs) v' := by
 obtain ⟨vs', hr, hl, hv⟩ := aResults_sound hR hT _ vs h
 have hm : (fn.results.mapM (resSem ts)).run P w = .ok vs'.toArray w := by
  rw [Array.mapM_eq_mapM_toList, Sem.run_map, hr]; rfl
 refine ⟨if h : vs'.toArray.size = 1 then vs'.toArray[0] else .tuple vs'.toArray, ?_, ?_⟩
 ·rw [results_eq, Sem.run_bind, hm]; rfl
 ·unfold oneOf
  split
  ·rename_i v
   obtain ⟨v', rfl⟩ : ∃ v', vs' = [v'] := by
    cases vs' with
    | nil => simp at hl
    | cons v' r => cases r with
     | nil => exact ⟨v', rfl⟩
     | cons _ _ => simp at hl
   simp only [List.size_toArray, List.length_cons, List.length_nil, Nat.zero_add, dif_pos]
   exact hv 0 v v' rfl rfl
  ·rename_i hne
   rw [dif_neg]
   ·exact .tuple _ _ (by simpa using hl) (fun i v v' e e' => hv i v v' (by simpa using e) (by simpa using e'))
   ·intro h1
    simp only [List.size_toArray] at h1
    cases vs with
    | nil => simp at hl; omega
    | cons v r => cases r with
     | nil => exact hne v rfl
     | cons _ _ => simp at hl; omega
theorem ACalls.body {P : Program} {f : FuncId} {fn : Func} {c : Code} {args : Array Value} {m m' : Mem} {e : AExit} {t' : Array Value} {vs : List Value} (hf : P.funcs[f]? = some fn) (hb : fn.body = some c)
  (h : ACd P c (args ++ Array.replicate (fn.ntmps - args.size) Go.undef) m e t' m') (he : e = .normal ∨ e = .ret) (hr : aResults P m' t' fn.results.toList = some vs) : ACalls P f args m (oneOf vs) m' := by
 refine ⟨h.1, fun β w args' hR hA => ?_⟩
 have hT : ARel β m.size (args ++ Array.replicate (fn.ntmps - args.size) Go.undef) (args' ++ Array.replicate (fn.ntmps - args'.size) Go.undef) := by
  rw [← hA.1]; exact hA.append (ARel.replicate _ (.undef _ _))
 refine calls_of_CR hf hb ((h.2 ⟨f, .normal, none⟩ β w _ [] w.heap.size hR hT ⟨[], rfl, by simp, by simp⟩ (Nat.le_refl _) (fun _ => rfl) (fun l hl => by cases hl)).mono ?_)
 rintro e' ts' ds' w' ⟨rfl, ⟨rs, h1, h2, h3⟩, _, β', hT', hR', hS'⟩
 have hrs : ∀ r ∈ rs, w'.heap[r]? = some (.deferred (some [])) := fun r hr => (h3 r hr).2
 have hRp := hR'.popped hrs
 have hSp := hS'.popped (fun r hr => (h3 r hr).1)
 obtain ⟨v', hv', hvr⟩ := results_sound (fn := fn) hRp hT' hr
 rcases he with rfl | rfl
 ·exact ⟨rs, h1, h2, hrs, v', hv', β', hvr, hRp, hSp⟩
 ·exact ⟨rs, h1, h2, hrs, v', hv', β', hvr, hRp, hSp⟩
end Go.AM

/-! A16 -/
namespace Go.AM
def setParams (t : Array Value) (ps : Array Tmp) (args : Array Value) : Array Value :=
  (ps.zip args).foldl (fun t (p, a) => t.setIfInBounds p a) t
theorem setParams_rel {β : Beta} {N : Nat} {t ts : Array Value} {ps : Array Tmp} {args args' : Array Value} (hT : ARel β N t ts) (hA : ARel β N args args') : ARel β N (setParams t ps args) (setParams ts ps args') := by
 unfold setParams
 rw [← Array.foldl_toList, ← Array.foldl_toList, Array.toList_zip, Array.toList_zip]
 have key : ∀ (ps : List Tmp) (l l' : List Value) (t ts : Array Value), l.length = l'.length → (∀ (i : Nat) v v', l[i]? = some v → l'[i]? = some v' → VRel β N v v') → ARel β N t ts →
   ARel β N ((ps.zip l).foldl (fun t (p, a) => t.setIfInBounds p a) t) ((ps.zip l').foldl (fun t (p, a) => t.setIfInBounds p a) ts) := by
  intro ps
  induction ps with
  | nil => intro l l' t ts _ _ h; simpa using h
  | cons p ps ih =>
   intro l l' t ts hl hv h
   cases l with
   | nil => cases l' with
    | nil => simpa using h
    | cons _ _ => simp at hl
   | cons x l => cases l' with
    | nil => simp at hl
    | cons x' l' =>
     simp only [List.zip_cons_cons, List.foldl_cons]
     exact ih l l' _ _ (by simpa using hl) (fun i v v' e e' => hv (i + 1) v v' (by simpa using e) (by simpa using e')) (h.set p (hv 0 x x' rfl rfl))
 exact key ps.toList args.toList args'.toList t ts (by simpa using hA.1) (fun i v v' e e' => hA.2 i v v' (by simpa using e) (by simpa using e')) hT
def ARound (P : Program) (l : Nat) (args : Array Value) (m : Mem) (v : Value) (m' : Mem) : Prop :=
  ∃ L t2 m2 L2 e t4 m4 L4, Mem.get m l = .loop L ∧ args.size = L.params.size ∧
    ACd P L.assign (setParams L.tmps L.params args) m .normal t2 m2 ∧ Mem.get m2 l = .loop L2 ∧ L2.state = .ready ∧
    ACd P L.body t2 (m2.setIfInBounds l (.loop { L2 with state := .busy })) e t4 m4 ∧ Mem.get m4 l = .loop L4 ∧
    m' = m4.setIfInBounds l (.loop { L4 with state := if e.jump.isNone then .ready else .done, pending := e.jump }) ∧ v = .bool e.jump.isNone
theorem isLoop_of {m : Mem} {l : Nat} {L : ALoop} (h : Mem.get m l = .loop L) : (Mem.get m l).isLoop = true := by rw [h]; rfl
theorem ARound.loops {P : Program} {l : Nat} {args : Array Value} {m m' : Mem} {v : Value} (h : ARound P l args m v m') : LoopsIn m m' := by
 obtain ⟨L, t2, m2, L2, e, t4, m4, L4, _, _, h3, _, _, h6, _, rfl, _⟩ := h
 exact ((h3.1.trans (LoopsIn.set (fun _ => rfl))).trans h6.1).trans (LoopsIn.set (fun _ => rfl))
theorem Rel.setLoop {P : Program} {β : Beta} {m : Mem} {w : World} (hR : Rel P β m w) {l : Nat} {L L' : ALoop} {r' : Loop} (h : Mem.get m l = .loop L)
  (h1 : r'.state = L'.state) (h2 : r'.pending = L'.pending) (h3 : r'.params = L'.params) (h4 : r'.assign = L'.assign) (h5 : r'.body = L'.body) (h6 : ARel β m.size L'.tmps r'.tmps) :
  Rel P β (m.setIfInBounds l (.loop L')) (World.putObj w (β.blk l) (.loop r')) ∧ Stp β m w β (m.setIfInBounds l (.loop L')) (World.putObj w (β.blk l) (.loop r')) :=
 hR.upd (by rw [h]; rfl) (fun c h' => by rw [h] at h'; cases h') ⟨r', rfl, h1, h2, h3, h4, h5, h6⟩
theorem AOp.yield {P : Program} {o : Oper} {c : Call} {f : Operand} {t : Array Value} {m m' : Mem} {v : Value} {l : Nat} (hc : o.op = .call c) (hf : c.callee = .value f) (ho : okOps P o.op = true)
  (hv : ev t f = .func (.yield l) #[] #[]) (h : ARound P l (c.args.map (ev t)) m v m') : AOp P o t m v m' := by
 refine ⟨h.loops, fun b β w ts ds hR hT => ?_⟩
 have hops := ops_rel hR hT ho
 have hfv : VRel β m.size (ev t f) (ev ts f) := hops f (by rw [hc]; simp [Op.operands, Call.operands, hf])
 have hA : ARel β m.size (c.args.map (ev t)) (c.args.map (ev ts)) := ARel.of_map _ (fun x hx => hops x (by rw [hc]; simp [Op.operands, Call.operands, hf, hx]))
 obtain ⟨L, t2, m2, L2, e, t4, m4, L4, hl, hsz, h3, hl2, hst, h6, hl4, rfl, rfl⟩ := h
 rw [hv] at hfv
 cases hfs : ev ts f with
 | func g' a' cap' =>
  rw [hfs] at hfv
  cases hfv with
  | yield _ hlt =>
   obtain ⟨r, hr, e1, e2, e3, e4, e5, e6⟩ := hR.loop l L hl
   have hrun : (execOp (ev ts) o).run P w = .ok (.round (β.blk l) r.fn (setParams r.tmps r.params (c.args.map (ev ts))) r.assign r.body) w := by
    obtain ⟨dst, op, ty, pos, after, guard⟩ := o
    simp only at hc; subst hc
    have hg : (Instr.getLoop (β.blk l)).run P w = .ok r w := by simp [Instr.getLoop, getObj, bind, Sem.bind, pure, Sem.run, hr]
    have hsz' : (c.args.map (ev ts)).size = r.params.size := by rw [e3, ← hsz]; exact hA.1.symm
    have hsz2 : ¬ ((#[] ++ c.args.map (ev ts)).size ≠ r.params.size) := by simpa using hsz'
    simp only [execOp, resolve, hf, hfs, Deferred.ofValue, Sem.run_bind, Sem.run_pure, Result.andThen_ok, invoke, Instr.yield, hg]
    rw [if_neg hsz2]
    simp [setParams]
   refine OR.round (by rw [hc]; rfl) hrun ?_
   refine runs_round ?_
   have hTT : ARel β m.size (setParams L.tmps L.params (c.args.map (ev t))) (setParams r.tmps r.params (c.args.map (ev ts))) := by
    rw [e3]; exact setParams_rel e6 hA
   have hin : InRound ⟨r.fn, .normal, some (β.blk l)⟩ β m := fun l' hl' => by cases hl'; exact ⟨l, isLoop_of hl, rfl⟩
   rw [e4]
   refine (h3.2 ⟨r.fn, .normal, some (β.blk l)⟩ β w _ [] w.heap.size hR hTT ⟨[], rfl, by simp, by simp⟩ (Nat.le_refl _) (fun _ => rfl) hin).mono ?_
   rintro e0 ts2 ds2 w2 ⟨rfl, hM2, hd2, β2, hT2, hR2, hS2⟩
   refine ⟨rfl, hd2 (by simp), ?_⟩
   have hb2 : β2.blk l = β.blk l := hS2.agree.blk l hlt
   obtain ⟨r2, hr2, f1, f2, f3, f4, f5, f6⟩ := hR2.loop l L2 hl2
   refine ⟨r2, by rw [← hb2]; exact hr2, by rw [f1]; exact hst, ?_⟩
   obtain ⟨hR3, hS3⟩ := hR2.setLoop (L' := { L2 with state := .busy }) (r' := { r2 with state := .busy }) hl2 rfl f2 f3 f4 f5 f6
   rw [hb2] at hR3 hS3
   have hlt2 : l < m2.size := Mem.lt_of_live (by rw [hl2]; rfl)
   have hin3 : InRound ⟨r.fn, .normal, some (β.blk l)⟩ β2 (m2.setIfInBounds l (.loop { L2 with state := .busy })) := fun l' hl' => by
    cases hl'
    refine ⟨l, ?_, hb2⟩
    rw [get_set, if_pos ⟨rfl, hlt2⟩]; rfl
   rw [e5]
   refine (h6.2 ⟨r.fn, .normal, some (β.blk l)⟩ β2 _ ts2 [] w2.heap.size hR3 (by simpa using hT2) ⟨[], rfl, by simp, by simp⟩ (by simp [World.putObj]) (fun _ => rfl) hin3).mono ?_
   rintro e9 ts4 ds4 w4 ⟨rfl, hM4, hd4, β4, hT4, hR4, hS4⟩
   refine ⟨hd4 (by simp), ?_⟩
   have hb4 : β4.blk l = β.blk l := by rw [hS4.agree.blk l (by simpa using hlt2)]; exact hb2
   obtain ⟨r4, hr4, g1, g2, g3, g4, g5, g6⟩ := hR4.loop l L4 hl4
   refine ⟨r4, by rw [← hb4]; exact hr4, ?_⟩
   obtain ⟨hR5, hS5⟩ := hR4.setLoop (L' := { L4 with state := if e9.jump.isNone then .ready else .done, pending := e9.jump }) (r' := { r4 with state := if e9.jump.isNone then .ready else .done, pending := e9.jump }) hl4 rfl rfl g3 g4 g5 g6
   rw [hb4] at hR5 hS5
   exact ⟨β4, .bool _, hR5, hS2.trans (hS3.trans (hS4.trans hS5))⟩
 | _ => rw [hfs] at hfv; cases hfv
theorem ACd.rangeFunc {P : Program} {f : Operand} {params : Array Tmp} {as bd : Code} {t : Array Value} {m m2 : Mem} {g : FuncId} {a cap : Array Value} {v : Value} {L : ALoop} {e : AExit}
  (ho : okOper P.globals.size f = true) (hv : ev t f = .func (.func g) a cap) (hcall : callable P g = true)
  (h : ACalls P g (a ++ #[.func (.yield m.size) #[] #[]] ++ cap) (m.push (.loop { state := .ready, pending := none, tmps := t, params, assign := as, body := bd })) v m2)
  (hL : Mem.get m2 m.size = .loop L) (hs : L.state ≠ .busy) (hp : L.pending = e.jump) : ACd P (.rangeFunc f params as bd) t m e t (m2.setIfInBounds m.size .dead) := by
 have hloops : LoopsIn m (m2.setIfInBounds m.size .dead) := by
  intro i hi
  have hlt : i < m.size := by
   refine Mem.lt_of_live ?_
   cases hh : Mem.get m i <;> rw [hh] at hi <;> first | rfl | cases hi
  rw [get_set, if_neg (by omega)]
  exact h.1 i (LoopsIn.push m _ i hi)
 refine ⟨hloops, fun b β w ts ds n hR hT hM hn hd hI => ?_⟩
 have hfv := ev_rel hR hT ho
 rw [hv] at hfv
 cases hfs : ev ts f with
 | func g' a' cap' =>
  rw [hfs] at hfv
  cases hfv with
  | func _ _ _ _ _ h1 h2 h3 h4 =>
   obtain ⟨D, mark, w1, hrun, hcase⟩ := run_enterLoop (P := P) (w := w) b.fn ts params as bd b.roundOf (fun l hl => by
    obtain ⟨x, hx1, hx2⟩ := hI l hl
    cases hh : Mem.get m x with
    | loop L' => obtain ⟨r, hr, _⟩ := hR.loop x L' hh; exact ⟨r, by rw [← hx2]; exact hr⟩
    | _ => rw [hh] at hx1; cases hx1)

   have hw1 : Rel P β m w1 ∧ Stp β m w β m w1 ∧ MarksFrom n (mark ++ ds) w1 ∧ (b.roundOf ≠ none → mark ++ ds = []) := by
    rcases hcase with ⟨hnone, rfl, rfl⟩ | ⟨hsome, rfl, rfl⟩
    ·refine ⟨⟨hR.gsz, hR.glob, fun i hi => ?_, hR.inj⟩, ⟨Nat.le_refl _, by simp, .refl _ _, fun i hi => .inr ⟨i, hi, rfl⟩, fun i hi _ => by rw [Array.getElem?_push_lt hi, Array.getElem?_eq_getElem hi], rfl, rfl, rfl, fun i hi => .inr ⟨i, hi, rfl⟩⟩, ?_, fun h => absurd hnone h⟩
     ·obtain ⟨O, o1, o2⟩ := hR.obj i hi
      refine ⟨O, ?_, o2⟩
      have hlt := (Array.getElem?_eq_some_iff.1 o1).1
      rw [Array.getElem?_push_lt hlt, ← o1, Array.getElem?_eq_getElem hlt]
     ·obtain ⟨rs, q1, q2, q3⟩ := hM
      refine ⟨w.heap.size :: rs, by rw [q1]; rfl, List.nodup_cons.2 ⟨fun hm => ?_, q2⟩, fun r hr => ?_⟩
      ·have := (Array.getElem?_eq_some_iff.1 (q3 _ hm).2).1; omega
      ·rcases List.mem_cons.1 hr with rfl | hr
       ·exact ⟨hn, by simp⟩
       ·refine ⟨(q3 r hr).1, ?_⟩
        have := (q3 r hr).2
        have hlt := (Array.getElem?_eq_some_iff.1 this).1
        rw [Array.getElem?_push_lt hlt, ← this, Array.getElem?_eq_getElem hlt]
    ·exact ⟨hR, .refl _ _ _, by simpa using hM, fun h => by simpa using hd h⟩
   obtain ⟨hR1, hS1, hM1, hd1⟩ := hw1

   obtain ⟨hR2, hS2⟩ := hR1.push (o := .loop { state := .ready, pending := none, tmps := t, params, assign := as, body := bd }) (O := .loop { state := .ready, pending := none, fn := b.fn, tmps := ts, params, assign := as, body := bd, defers := D }) (cap := 0)
    ⟨_, rfl, rfl, rfl, rfl, rfl, rfl, hT.mono (Beta.ext_agree _ _ _ _) (by omega)⟩
   have hag := Beta.ext_agree β m.size w1.heap.size 0
   have hargs : ARel (β.ext m.size w1.heap.size 0) (m.push (.loop { state := .ready, pending := none, tmps := t, params, assign := as, body := bd })).size (a ++ #[.func (.yield m.size) #[] #[]] ++ cap) (a' ++ #[.func (.yield w1.heap.size) #[] #[]] ++ cap') := by
    have q1 : ARel β m.size a a' := ⟨h1, h2⟩
    have q2 : ARel β m.size cap cap' := ⟨h3, h4⟩
    have hle : m.size ≤ (m.push (.loop { state := .ready, pending := none, tmps := t, params, assign := as, body := bd })).size := by simp
    have one : ARel (β.ext m.size w1.heap.size 0) (m.push (.loop { state := .ready, pending := none, tmps := t, params, assign := as, body := bd })).size #[.func (.yield m.size) #[] #[]] #[.func (.yield w1.heap.size) #[] #[]] := by
     refine ⟨rfl, fun i x x' ex ex' => ?_⟩
     cases i with
     | zero =>
      simp at ex ex'; subst ex; subst ex'
      have := VRel.yield (β := β.ext m.size w1.heap.size 0) (N := (m.push (.loop { state := .ready, pending := none, tmps := t, params, assign := as, body := bd })).size) m.size (by simp)
      simpa [Beta.ext] using this
     | succ i => simp at ex
    exact ((q1.mono hag hle).append one).append (q2.mono hag hle)
   refine CR.rangeFunc (g := g) (args := a' ++ #[.func (.yield w1.heap.size) #[] #[]] ++ cap') (w2 := World.pushObj w1 (.loop { state := .ready, pending := none, fn := b.fn, tmps := ts, params, assign := as, body := bd, defers := D })) hrun ?_ ?_
   ·simp only [callYield, hfs, Deferred.ofValue, Sem.run_bind, Sem.run_pure, Result.andThen_ok, invoke]
    exact run_callFunc hcall
   ·refine (Runs.of_calls (h.2 _ _ _ hR2 hargs)).mono ?_
    rintro v' w3 ⟨β3, hv3, hR3, hS3⟩
    obtain ⟨r, hr, e1, e2, _⟩ := hR3.loop m.size L hL
    have hb3 : β3.blk m.size = w1.heap.size := by
     rw [hS3.agree.blk m.size (by simp)]; simp [Beta.ext]
    rw [hb3] at hr
    refine ⟨r, e, hr, by rw [e1]; exact hs, by rw [e2]; exact hp, rfl, ?_⟩
    obtain ⟨hR4, hS4⟩ := hR3.upd (b := m.size) (by rw [hL]; rfl) (fun c h' => by rw [hL] at h'; cases h') (o := .dead) (O := .loop { r with state := .exhausted }) trivial
    rw [hb3] at hR4 hS4
    have hSS : Stp β m w1 β3 (m2.setIfInBounds m.size .dead) (World.putObj w3 w1.heap.size (.loop { r with state := .exhausted })) := hS2.trans (hS3.trans hS4)
    exact ⟨hM1.stp hR1 hSS, hd1, β3, hT.mono hSS.agree hSS.msz, hR4, hS1.trans hSS⟩
 | _ => rw [hfs] at hfv; cases hfv
end Go.AM

/-! A17 -/
namespace Go.AM
inductive AStep (P : Program) (op : Op) (ρ : Operand → Value) (m : Mem) (v : Value) (m' : Mem) : Prop
  | pure (h : aPure P ρ op = some v) (hm : m' = m)
  | read (h : aRead P m ρ op = some v) (hm : m' = m)
  | eff (h : aEff P m ρ op = some (v, m'))
  | call (c : Call) (f : Operand) (g : FuncId) (a cap : Array Value) (hc : op = .call c) (hf : c.callee = .value f) (hv : ρ f = .func (.func g) a cap) (hk : callable P g = true)
      (h : ACalls P g (a ++ c.args.map ρ ++ cap) m v m')
  | yield (c : Call) (f : Operand) (l : Nat) (hc : op = .call c) (hf : c.callee = .value f) (hv : ρ f = .func (.yield l) #[] #[]) (h : ARound P l (c.args.map ρ) m v m')
theorem noDefer_pure {P : Program} {ρ : Operand → Value} {op : Op} {v : Value} (h : aPure P ρ op = some v) : noDefer op = true := by
 cases op <;> first | rfl | (simp [aPure] at h)
theorem noDefer_read {P : Program} {m : Mem} {ρ : Operand → Value} {op : Op} {v : Value} (h : aRead P m ρ op = some v) : noDefer op = true := by
 cases op <;> first | rfl | (simp [aRead] at h)
theorem noDefer_eff {P : Program} {m : Mem} {ρ : Operand → Value} {op : Op} {v : Value × Mem} (h : aEff P m ρ op = some v) : noDefer op = true := by
 cases op <;> first | rfl | (simp [aEff] at h)
theorem AStep.aop {P : Program} {o : Oper} {t : Array Value} {m m' : Mem} {v : Value} (ho : okOps P o.op = true) (h : AStep P o.op (ev t) m v m') : AOp P o t m v m' := by
 cases h with
 | pure h hm => subst hm; exact AOp.pure (noDefer_pure h) ho h
 | read h hm => subst hm; exact AOp.read (noDefer_read h) ho h
 | eff h => exact AOp.eff (noDefer_eff h) ho h
 | call c f g a cap hc hf hv hk h => exact AOp.call hc hf ho hv hk h
 | yield c f l hc hf hv h => exact AOp.yield hc hf ho hv h
theorem map_congr_ops {ρ ρ' : Operand → Value} (l : Array Operand) (h : ∀ x ∈ l, ρ x = ρ' x) : l.map ρ = l.map ρ' := Array.map_congr_left h
theorem map_congr_list {ρ ρ' : Operand → Value} (l : List Operand) (h : ∀ x ∈ l, ρ x = ρ' x) : l.map ρ = l.map ρ' := List.map_congr_left h
theorem map_congr_parts {ρ ρ' : Operand → Value} (l : List (Nat × Operand)) (h : ∀ p ∈ l, ρ p.2 = ρ' p.2) : (l.map fun p => (p.1, ρ p.2)) = (l.map fun p => (p.1, ρ' p.2)) :=
 List.map_congr_left (fun p hp => by rw [h p hp])
theorem map_congr_opt {ρ ρ' : Operand → Value} (l : Option Operand) (h : ∀ x, l = some x → ρ x = ρ' x) : l.map ρ = l.map ρ' := by
 cases l with
 | none => rfl
 | some x => simp [h x rfl]
theorem aPure_congr {P : Program} {ρ ρ' : Operand → Value} {op : Op} (h : ∀ x ∈ op.operands, ρ x = ρ' x) : aPure P ρ op = aPure P ρ' op := by
 cases op with
 | move x => simp only [aPure]; rw [h x (by simp [Op.operands])]
 | assign x => simp only [aPure]; rw [h x (by simp [Op.operands])]
 | pick c a b => simp only [aPure]; rw [h c (by simp [Op.operands]), h a (by simp [Op.operands]), h b (by simp [Op.operands])]
 | nilCheck x => simp only [aPure]; rw [h x (by simp [Op.operands])]
 | binOp op t x y yt => simp only [aPure]; rw [h x (by simp [Op.operands]), h y (by simp [Op.operands])]
 | unOp op t x => simp only [aPure]; rw [h x (by simp [Op.operands])]
 | convert s d x => simp only [aPure]; rw [h x (by simp [Op.operands])]
 | makeInterface t x => simp only [aPure]; rw [h x (by simp [Op.operands])]
 | makeFunc fn a c =>
  cases fn with
  | func f =>
   simp only [aPure]
   rw [map_congr_ops a (fun x hx => h x (by simp [Op.operands, hx])), map_congr_ops c (fun x hx => h x (by simp [Op.operands, hx]))]
  | _ => rfl
 | fieldAddr s x f => simp only [aPure]; rw [h x (by simp [Op.operands])]
 | field t x f => simp only [aPure]; rw [h x (by simp [Op.operands])]
 | indexAddr t x i => simp only [aPure]; rw [h x (by simp [Op.operands]), h i (by simp [Op.operands])]
 | index t x i => simp only [aPure]; rw [h x (by simp [Op.operands]), h i (by simp [Op.operands])]
 | extract x i => simp only [aPure]; rw [h x (by simp [Op.operands])]
 | build t ps =>
  simp only [aPure]
  rw [map_congr_parts ps.toList (fun p hp => h p.2 (by simp only [Op.operands, List.mem_toArray, List.mem_map]; exact ⟨p, hp, rfl⟩))]
 | call c =>
  obtain ⟨callee, ⟨args⟩, ⟨ts⟩⟩ := c
  have ha : ∀ f, callee ≠ .value f → ∀ x ∈ args, ρ x = ρ' x := by
   intro f _ x hx
   exact h x (by cases callee <;> simp [Op.operands, Call.operands, hx])
  cases callee with
  | builtin b =>
   have hb : ∀ x ∈ args, ρ x = ρ' x := ha (.tmp 0) (by simp)
   cases b with
   | len =>
    rcases args with _ | ⟨x, _ | ⟨y, l⟩⟩ <;> rcases ts with _ | ⟨t, _ | ⟨u, r⟩⟩ <;> first
     | rfl
     | (simp only [aPure]; rw [hb x (by simp)])
   | max =>
    rcases args with _ | ⟨x, l⟩ <;> first
     | rfl
     | (simp only [aPure]; rw [hb x (by simp), map_congr_list l (fun y hy => hb y (by simp [hy]))])
   | min =>
    rcases args with _ | ⟨x, l⟩ <;> first
     | rfl
     | (simp only [aPure]; rw [hb x (by simp), map_congr_list l (fun y hy => hb y (by simp [hy]))])
   | _ => rfl
  | _ => rfl
 | _ => rfl
theorem aRead_congr {P : Program} {m : Mem} {ρ ρ' : Operand → Value} {op : Op} (h : ∀ x ∈ op.operands, ρ x = ρ' x) : aRead P m ρ op = aRead P m ρ' op := by
 cases op with
 | load t a => simp only [aRead]; rw [h a (by simp [Op.operands])]
 | slice t x lo hi mx =>
  simp only [aRead]
  rw [h x (by simp [Op.operands]), map_congr_opt lo (fun y hy => h y (by simp [Op.operands, hy])), map_congr_opt hi (fun y hy => h y (by simp [Op.operands, hy])), map_congr_opt mx (fun y hy => h y (by simp [Op.operands, hy]))]
 | lookup t x k ok => simp only [aRead]; rw [h x (by simp [Op.operands]), h k (by simp [Op.operands])]
 | call c =>
  obtain ⟨callee, ⟨args⟩, ⟨ts⟩⟩ := c
  cases callee with
  | builtin b =>
   have hb : ∀ x ∈ args, ρ x = ρ' x := fun x hx => h x (by simp [Op.operands, Call.operands, hx])
   cases b with
   | len =>
    rcases args with _ | ⟨x, _ | ⟨y, l⟩⟩ <;> rcases ts with _ | ⟨t, _ | ⟨u, r⟩⟩ <;> first
     | rfl
     | (simp only [aRead]; rw [hb x (by simp)])
   | _ => rfl
  | _ => rfl
 | _ => rfl
theorem aEff_congr {P : Program} {m : Mem} {ρ ρ' : Operand → Value} {op : Op} (h : ∀ x ∈ op.operands, ρ x = ρ' x) : aEff P m ρ op = aEff P m ρ' op := by
 cases op with
 | box e x => simp only [aEff]; rw [h x (by simp [Op.operands])]
 | buildSlice t len ps =>
  simp only [aEff]
  rw [map_congr_parts ps.toList (fun p hp => h p.2 (by simp only [Op.operands, List.mem_toArray, List.mem_map]; exact ⟨p, hp, rfl⟩))]
 | makeSlice t l c => simp only [aEff]; rw [h l (by simp [Op.operands]), h c (by simp [Op.operands])]
 | makeMap t r => simp only [aEff]; rw [map_congr_opt r (fun y hy => h y (by simp [Op.operands, hy]))]
 | store t a v => simp only [aEff]; rw [h a (by simp [Op.operands]), h v (by simp [Op.operands])]
 | mapUpdate t x k v => simp only [aEff]; rw [h x (by simp [Op.operands]), h k (by simp [Op.operands]), h v (by simp [Op.operands])]
 | insert t x k v => simp only [aEff]; rw [h x (by simp [Op.operands]), h k (by simp [Op.operands]), h v (by simp [Op.operands])]
 | call c =>
  obtain ⟨callee, ⟨args⟩, ⟨ts⟩⟩ := c
  cases callee with
  | builtin b =>
   have hb : ∀ x ∈ args, ρ x = ρ' x := fun x hx => h x (by simp [Op.operands, Call.operands, hx])
   cases b with
   | append =>
    rcases args with _ | ⟨x, _ | ⟨y, _ | ⟨z, l⟩⟩⟩ <;> rcases ts with _ | ⟨t, _ | ⟨u, _ | ⟨s, r⟩⟩⟩ <;> first
     | rfl
     | (simp only [aEff]; rw [hb x (by simp), hb y (by simp)])
   | copy =>
    rcases args with _ | ⟨x, _ | ⟨y, _ | ⟨z, l⟩⟩⟩ <;> rcases ts with _ | ⟨t, _ | ⟨u, _ | ⟨s, r⟩⟩⟩ <;> first
     | rfl
     | (simp only [aEff]; rw [hb x (by simp), hb y (by simp)])
   | clear =>
    rcases args with _ | ⟨x, _ | ⟨y, l⟩⟩ <;> rcases ts with _ | ⟨t, _ | ⟨u, r⟩⟩ <;> first
     | rfl
     | (simp only [aEff]; rw [hb x (by simp)])
   | cap =>
    rcases args with _ | ⟨x, _ | ⟨y, l⟩⟩ <;> rcases ts with _ | ⟨t, _ | ⟨u, r⟩⟩ <;> first
     | rfl
     | (simp only [aEff]; rw [hb x (by simp)])
   | _ => rfl
  | _ => rfl
 | _ => rfl
theorem AStep.congr {P : Program} {op : Op} {ρ ρ' : Operand → Value} {m m' : Mem} {v : Value} (h : ∀ x ∈ op.operands, ρ x = ρ' x) (hs : AStep P op ρ m v m') : AStep P op ρ' m v m' := by
 cases hs with
 | pure h1 hm => exact .pure (by rw [← aPure_congr h]; exact h1) hm
 | read h1 hm => exact .read (by rw [← aRead_congr h]; exact h1) hm
 | eff h1 => exact .eff (by rw [← aEff_congr h]; exact h1)
 | call c f g a cap hc hf hv hk h1 =>
  subst hc
  have e1 : c.args.map ρ = c.args.map ρ' := map_congr_ops _ (fun x hx => h x (by simp [Op.operands, Call.operands, hf, hx]))
  exact .call c f g a cap rfl hf (by rw [← h f (by simp [Op.operands, Call.operands, hf])]; exact hv) hk (by rw [← e1]; exact h1)
 | yield c f l hc hf hv h1 =>
  subst hc
  have e1 : c.args.map ρ = c.args.map ρ' := map_congr_ops _ (fun x hx => h x (by simp [Op.operands, Call.operands, hf, hx]))
  exact .yield c f l rfl hf (by rw [← h f (by simp [Op.operands, Call.operands, hf])]; exact hv) (by rw [← e1]; exact h1)
end Go.AM

/-! A18 -/
namespace Go.AM
def waitsOf (W : Array Nat) (o : Oper) : Nat := o.after.foldl (fun s e => if Region.binds .any e then s ||| 2 ^ e.on ||| W.getD e.on 0 else s) 0
def okW (ops : Array Oper) (W : Array Nat) : Bool :=
  (List.range ops.size).all fun i => match ops[i]? with
    | some o => W.getD i 0 == waitsOf W o && o.after.all (fun e => !Region.binds .any e || decide (e.on < i))
    | none => false
def tmpsOf (xs : List Operand) : List Tmp := xs.filterMap fun | .tmp t => some t | _ => none
def slotsOf (ops : Array Oper) (o : Oper) : List Tmp :=
  tmpsOf o.op.operands.toList ++ (match o.guard with
    | some (g, _) => ((ops[g]?).bind (·.dst)).toList
    | none => [])
def dstOf (ops : Array Oper) (i : Nat) : Option Tmp := (ops[i]?).bind (·.dst)
def okSlots (ops : Array Oper) (W : Array Nat) : Bool :=
  (List.range ops.size).all fun i => (List.range ops.size).all fun j =>
    i == j || (match ops[i]?, dstOf ops j with
      | some o, some s => (!(slotsOf ops o).contains s && decide (o.dst ≠ some s)) || (if j < i then (W.getD i 0).testBit j else (W.getD j 0).testBit i)
      | _, _ => true)
theorem foldl_testBit (f : Edge → Nat) (p : Edge → Bool) : ∀ (l : List Edge) (s k : Nat), (l.foldl (fun s e => if p e then s ||| f e else s) s).testBit k = true → s.testBit k = true ∨ ∃ e ∈ l, p e = true ∧ (f e).testBit k = true
 | [], s, k, h => .inl h
 | e :: l, s, k, h => by
  rw [List.foldl_cons] at h
  rcases foldl_testBit f p l _ k h with h1 | ⟨e', he', h2⟩
  ·split at h1
   ·rename_i hp
    rw [Nat.testBit_or, Bool.or_eq_true] at h1
    rcases h1 with h1 | h1
    ·exact .inl h1
    ·exact .inr ⟨e, by simp, hp, h1⟩
   ·exact .inl h1
  ·exact .inr ⟨e', by simp [he'], h2⟩
theorem waits_spec {ops : Array Oper} {W : Array Nat} (h : okW ops W = true) {i : Nat} {o : Oper} (ho : ops[i]? = some o) :
  (∀ k, (W.getD i 0).testBit k = true → ∃ e ∈ o.after, Region.binds .any e = true ∧ (k = e.on ∨ (W.getD e.on 0).testBit k = true)) ∧ (∀ e ∈ o.after, Region.binds .any e = true → e.on < i) := by
 have hi : i < ops.size := (Array.getElem?_eq_some_iff.1 ho).1
 unfold okW at h
 rw [List.all_eq_true] at h
 have := h i (by simpa using hi)
 rw [ho] at this
 simp only [Bool.and_eq_true, beq_iff_eq] at this
 obtain ⟨h1, h2⟩ := this
 constructor
 ·intro k hk
  rw [h1] at hk
  unfold waitsOf at hk
  rw [← Array.foldl_toList] at hk
  have e1 : (fun (s : Nat) (e : Edge) => if Region.binds .any e then s ||| 2 ^ e.on ||| W.getD e.on 0 else s) = (fun s e => if Region.binds .any e then s ||| (2 ^ e.on ||| W.getD e.on 0) else s) := by
   funext s e; rw [Nat.or_assoc]
  rw [e1] at hk
  rcases foldl_testBit _ _ _ _ _ hk with h3 | ⟨e, he, hb, h3⟩
  ·simp at h3
  ·refine ⟨e, by simpa using he, hb, ?_⟩
   rw [Nat.testBit_or, Bool.or_eq_true] at h3
   rcases h3 with h3 | h3
   ·left
    rw [Nat.testBit_two_pow] at h3
    exact (show e.on = k by simpa using h3).symm
   ·exact .inr h3
 ·intro e he hb
  rw [Array.all_eq_true] at h2
  obtain ⟨j, hj, rfl⟩ := Array.mem_iff_getElem.1 he
  have := h2 j hj
  rw [hb] at this
  simpa using this
theorem slots_spec {ops : Array Oper} {W : Array Nat} (h : okSlots ops W = true) {i j : Nat} {o : Oper} {s : Tmp} (ho : ops[i]? = some o) (hj : dstOf ops j = some s) (hne : i ≠ j) (hs : s ∈ slotsOf ops o ∨ o.dst = some s) :
  (j < i ∧ (W.getD i 0).testBit j = true) ∨ (i < j ∧ (W.getD j 0).testBit i = true) := by
 have hi : i < ops.size := (Array.getElem?_eq_some_iff.1 ho).1
 have hjl : j < ops.size := by
  unfold dstOf at hj
  cases e : ops[j]? with
  | none => rw [e] at hj; cases hj
  | some o' => exact (Array.getElem?_eq_some_iff.1 e).1
 unfold okSlots at h
 rw [List.all_eq_true] at h
 have h1 := h i (by simpa using hi)
 rw [List.all_eq_true] at h1
 have h2 := h1 j (by simpa using hjl)
 rw [ho, hj] at h2
 have h3 : (i == j) = false := by simpa using hne
 rw [h3, Bool.false_or] at h2
 simp only [Bool.or_eq_true, Bool.and_eq_true, Bool.not_eq_true', decide_eq_true_eq] at h2
 rcases h2 with ⟨h4, h5⟩ | h4
 ·rcases hs with hs | hs
  ·rw [← List.contains_iff_mem] at hs; rw [hs] at h4; cases h4
  ·exact absurd hs h5
 ·split at h4
  ·rename_i hlt; exact .inl ⟨hlt, h4⟩
  ·rename_i hlt; exact .inr ⟨by omega, h4⟩
/-! ### What the temporaries hold, when some operations have been carried out -/
def Tof (ops : Array Oper) (v : Nat → Value) (t0 : Array Value) (D : Nat → Bool) : Nat → Array Value
  | 0 => t0
  | i + 1 => if D i then put (Tof ops v t0 D i) (dstOf ops i) (v i) else Tof ops v t0 D i
theorem put_get (t : Array Value) (d : Option Tmp) (v : Value) (s : Tmp) (h : d ≠ some s) : (put t d v)[s]? = t[s]? := by
 cases d with
 | none => rfl
 | some d =>
  have : d ≠ s := fun e => h (by rw [e])
  simp only [put]
  rw [Array.getElem?_setIfInBounds_ne this]
theorem Tof_above (ops : Array Oper) (v : Nat → Value) (t0 : Array Value) (D : Nat → Bool) (s : Tmp) (i : Nat) : ∀ n, i ≤ n → (∀ j, i ≤ j → j < n → D j = true → dstOf ops j ≠ some s) → (Tof ops v t0 D n)[s]? = (Tof ops v t0 D i)[s]?
  | 0, h, _ => by have : i = 0 := by omega
                  rw [this]
  | n + 1, h, hs => by
    by_cases hn : i = n + 1
    · rw [hn]
    · have ih := Tof_above ops v t0 D s i n (by omega) (fun j h1 h2 h3 => hs j h1 (by omega) h3)
      simp only [Tof]
      split
      · rename_i hD
        rw [put_get _ _ _ _ (hs n (by omega) (by omega) hD), ih]
      · exact ih
theorem put_get_congr {t t' : Array Value} {d : Option Tmp} {v : Value} {s : Tmp} (hsz : t.size = t'.size) (h : t[s]? = t'[s]?) : (put t d v)[s]? = (put t' d v)[s]? := by
 cases d with
 | none => exact h
 | some d =>
  simp only [put]
  rw [Array.getElem?_setIfInBounds, Array.getElem?_setIfInBounds, hsz, h]
theorem Tof_size (ops : Array Oper) (v : Nat → Value) (t0 : Array Value) (D : Nat → Bool) : ∀ n, (Tof ops v t0 D n).size = t0.size
 | 0 => rfl
 | n + 1 => by
  simp only [Tof]
  split
  ·have := Tof_size ops v t0 D n
   cases h : dstOf ops n with
   | none => exact this
   | some d => simp only [put, Array.size_setIfInBounds]; exact this
  ·exact Tof_size ops v t0 D n
theorem Tof_below (ops : Array Oper) (v : Nat → Value) (t0 : Array Value) (D : Nat → Bool) (s : Tmp) : ∀ i, (∀ j, j < i → dstOf ops j = some s → D j = true) → (Tof ops v t0 D i)[s]? = (Tof ops v t0 (fun _ => true) i)[s]?
 | 0, _ => rfl
 | i + 1, h => by
  have ih := Tof_below ops v t0 D s i (fun j h1 h2 => h j (by omega) h2)
  simp only [Tof, if_true]
  split
  ·exact put_get_congr (by rw [Tof_size, Tof_size]) ih
  ·rename_i hD
   by_cases hd : dstOf ops i = some s
   ·exact absurd (h i (by omega) hd) hD
   ·rw [put_get _ _ _ _ hd, ih]
theorem put_comm (t : Array Value) (a b : Option Tmp) (x y : Value) (h : ∀ s, a = some s → b ≠ some s) : put (put t a x) b y = put (put t b y) a x := by
 cases a with
 | none => rfl
 | some a => cases b with
  | none => rfl
  | some b =>
   have : a ≠ b := fun e => h a rfl (by rw [e])
   simp only [put]
   rw [Array.setIfInBounds_comm _ _ this]
theorem Tof_add (ops : Array Oper) (v : Nat → Value) (t0 : Array Value) (D : Nat → Bool) (i : Nat) (hi : D i = false) : ∀ n, i < n → (∀ j, i < j → j < n → D j = true → ∀ s, dstOf ops i = some s → dstOf ops j ≠ some s) →
  Tof ops v t0 (fun k => if k = i then true else D k) n = put (Tof ops v t0 D n) (dstOf ops i) (v i)
 | 0, h, _ => by omega
 | n + 1, h, hs => by
  have low : ∀ k, k ≤ i → Tof ops v t0 (fun k => if k = i then true else D k) k = Tof ops v t0 D k := by
   intro k
   induction k with
   | zero => intro _; rfl
   | succ k ih =>
    intro hk
    simp only [Tof]
    have hk' : (if k = i then true else D k) = D k := if_neg (by omega)
    simp only [ih (by omega), hk']
  by_cases hn : i = n
  ·subst hn
   simp only [Tof, if_true, hi, Bool.false_eq_true, if_false]
   rw [low i (Nat.le_refl _)]
  ·have ih := Tof_add ops v t0 D i hi n (by omega) (fun j h1 h2 h3 => hs j h1 (by omega) h3)
   simp only [Tof]
   have hn' : (if n = i then true else D n) = D n := if_neg (fun e => hn e.symm)
   simp only [ih, hn']
   split
   ·rename_i hD
    exact put_comm _ _ _ _ _ (fun s h1 => hs n (by omega) (by omega) hD s h1)
   ·rfl
/-! ### How far the effects have come -/
def stg (E D : Nat → Bool) : Nat → Nat
  | 0 => 0
  | i + 1 => if D i && E i then i + 1 else stg E D i
theorem stg_le (E D : Nat → Bool) : ∀ n, stg E D n ≤ n
 | 0 => Nat.le_refl _
 | n + 1 => by
  simp only [stg]
  split
  ·exact Nat.le_refl _
  ·have := stg_le E D n; omega
theorem stg_at (E D : Nat → Bool) : ∀ n, stg E D n = 0 ∨ (D (stg E D n - 1) = true ∧ E (stg E D n - 1) = true)
 | 0 => .inl rfl
 | n + 1 => by
  simp only [stg]
  split
  ·rename_i h
   rw [Bool.and_eq_true] at h
   exact .inr (by simpa using h)
  ·exact stg_at E D n
theorem stg_gt (E D : Nat → Bool) : ∀ n j, j < n → D j = true → E j = true → j < stg E D n
 | 0, j, h, _, _ => by omega
 | n + 1, j, h, h1, h2 => by
  simp only [stg]
  split
  ·omega
  ·rename_i hc
   have : j ≠ n := fun e => hc (by rw [← e, h1, h2]; rfl)
   exact stg_gt E D n j (by omega) h1 h2
theorem stg_congr (E D D' : Nat → Bool) : ∀ n, (∀ j, j < n → E j = true → D j = D' j) → stg E D n = stg E D' n
 | 0, _ => rfl
 | n + 1, h => by
  simp only [stg]
  rw [stg_congr E D D' n (fun j hj => h j (by omega))]
  by_cases he : E n = true
  ·rw [h n (by omega) he]
  ·have : E n = false := by simpa using he
   rw [this, Bool.and_false, Bool.and_false]
theorem stg_above (E D : Nat → Bool) (i : Nat) : ∀ n, i ≤ n → (∀ j, i ≤ j → j < n → E j = true → D j = false) → stg E D n = stg E D i
  | 0, h, _ => by have : i = 0 := by omega
                  rw [this]
  | n + 1, h, hs => by
    by_cases hn : i = n + 1
    · rw [hn]
    · simp only [stg]
      rw [stg_above E D i n (by omega) (fun j h1 h2 h3 => hs j h1 (by omega) h3)]
      split
      · rename_i hc
        rw [Bool.and_eq_true] at hc
        have := hs n (by omega) (by omega) hc.2
        rw [this] at hc; cases hc.1
      · rfl
/-! ### A run in the text's order that stands for all -/
/-- A read that no effect disturbs: it reads the same at every place where it may come. -/
def StageOk (n : Nat) (E : Nat → Bool) (W : Array Nat) (i k : Nat) : Prop :=
  k ≤ n ∧ (k = 0 ∨ E (k - 1) = true) ∧ (∀ j, j < n → E j = true → (W.getD i 0).testBit j = true → j < k) ∧ (∀ j, j < n → E j = true → (W.getD j 0).testBit i = true → k ≤ j)
structure Canon (P : Program) (ops : Array Oper) (W : Array Nat) (t0 : Array Value) (v : Nat → Value) (mem : Nat → Mem) (E : Nat → Bool) : Prop where
  okw : okW ops W = true
  oks : okSlots ops W = true
  chain : ∀ i j, i < j → j < ops.size → E i = true → E j = true → (W.getD j 0).testBit i = true
  step : ∀ i o, ops[i]? = some o → (awanted ops (Tof ops v t0 (fun _ => true) i) o = true → okOps P o.op = true) ∧
    ((awanted ops (Tof ops v t0 (fun _ => true) i) o = false ∧ v i = Go.undef ∧ E i = false ∧ mem (i + 1) = mem i) ∨
     (awanted ops (Tof ops v t0 (fun _ => true) i) o = true ∧ E i = true ∧ AStep P o.op (ev (Tof ops v t0 (fun _ => true) i)) (mem i) (v i) (mem (i + 1))) ∨
     (awanted ops (Tof ops v t0 (fun _ => true) i) o = true ∧ E i = false ∧ mem (i + 1) = mem i ∧ (aPure P (ev (Tof ops v t0 (fun _ => true) i)) o.op = some (v i) ∨
        ∀ k, StageOk ops.size E W i k → aRead P (mem k) (ev (Tof ops v t0 (fun _ => true) i)) o.op = some (v i))))
theorem Canon.mem_stg {P : Program} {ops : Array Oper} {W : Array Nat} {t0 : Array Value} {v : Nat → Value} {mem : Nat → Mem} {E : Nat → Bool} (h : Canon P ops W t0 v mem E) : ∀ i, i ≤ ops.size → mem i = mem (stg E (fun _ => true) i)
 | 0, _ => rfl
 | i + 1, hi => by
  simp only [stg, Bool.true_and]
  by_cases he : E i = true
  ·rw [if_pos he]
  ·rw [if_neg he, ← h.mem_stg i (by omega)]
   have hlt : i < ops.size := by omega
   obtain ⟨_, h1⟩ := h.step i ops[i] (Array.getElem?_eq_getElem hlt)
   rcases h1 with ⟨_, _, _, h2⟩ | ⟨_, h2, _⟩ | ⟨_, _, h2, _⟩
   ·exact h2
   ·exact absurd h2 he
   ·exact h2
def Dof (listed : Array Bool) (i : Nat) : Bool := listed.getD i false
theorem ev_slots {t t' : Array Value} {x : Operand} (h : ∀ s, x = .tmp s → t[s]? = t'[s]?) : ev t x = ev t' x := by
 cases x with
 | tmp s => simp only [ev]; rw [Array.getD_eq_getD_getElem?, Array.getD_eq_getD_getElem?, h s rfl]
 | _ => rfl
theorem mem_tmps {x : Operand} {s : Tmp} {op : Op} (h : x ∈ op.operands) (e : x = .tmp s) : s ∈ tmpsOf op.operands.toList := by
 subst e
 unfold tmpsOf
 rw [List.mem_filterMap]
 exact ⟨.tmp s, by simpa using h, rfl⟩
theorem Canon.rows {P : Program} {ops : Array Oper} {W : Array Nat} {t0 : Array Value} {v : Nat → Value} {mem : Nat → Mem} {E : Nat → Bool} (h : Canon P ops W t0 v mem E) :
  ∀ (fuel q : Nat) (listed : Array Bool), listed.size = ops.size → (∀ j, Dof listed j = true → ∀ k, (W.getD j 0).testBit k = true → Dof listed k = true) → (List.range ops.size).countP (fun i => !Dof listed i) ≤ fuel →
   ARow P ops (Region.linearise.go .any ops fuel q listed []) (Tof ops v t0 (Dof listed) ops.size) (mem (stg E (Dof listed) ops.size)) (Tof ops v t0 (fun _ => true) ops.size) (mem ops.size) := by

 have final : ∀ (listed : Array Bool), (∀ j, j < ops.size → Dof listed j = true) →
   ARow P ops [] (Tof ops v t0 (Dof listed) ops.size) (mem (stg E (Dof listed) ops.size)) (Tof ops v t0 (fun _ => true) ops.size) (mem ops.size) := by
  intro listed hall
  have e1 : Tof ops v t0 (Dof listed) ops.size = Tof ops v t0 (fun _ => true) ops.size := by
   have : ∀ n, n ≤ ops.size → Tof ops v t0 (Dof listed) n = Tof ops v t0 (fun _ => true) n := by
    intro n
    induction n with
    | zero => intro _; rfl
    | succ n ih => intro hn; simp only [Tof, if_true]; rw [ih (by omega), hall n (by omega)]; rfl
   exact this _ (Nat.le_refl _)
  have e2 : stg E (Dof listed) ops.size = stg E (fun _ => true) ops.size := stg_congr _ _ _ _ (fun j hj _ => hall j hj)
  rw [e1, e2, ← h.mem_stg ops.size (Nat.le_refl _)]
  exact .nil _ _
 intro fuel
 induction fuel with
 | zero =>
  intro q listed hsz hdown hcount
  refine final listed (fun j hj => ?_)
  have : (List.range ops.size).countP (fun i => !Dof listed i) = 0 := by omega
  rw [List.countP_eq_zero] at this
  simpa using this j (by simpa using hj)
 | succ fuel ih =>
  intro q listed hsz hdown hcount
  simp only [Region.linearise.go]
  change ARow P ops (match (Region.ready .any ops listed)[q % (Region.ready .any ops listed).length]? with
   | some i => Region.linearise.go .any ops fuel (q / (Region.ready .any ops listed).length) (listed.setIfInBounds i true) [i]
   | none => [].reverse) _ _ _ _
  cases hi : (Region.ready .any ops listed)[q % (Region.ready .any ops listed).length]? with
  | none =>
   have hnil : Region.ready .any ops listed = [] := by
    cases hr : Region.ready .any ops listed with
    | nil => rfl
    | cons x xs =>
     rw [hr] at hi
     have hlt : q % (x :: xs).length < (x :: xs).length := Nat.mod_lt _ (by simp)
     rw [List.getElem?_eq_getElem hlt] at hi; cases hi
   refine final listed (fun j => ?_)
   induction j using Nat.strongRecOn with
   | _ j ihj =>
    intro hj
    cases hD : Dof listed j with
    | true => rfl
    | false =>
     exfalso
     have ho : ops[j]? = some ops[j] := Array.getElem?_eq_getElem hj
     have hmem : j ∈ Region.ready .any ops listed := by
      unfold Region.ready
      rw [List.mem_filter]
      refine ⟨by simpa using hj, ?_⟩
      have hl : listed.getD j true = false := by
       have : j < listed.size := by omega
       unfold Dof at hD
       rw [Array.getD_eq_getD_getElem?, Array.getElem?_eq_getElem this] at hD ⊢
       simpa using hD
      rw [hl, ho]
      simp only [Bool.not_false, Bool.true_and, Option.map_some, Option.getD_some]
      rw [Array.all_eq_true]
      intro x hx
      cases hb : Region.binds .any (ops[j].after[x]) with
      | false => rfl
      | true =>
       have := (waits_spec h.okw ho).2 _ (Array.getElem_mem hx) hb
       have := ihj _ this (by omega)
       unfold Dof at this
       rw [this]; rfl
     rw [hnil] at hmem; cases hmem
  | some i =>
   simp only []
   rw [linearise_go_acc, List.reverse_singleton, List.singleton_append]
   have hmem := List.mem_of_getElem? hi
   unfold Region.ready at hmem
   rw [List.mem_filter] at hmem
   obtain ⟨hir, hic⟩ := hmem
   have hil : i < ops.size := by simpa using hir
   have ho : ops[i]? = some ops[i] := Array.getElem?_eq_getElem hil
   rw [Bool.and_eq_true, ho] at hic
   obtain ⟨hunl, hafter⟩ := hic
   simp only [Option.map_some, Option.getD_some] at hafter
   have hDi : Dof listed i = false := by
    have : i < listed.size := by omega
    unfold Dof
    rw [Array.getD_eq_getD_getElem?, Array.getElem?_eq_getElem this] at hunl ⊢
    simpa using hunl

   have hW : ∀ k, (W.getD i 0).testBit k = true → Dof listed k = true := by
    intro k hk
    obtain ⟨e, he, hb, hke⟩ := (waits_spec h.okw ho).1 k hk
    rw [Array.all_eq_true] at hafter
    obtain ⟨x, hx, rfl⟩ := Array.mem_iff_getElem.1 he
    have hon : Dof listed (ops[i].after[x]).on = true := by
     have := hafter x hx
     rw [hb] at this
     simpa [Dof] using this
    rcases hke with rfl | hke
    ·exact hon
    ·exact hdown _ hon k hke
   have hnotW : ∀ j, Dof listed j = true → (W.getD j 0).testBit i = false := by
    intro j hj
    cases hb : (W.getD j 0).testBit i with
    | false => rfl
    | true => rw [hdown j hj i hb] at hDi; cases hDi

   have hslot : ∀ s, s ∈ slotsOf ops ops[i] → (Tof ops v t0 (Dof listed) ops.size)[s]? = (Tof ops v t0 (fun _ => true) i)[s]? := by
    intro s hs
    rw [Tof_above ops v t0 (Dof listed) s i ops.size (by omega)]
    ·refine Tof_below ops v t0 (Dof listed) s i (fun j hj hd => ?_)
     rcases slots_spec h.oks ho hd (by omega) (.inl hs) with ⟨_, hb⟩ | ⟨hlt, _⟩
     ·exact hW j hb
     ·omega
    ·intro j h1 h2 h3 hd
     by_cases hij : i = j
     ·subst hij; rw [hDi] at h3; cases h3
     ·rcases slots_spec h.oks ho hd hij (.inl hs) with ⟨hlt, _⟩ | ⟨_, hb⟩
      ·omega
      ·rw [hnotW j h3] at hb; cases hb
   have hev : ∀ x ∈ ops[i].op.operands, ev (Tof ops v t0 (fun _ => true) i) x = ev (Tof ops v t0 (Dof listed) ops.size) x := by
    intro x hx
    refine ev_slots (fun s hs => ?_)
    exact (hslot s (by unfold slotsOf; rw [List.mem_append]; exact .inl (mem_tmps hx hs))).symm
   have hwanted : awanted ops (Tof ops v t0 (Dof listed) ops.size) ops[i] = awanted ops (Tof ops v t0 (fun _ => true) i) ops[i] := by
    unfold awanted Region.wanted
    cases hg : ops[i].guard with
    | none => rfl
    | some g =>
     obtain ⟨g, want⟩ := g
     simp only
     congr 1
     unfold yielded
     cases hd : (ops[g]?).bind (·.dst) with
     | none => rfl
     | some d =>
      simp only [Option.bind_some]
      rw [hslot d (by unfold slotsOf; rw [hg]; simp only [hd, Option.toList_some]; simp)]

   have hset : ∀ k, Dof (listed.setIfInBounds i true) k = if k = i then true else Dof listed k := by
    intro k
    unfold Dof
    rw [Array.getD_eq_getD_getElem?, Array.getElem?_setIfInBounds]
    by_cases hk : i = k
    ·subst hk; rw [if_pos rfl, if_pos (by omega), if_pos rfl]; rfl
    ·rw [if_neg hk, if_neg (fun e => hk e.symm), Array.getD_eq_getD_getElem?]
   have hfun : Dof (listed.setIfInBounds i true) = fun k => if k = i then true else Dof listed k := funext hset
   have hT : Tof ops v t0 (Dof (listed.setIfInBounds i true)) ops.size = put (Tof ops v t0 (Dof listed) ops.size) (dstOf ops i) (v i) := by
    rw [hfun]
    refine Tof_add ops v t0 (Dof listed) i hDi ops.size hil (fun j h1 h2 h3 s hs hd => ?_)
    have hdi : ops[i].dst = some s := by
     unfold dstOf at hs; rw [ho] at hs; exact hs
    rcases slots_spec h.oks ho hd (by omega) (.inr hdi) with ⟨hlt, _⟩ | ⟨_, hb⟩
    ·omega
    ·rw [hnotW j h3] at hb; cases hb
   have hdst : dstOf ops i = ops[i].dst := by unfold dstOf; rw [ho]; rfl
   rw [hdst] at hT
   have hdown' : ∀ j, Dof (listed.setIfInBounds i true) j = true → ∀ k, (W.getD j 0).testBit k = true → Dof (listed.setIfInBounds i true) k = true := by
    intro j hj k hk
    rw [hset] at hj ⊢
    split
    ·rfl
    ·by_cases hji : j = i
     ·subst hji; exact hW k hk
     ·rw [if_neg hji] at hj; exact hdown j hj k hk
   have hcount' : (List.range ops.size).countP (fun k => !Dof (listed.setIfInBounds i true) k) ≤ fuel := by
    have key : ∀ (l : List Nat), i ∈ l → l.countP (fun k => !Dof (listed.setIfInBounds i true) k) + 1 ≤ l.countP (fun k => !Dof listed k) := by
     intro l
     have mono : ∀ (l : List Nat), l.countP (fun k => !Dof (listed.setIfInBounds i true) k) ≤ l.countP (fun k => !Dof listed k) := by
      intro l
      refine List.countP_mono_left (fun k _ hk => ?_)
      rw [hset] at hk
      split at hk
      ·cases hk
      ·exact hk
     induction l with
     | nil => intro h; cases h
     | cons x l ih =>
      intro hx
      rw [List.countP_cons, List.countP_cons]
      by_cases hxi : x = i
      ·subst hxi
       have h1 : (!Dof (listed.setIfInBounds x true) x) = false := by rw [hset]; simp
       have h2 : (!Dof listed x) = true := by rw [hDi]; rfl
       rw [h1, h2]
       have := mono l
       simp only [Bool.false_eq_true, if_false, if_true]; omega
      ·have hl : i ∈ l := by
        rcases List.mem_cons.1 hx with e | e
        ·exact absurd e.symm hxi
        ·exact e
       have h1 : (!Dof (listed.setIfInBounds i true) x) = (!Dof listed x) := by rw [hset, if_neg hxi]
       rw [h1]
       have := ih hl
       omega
    have := key (List.range ops.size) (by simpa using hil)
    omega
   have hnext := ih (q / (Region.ready .any ops listed).length) (listed.setIfInBounds i true) (by simpa using hsz) hdown' hcount'
   rw [hT] at hnext
   obtain ⟨hok, hstep⟩ := h.step i ops[i] ho
   rcases hstep with ⟨h1, h2, h3, h4⟩ | ⟨h1, h2, h3⟩ | ⟨h1, h2, h3, h4⟩
   ·
    have hs : stg E (Dof (listed.setIfInBounds i true)) ops.size = stg E (Dof listed) ops.size := by
     refine stg_congr _ _ _ _ (fun j _ hj => ?_)
     rw [hset, if_neg]; rintro rfl; rw [h3] at hj; cases hj
    rw [hs, h2] at hnext
    exact .off ho (by rw [hwanted]; exact h1) hnext
   ·
    have hbelow : ∀ j, j < i → E j = true → Dof listed j = true := fun j hj he => hW j (h.chain j i hj hil he h2)
    have habove : ∀ j, i < j → j < ops.size → E j = true → Dof listed j = false := by
     intro j hj hjn he
     cases hd : Dof listed j with
     | false => rfl
     | true =>
      have := h.chain i j hj hjn h2 he
      rw [hnotW j hd] at this; cases this
    have hs1 : stg E (Dof listed) ops.size = stg E (fun _ => true) i := by
     rw [stg_above E (Dof listed) i ops.size (by omega) (fun j h5 h6 h7 => by
      by_cases hij : i = j
      ·subst hij; exact hDi
      ·exact habove j (by omega) h6 h7)]
     exact stg_congr _ _ _ _ (fun j hj he => hbelow j hj he)
    have hs2 : stg E (Dof (listed.setIfInBounds i true)) ops.size = i + 1 := by
     rw [stg_above E _ (i + 1) ops.size (by omega) (fun j h5 h6 h7 => by
      rw [hset, if_neg (by omega)]; exact habove j (by omega) h6 h7)]
     simp only [stg]
     rw [hset, if_pos rfl, h2]; rfl
    rw [hs2] at hnext
    rw [hs1, ← h.mem_stg i (by omega)]
    exact .op ho (by rw [hwanted]; exact h1) (AStep.aop (hok h1) (AStep.congr hev h3)) hnext
   ·have hs : stg E (Dof (listed.setIfInBounds i true)) ops.size = stg E (Dof listed) ops.size := by
     refine stg_congr _ _ _ _ (fun j _ hj => ?_)
     rw [hset, if_neg]; rintro rfl; rw [h2] at hj; cases hj
    rw [hs] at hnext
    refine .op ho (by rw [hwanted]; exact h1) (AStep.aop (hok h1) (AStep.congr hev ?_)) hnext
    rcases h4 with h4 | h4
    ·exact .pure h4 rfl
    ·refine .read (h4 _ ⟨stg_le _ _ _, ?_, fun j hj he hb => stg_gt _ _ _ j hj (hW j hb) he, fun j hj he hb => ?_⟩) rfl
     ·rcases stg_at E (Dof listed) ops.size with h5 | h5
      ·exact .inl h5
      ·exact .inr h5.2
     ·
      rcases Nat.lt_or_ge j (stg E (Dof listed) ops.size) with hlt | hge
      ·exfalso
       rcases stg_at E (Dof listed) ops.size with h5 | ⟨h5, h6⟩
       ·omega
       ·have hle := stg_le E (Dof listed) ops.size
        have hDj : Dof listed j = true := by
         by_cases hj1 : j = stg E (Dof listed) ops.size - 1
         ·rw [hj1]; exact h5
         ·exact hdown _ h5 j (h.chain j _ (by omega) (by omega) he h6)
        rw [hnotW j hDj] at hb; cases hb
      ·exact hge
theorem ACd.canon {P : Program} {id : Nat} {ops : Array Oper} {W : Array Nat} {t0 : Array Value} {v : Nat → Value} {mem : Nat → Mem} {E : Nat → Bool} (hm : P.follows .mixedOrders = true) (h : Canon P ops W t0 v mem E) :
  ACd P (.region id ops true) t0 (mem 0) .normal (Tof ops v t0 (fun _ => true) ops.size) (mem ops.size) := by
 refine ACd.region_draw (fun q => ?_)
 simp only [Region.schedule, hm, Bool.true_or, if_true]
 have hD : Dof (Array.replicate ops.size false) = fun _ => false := by
  funext k; unfold Dof; rw [Array.getD_eq_getD_getElem?, Array.getElem?_replicate]; split <;> rfl
 have := h.rows ops.size q (Array.replicate ops.size false) (by simp) (by intro j hj; rw [hD] at hj; cases hj) (by
  rw [List.countP_eq_length_filter]
  exact Nat.le_trans (List.length_filter_le _ _) (by simp))
 have e1 : Tof ops v t0 (Dof (Array.replicate ops.size false)) ops.size = t0 := by
  rw [hD]
  have : ∀ n, Tof ops v t0 (fun _ => false) n = t0 := by
   intro n
   induction n with
   | zero => rfl
   | succ n ih => simp only [Tof]; exact ih
  exact this _
 have e2 : stg E (Dof (Array.replicate ops.size false)) ops.size = 0 := by
  rw [hD]
  have : ∀ n, stg E (fun _ => false) n = 0 := by
   intro n
   induction n with
   | zero => rfl
   | succ n ih => simp only [stg, Bool.false_and]; exact ih
  exact this _
 rw [e1, e2] at this
 exact this
end Go.AM

/-! A19 -/
namespace Go.AM
/-- A list of operations that may come next, when some have been carried out. -/
inductive Ord (ops : Array Oper) (W : Array Nat) : (Nat → Bool) → List Nat → Prop
  | nil {D : Nat → Bool} (h : ∀ j, j < ops.size → D j = true) : Ord ops W D []
  | cons {D : Nat → Bool} {i : Nat} {l : List Nat} (hi : i < ops.size) (hD : D i = false) (hW : ∀ k, (W.getD i 0).testBit k = true → D k = true) (hN : ∀ j, D j = true → (W.getD j 0).testBit i = false)
      (h : Ord ops W (fun k => if k = i then true else D k) l) : Ord ops W D (i :: l)
theorem go_ord {ops : Array Oper} {W : Array Nat} (hok : okW ops W = true) :
  ∀ (fuel q : Nat) (listed : Array Bool), listed.size = ops.size → (∀ j, Dof listed j = true → ∀ k, (W.getD j 0).testBit k = true → Dof listed k = true) → (List.range ops.size).countP (fun i => !Dof listed i) ≤ fuel →
   Ord ops W (Dof listed) (Region.linearise.go .any ops fuel q listed []) := by
 intro fuel
 induction fuel with
 | zero =>
  intro q listed hsz hdown hcount
  refine .nil (fun j hj => ?_)
  have : (List.range ops.size).countP (fun i => !Dof listed i) = 0 := by omega
  rw [List.countP_eq_zero] at this
  simpa using this j (by simpa using hj)
 | succ fuel ih =>
  intro q listed hsz hdown hcount
  simp only [Region.linearise.go]
  change Ord ops W _ (match (Region.ready .any ops listed)[q % (Region.ready .any ops listed).length]? with
   | some i => Region.linearise.go .any ops fuel (q / (Region.ready .any ops listed).length) (listed.setIfInBounds i true) [i]
   | none => [].reverse)
  cases hi : (Region.ready .any ops listed)[q % (Region.ready .any ops listed).length]? with
  | none =>
   have hnil : Region.ready .any ops listed = [] := by
    cases hr : Region.ready .any ops listed with
    | nil => rfl
    | cons x xs =>
     rw [hr] at hi
     have hlt : q % (x :: xs).length < (x :: xs).length := Nat.mod_lt _ (by simp)
     rw [List.getElem?_eq_getElem hlt] at hi; cases hi
   refine .nil (fun j => ?_)
   induction j using Nat.strongRecOn with
   | _ j ihj =>
    intro hj
    cases hD : Dof listed j with
    | true => rfl
    | false =>
     exfalso
     have ho : ops[j]? = some ops[j] := Array.getElem?_eq_getElem hj
     have hmem : j ∈ Region.ready .any ops listed := by
      unfold Region.ready
      rw [List.mem_filter]
      refine ⟨by simpa using hj, ?_⟩
      have hl : listed.getD j true = false := by
       have : j < listed.size := by omega
       unfold Dof at hD
       rw [Array.getD_eq_getD_getElem?, Array.getElem?_eq_getElem this] at hD ⊢
       simpa using hD
      rw [hl, ho]
      simp only [Bool.not_false, Bool.true_and, Option.map_some, Option.getD_some]
      rw [Array.all_eq_true]
      intro x hx
      cases hb : Region.binds .any (ops[j].after[x]) with
      | false => rfl
      | true =>
       have := (waits_spec hok ho).2 _ (Array.getElem_mem hx) hb
       have := ihj _ this (by omega)
       unfold Dof at this
       rw [this]; rfl
     rw [hnil] at hmem; cases hmem
  | some i =>
   simp only []
   rw [linearise_go_acc, List.reverse_singleton, List.singleton_append]
   have hmem := List.mem_of_getElem? hi
   unfold Region.ready at hmem
   rw [List.mem_filter] at hmem
   obtain ⟨hir, hic⟩ := hmem
   have hil : i < ops.size := by simpa using hir
   have ho : ops[i]? = some ops[i] := Array.getElem?_eq_getElem hil
   rw [Bool.and_eq_true, ho] at hic
   obtain ⟨hunl, hafter⟩ := hic
   simp only [Option.map_some, Option.getD_some] at hafter
   have hDi : Dof listed i = false := by
    have : i < listed.size := by omega
    unfold Dof
    rw [Array.getD_eq_getD_getElem?, Array.getElem?_eq_getElem this] at hunl ⊢
    simpa using hunl
   have hW : ∀ k, (W.getD i 0).testBit k = true → Dof listed k = true := by
    intro k hk
    obtain ⟨e, he, hb, hke⟩ := (waits_spec hok ho).1 k hk
    rw [Array.all_eq_true] at hafter
    obtain ⟨x, hx, rfl⟩ := Array.mem_iff_getElem.1 he
    have hon : Dof listed (ops[i].after[x]).on = true := by
     have := hafter x hx
     rw [hb] at this
     simpa [Dof] using this
    rcases hke with rfl | hke
    ·exact hon
    ·exact hdown _ hon k hke
   have hnotW : ∀ j, Dof listed j = true → (W.getD j 0).testBit i = false := by
    intro j hj
    cases hb : (W.getD j 0).testBit i with
    | false => rfl
    | true => rw [hdown j hj i hb] at hDi; cases hDi
   have hset : ∀ k, Dof (listed.setIfInBounds i true) k = if k = i then true else Dof listed k := by
    intro k
    unfold Dof
    rw [Array.getD_eq_getD_getElem?, Array.getElem?_setIfInBounds]
    by_cases hk : i = k
    ·subst hk; rw [if_pos rfl, if_pos (by omega), if_pos rfl]; rfl
    ·rw [if_neg hk, if_neg (fun e => hk e.symm), Array.getD_eq_getD_getElem?]
   have hfun : Dof (listed.setIfInBounds i true) = fun k => if k = i then true else Dof listed k := funext hset
   have hdown' : ∀ j, Dof (listed.setIfInBounds i true) j = true → ∀ k, (W.getD j 0).testBit k = true → Dof (listed.setIfInBounds i true) k = true := by
    intro j hj k hk
    rw [hset] at hj ⊢
    split
    ·rfl
    ·by_cases hji : j = i
     ·subst hji; exact hW k hk
     ·rw [if_neg hji] at hj; exact hdown j hj k hk
   have hcount' : (List.range ops.size).countP (fun k => !Dof (listed.setIfInBounds i true) k) ≤ fuel := by
    have key : ∀ (l : List Nat), i ∈ l → l.countP (fun k => !Dof (listed.setIfInBounds i true) k) + 1 ≤ l.countP (fun k => !Dof listed k) := by
     intro l
     have mono : ∀ (l : List Nat), l.countP (fun k => !Dof (listed.setIfInBounds i true) k) ≤ l.countP (fun k => !Dof listed k) := by
      intro l
      refine List.countP_mono_left (fun k _ hk => ?_)
      rw [hset] at hk
      split at hk
      ·cases hk
      ·exact hk
     induction l with
     | nil => intro h; cases h
     | cons x l ih =>
      intro hx
      rw [List.countP_cons, List.countP_cons]
      by_cases hxi : x = i
      ·subst hxi
       have h1 : (!Dof (listed.setIfInBounds x true) x) = false := by rw [hset]; simp
       have h2 : (!Dof listed x) = true := by rw [hDi]; rfl
       rw [h1, h2]
       have := mono l
       simp only [Bool.false_eq_true, if_false, if_true]; omega
      ·have hl : i ∈ l := by
        rcases List.mem_cons.1 hx with e | e
        ·exact absurd e.symm hxi
        ·exact e
       have h1 : (!Dof (listed.setIfInBounds i true) x) = (!Dof listed x) := by rw [hset, if_neg hxi]
       rw [h1]
       have := ih hl
       omega
    have := key (List.range ops.size) (by simpa using hil)
    omega
   refine .cons hil hDi hW hnotW ?_
   rw [← hfun]
   exact ih (q / (Region.ready .any ops listed).length) (listed.setIfInBounds i true) (by simpa using hsz) hdown' hcount'
theorem sched_ord {P : Program} {ops : Array Oper} {W : Array Nat} (hm : P.follows .mixedOrders = true) (hok : okW ops W = true) (q : Nat) : Ord ops W (fun _ => false) (Region.schedule (P.follows .mixedOrders) ops q) := by
 simp only [Region.schedule, hm, Bool.true_or, if_true]
 have hD : Dof (Array.replicate ops.size false) = fun _ => false := by
  funext k; unfold Dof; rw [Array.getD_eq_getD_getElem?, Array.getElem?_replicate]; split <;> rfl
 have := go_ord hok ops.size q (Array.replicate ops.size false) (by simp) (by intro j hj; rw [hD] at hj; cases hj) (by
  rw [List.countP_eq_length_filter]
  exact Nat.le_trans (List.length_filter_le _ _) (by simp))
 rw [hD] at this
 exact this
end Go.AM

/-! A20 -/
namespace Go.AM
def goneV : Value := .complex default default default
theorem build_run {P : Program} {m m' : Mem} {t : TypeId} {len : Nat} {ps : List (Nat × Value)} {v : Value} (h : aBuildSlice P m t len ps = some (v, m')) :
  ∃ sz c elem, 0 < sz ∧ len * sz ≤ 16777216 ∧ v = .slice (some ⟨m.size, 0, some sz⟩) len len ∧ m' = m.push (.cells true c) ∧ c.size = len * sz ∧
   ∀ {β : Beta} {N : Nat} {w : World} {ps' : Array (Nat × Value)}, PRel β N ps ps'.toList → ∃ c', ARel β N c c' ∧ (Instr.buildSlice t len ps').run P w = .ok (.slice (some ⟨w.heap.size, 0, none⟩) len len) (World.pushObj w (.cells c' elem)) := by
 unfold aBuildSlice at h
 split at h
 ·rename_i elem e1
  split at h
  ·rename_i sz z e2 e3
   split at h
   ·rename_i hc
    split at h
    ·rename_i c ec
     split at h
     ·rename_i hcs
      injection h with h; injection h with h1 h2; subst h1 h2
      refine ⟨sz, c, elem, hc.1, hc.2.1, rfl, rfl, hcs, fun {β N w ps'} hp => ?_⟩
      have hz := zeros_rel (β := β) (N := N) hc.2.2.2 hc.2.2.1 (len * sz)
      have h24 : ¬ (len * sz > 2 ^ 24) := by have := hc.2.1; omega
      by_cases h0 : len * sz = 0
      ·rw [if_pos h0] at ec
       obtain ⟨c', ec', hcc⟩ := fill_rel _ ps ps'.toList _ _ c hp (ARel.nil β N) ec
       refine ⟨c', hcc, ?_⟩
       have hm : ∀ f : Nat → Value, (Array.range (len * sz)).map f = #[] := by intro f; rw [h0]; simp
       simp only [Instr.buildSlice, Sem.run_bind, run_underlying e1, Result.andThen_ok, run_sizeOf e2, h24, if_false]
       rw [if_pos h0]
       simp only [Sem.run_bind, Sem.run_pure, Result.andThen_ok, hm, ec', newRow, run_newObj]
       rfl
      ·rw [if_neg h0] at ec
       obtain ⟨c', ec', hcc⟩ := fill_rel _ ps ps'.toList _ _ c hp hz ec
       refine ⟨c', hcc, ?_⟩
       simp only [Instr.buildSlice, Sem.run_bind, run_underlying e1, Result.andThen_ok, run_sizeOf e2, h24, if_false]
       rw [if_neg h0]
       simp only [Sem.run_bind, run_zeroValue e3, Sem.run_pure, Result.andThen_ok, ec', newRow, run_newObj]
       rfl
     ·cases h
    ·cases h
   ·cases h
  ·cases h
 ·cases h
theorem alloc_run {P : Program} {m m' : Mem} {e : TypeId} {v : Value} (h : aAlloc P m e = some (v, m')) :
  ∃ c, v = .pointer (some ⟨m.size, 0, none⟩) ∧ m' = m.push (.cells true c) ∧
   ∀ {β : Beta} {N : Nat} {w : World}, ∃ c', ARel β N c c' ∧ (Instr.alloc e true (.tuple #[])).run P w = .ok (.pointer (some ⟨w.heap.size, 0, none⟩)) (World.pushObj w (.cells c' e)) := by
 unfold aAlloc at h
 split at h
 ·rename_i z hz
  split at h
  ·rename_i hf
   injection h with h; injection h with h1 h2; subst h1 h2
   exact ⟨_, rfl, rfl, fun {β N w} => ⟨_, ARel.flat (β := β) (N := N) hf, by simp [Instr.alloc, run_zeroValue hz, newVar, newRow]; rfl⟩⟩
  ·cases h
 ·cases h
theorem exec_build {P : Program} {ρ : Operand → Value} {o : Oper} {t : TypeId} {len : Nat} {ps : Array (Nat × Operand)} {w w' : World} {v : Value} (hop : o.op = .buildSlice t len ps) (h : (Instr.buildSlice t len (ps.map fun (i, x) => (i, ρ x))).run P w = .ok v w') :
  (execOp ρ o).run P w = .ok (.value v) w' := by
 obtain ⟨dst, op, ty, pos, after, guard⟩ := o
 simp only at hop
 subst hop
 simp only [execOp, Sem.run_bind, h]; rfl
theorem exec_alloc {P : Program} {ρ : Operand → Value} {o : Oper} {e : TypeId} {w w' : World} {v : Value} (hop : o.op = .alloc e) (h : (Instr.alloc e true (.tuple #[])).run P w = .ok v w') :
  (execOp ρ o).run P w = .ok (.value v) w' := by
 obtain ⟨dst, op, ty, pos, after, guard⟩ := o
 simp only at hop
 subst hop
 simp only [execOp, Sem.run_bind, h]; rfl
/-- A row, or a variable, that is made. -/
def Makes (P : Program) (op : Op) (ρ : Operand → Value) (m : Mem) (v : Value) (m' : Mem) : Prop :=
  (∃ t len ps, op = .buildSlice t len ps ∧ aBuildSlice P m t len (ps.toList.map fun p => (p.1, ρ p.2)) = some (v, m')) ∨ ∃ e, op = .alloc e ∧ aAlloc P m e = some (v, m')
/-- What stands for the value of what was made in a block. -/
def Stands (m : Mem) (n : Nat) (v : Value) (vc : Value) (r : Nat) : Prop := ∀ (β : Beta) (N : Nat), m.size < N → β.blk m.size = r → β.sh m.size = 0 → β.cap m.size = n → VRel β N v vc
theorem Makes.run {P : Program} {op : Op} {ρ : Operand → Value} {m m' : Mem} {v : Value} (h : Makes P op ρ m v m') :
  noDefer op = true ∧ ∃ c, m' = m.push (.cells true c) ∧ ∀ {β : Beta} {N : Nat} {w : World} {ρ' : Operand → Value} {o : Oper}, o.op = op → (∀ x ∈ op.operands, VRel β N (ρ x) (ρ' x)) →
   ∃ vc c' elem, ARel β N c c' ∧ (execOp ρ' o).run P w = .ok (.value vc) (World.pushObj w (.cells c' elem)) ∧ Stands m c.size v vc w.heap.size ∧ ∀ (β' : Beta) (N' : Nat), VRel β' N' goneV vc := by
 rcases h with ⟨t, len, ps, rfl, h⟩ | ⟨e, rfl, h⟩
 ·obtain ⟨sz, c, elem, h1, h2, h3, h4, h5, h6⟩ := build_run h
  refine ⟨rfl, c, h4, fun {β N w ρ' o} ho hr => ?_⟩
  have hmem : ∀ p ∈ ps.toList, p.2 ∈ (Op.buildSlice t len ps).operands := fun p hp => by
   simp only [Op.operands, List.mem_toArray, List.mem_map]; exact ⟨p, hp, rfl⟩
  obtain ⟨c', hcc, hrun⟩ := h6 (β := β) (N := N) (w := w) (ps' := ps.map fun (i, x) => (i, ρ' x)) (by
   have := PRel.of_map (β := β) (N := N) (ρ := ρ) (ρ' := ρ') ps.toList (fun p hp => hr _ (hmem p hp))
   simpa using this)
  refine ⟨_, c', elem, hcc, exec_build ho hrun, fun β' N' a b s d => ?_, fun β' N' => .gone _ _ _⟩
  have hl : len ≤ 16777216 := Nat.le_trans (Nat.le_mul_of_pos_right len h1) h2
  rw [h3]
  have := VRel.slice (β := β') (N := N') m.size 0 sz len len len a h1 (Nat.le_refl _) (Nat.le_refl _) (by rw [s, d, h5]; omega) (by omega)
  rw [b, s] at this
  exact this
 ·obtain ⟨c, h1, h2, h3⟩ := alloc_run h
  refine ⟨rfl, c, h2, fun {β N w ρ' o} ho hr => ?_⟩
  obtain ⟨c', hcc, hrun⟩ := h3 (β := β) (N := N) (w := w)
  refine ⟨_, c', e, hcc, exec_alloc ho hrun, fun β' N' a b s d => ?_, fun β' N' => .goneP _⟩
  rw [h1]
  have := VRel.ptr (β := β') (N := N') m.size 0 a
  rw [b, s] at this
  exact this
/-- A block that was there already is taken in. -/
theorem Rel.adopt {P : Program} {β : Beta} {m : Mem} {w : World} (h : Rel P β m w) {o : AObj} {O : Obj} {r cap : Nat} (hO : w.heap[r]? = some O) (hfree : ∀ b, (Mem.get m b).live = true → β.blk b ≠ r)
  (ho : ObjRel (β.ext m.size r cap) (m.size + 1) m.size o O) : Rel P (β.ext m.size r cap) (m.push o) w := by
 have hag := Beta.ext_agree β m.size r cap
 have heq : ∀ b, b ≠ m.size → (β.ext m.size r cap).blk b = β.blk b := fun b hb => by simp [Beta.ext, hb]
 have hnew : (β.ext m.size r cap).blk m.size = r := by simp [Beta.ext]
 refine ⟨by have := h.gsz; simp; omega, fun g hg => ?_, fun b hb => ?_, fun b1 b2 hne h1 h2 => ?_⟩
 ·have hlt : g < m.size := Nat.lt_of_lt_of_le hg h.gsz
  rw [hag.blk g hlt, hag.sh g hlt]; exact h.glob g hg
 ·rw [get_push] at hb ⊢
  by_cases he : b = m.size
  ·subst he
   simp only [if_true, hnew, Array.size_push] at *
   exact ⟨O, hO, ho⟩
  ·simp only [he, if_false] at hb ⊢
   obtain ⟨O', e1, e2⟩ := h.obj b hb
   exact ⟨O', by rw [heq b he]; exact e1, e2.mono hag (by simp) (Mem.lt_of_live hb)⟩
 ·rw [get_push] at h1 h2
  by_cases e1 : b1 = m.size
  ·by_cases e2 : b2 = m.size
   ·exact absurd (e1.trans e2.symm) hne
   ·simp only [e2, if_false] at h2
    rw [heq b2 e2, e1, hnew]; exact .inl (fun e => hfree b2 h2 e.symm)
  ·simp only [e1, if_false] at h1
   by_cases e2 : b2 = m.size
   ·rw [heq b1 e1, e2, hnew]; exact .inl (hfree b1 (AObj.live_of_rw h1))
   ·simp only [e2, if_false] at h2
    rw [heq b1 e1, heq b2 e2]
    rcases h.inj b1 b2 hne h1 h2 with hi | ⟨c, c2, a1, a2, a3⟩
    ·exact .inl hi
    ·refine .inr ⟨c, c2, by rw [get_push, if_neg e1]; exact a1, by rw [get_push, if_neg e2]; exact a2, ?_⟩
     rw [hag.sh b2 (Mem.lt_of_live h2)]; exact a3
theorem Stp.adopt {β0 β : Beta} {m0 m : Mem} {w0 w : World} (h : Stp β0 m0 w0 β m w) {o : AObj} {r cap : Nat} (hr : w0.heap.size ≤ r) : Stp β0 m0 w0 (β.ext m.size r cap) (m.push o) w := by
 have heq : ∀ b, b ≠ m.size → (β.ext m.size r cap).blk b = β.blk b := fun b hb => by simp [Beta.ext, hb]
 have hnew : (β.ext m.size r cap).blk m.size = r := by simp [Beta.ext]
 refine ⟨by have := h.msz; simp; omega, h.wsz, h.agree.trans (Beta.ext_agree β m.size r cap) h.msz, fun b hb => ?_, h.keep, h.os, h.tape, h.output, fun b hb => ?_⟩
 ·rw [get_push] at hb
  by_cases he : b = m.size
  ·subst he; rw [hnew]; exact .inl hr
  ·rw [if_neg he] at hb; rw [heq b he]; exact h.fresh b hb
 ·rw [get_push] at hb
  by_cases he : b = m.size
  ·subst he; rw [hnew]; exact .inl hr
  ·rw [if_neg he] at hb; rw [heq b he]; exact h.freshL b hb
/-- A block that nothing names. -/
theorem Rel.more {P : Program} {β : Beta} {m : Mem} {w : World} (h : Rel P β m w) (O : Obj) : Rel P β m (World.pushObj w O) := by
 refine ⟨h.gsz, h.glob, fun b hb => ?_, h.inj⟩
 obtain ⟨O', e1, e2⟩ := h.obj b hb
 have hlt := (Array.getElem?_eq_some_iff.1 e1).1
 exact ⟨O', by simp only [World.pushObj]; rw [Array.getElem?_push_lt hlt, ← e1, Array.getElem?_eq_getElem hlt], e2⟩
theorem Stp.more {β0 β : Beta} {m0 m : Mem} {w0 w : World} (h : Stp β0 m0 w0 β m w) (O : Obj) : Stp β0 m0 w0 β m (World.pushObj w O) := by
 refine ⟨h.msz, by have := h.wsz; simp [World.pushObj]; omega, h.agree, h.fresh, fun i hi hn => ?_, h.os, h.tape, h.output, h.freshL⟩
 have hlt : i < w.heap.size := Nat.lt_of_lt_of_le hi h.wsz
 have := h.keep i hi hn
 simp only [World.pushObj]
 rw [Array.getElem?_push_lt hlt, ← this, Array.getElem?_eq_getElem hlt]
/-! ### Rows of values -/
theorem Tof_rel {β : Beta} {N : Nat} {ops : Array Oper} {v vc : Nat → Value} {t0 ts0 : Array Value} {D : Nat → Bool} (h0 : ARel β N t0 ts0) : ∀ n, (∀ j, j < n → D j = true → VRel β N (v j) (vc j)) → ARel β N (Tof ops v t0 D n) (Tof ops vc ts0 D n)
 | 0, _ => h0
 | n + 1, h => by
  have ih := Tof_rel (v := v) (vc := vc) (ops := ops) (D := D) h0 n (fun j hj => h j (by omega))
  simp only [Tof]
  split
  ·rename_i hD; exact ih.put _ (h n (by omega) hD)
  ·exact ih
theorem Tof_congr {ops : Array Oper} {v v' : Nat → Value} {t0 : Array Value} {D D' : Nat → Bool} : ∀ n, (∀ j, j < n → D j = D' j) → (∀ j, j < n → D j = true → v j = v' j) → Tof ops v t0 D n = Tof ops v' t0 D' n
 | 0, _, _ => rfl
 | n + 1, h, h' => by
  simp only [Tof]
  rw [Tof_congr n (fun j hj => h j (by omega)) (fun j hj => h' j (by omega)), ← h n (by omega)]
  split
  ·rename_i hD; rw [h' n (by omega) hD]
  ·rfl
theorem Tof_val {ops : Array Oper} {v v' : Nat → Value} {t0 : Array Value} {s : Tmp} : ∀ n, (∀ j, j < n → dstOf ops j = some s → v j = v' j) → (Tof ops v t0 (fun _ => true) n)[s]? = (Tof ops v' t0 (fun _ => true) n)[s]?
 | 0, _ => rfl
 | n + 1, h => by
  have ih := Tof_val (v := v) (v' := v') (ops := ops) (t0 := t0) (s := s) n (fun j hj => h j (by omega))
  simp only [Tof, if_true]
  by_cases hd : dstOf ops n = some s
  ·rw [h n (by omega) hd]
   exact put_get_congr (by rw [Tof_size, Tof_size]) ih
  ·rw [put_get _ _ _ _ hd, put_get _ _ _ _ hd]; exact ih
theorem Tof_slot {ops : Array Oper} {W : Array Nat} (oks : okSlots ops W = true) {u : Nat → Value} {t0 : Array Value} {D : Nat → Bool} {i : Nat} (hi : i < ops.size) (hD : D i = false) (hW : ∀ k, (W.getD i 0).testBit k = true → D k = true)
  (hN : ∀ j, D j = true → (W.getD j 0).testBit i = false) {s : Tmp} (hs : s ∈ slotsOf ops ops[i]) : (Tof ops u t0 D ops.size)[s]? = (Tof ops u t0 (fun _ => true) i)[s]? := by
 have ho : ops[i]? = some ops[i] := Array.getElem?_eq_getElem hi
 rw [Tof_above ops u t0 D s i ops.size (by omega)]
 ·refine Tof_below ops u t0 D s i (fun j hj hd => ?_)
  rcases slots_spec oks ho hd (by omega) (.inl hs) with ⟨_, hb⟩ | ⟨hlt, _⟩
  ·exact hW j hb
  ·omega
 ·intro j h1 h2 h3 hd
  by_cases hij : i = j
  ·subst hij; rw [hD] at h3; cases h3
  ·rcases slots_spec oks ho hd hij (.inl hs) with ⟨hlt, _⟩ | ⟨_, hb⟩
   ·omega
   ·rw [hN j h3] at hb; cases hb
theorem Tof_more {ops : Array Oper} {W : Array Nat} (oks : okSlots ops W = true) {u : Nat → Value} {t0 : Array Value} {D : Nat → Bool} {i : Nat} (hi : i < ops.size) (hD : D i = false) (hN : ∀ j, D j = true → (W.getD j 0).testBit i = false) (x : Value) :
  put (Tof ops u t0 D ops.size) ops[i].dst x = Tof ops (fun j => if j = i then x else u j) t0 (fun k => if k = i then true else D k) ops.size := by
 have ho : ops[i]? = some ops[i] := Array.getElem?_eq_getElem hi
 have hdst : dstOf ops i = ops[i].dst := by unfold dstOf; rw [ho]; rfl
 rw [Tof_add ops _ t0 D i hD ops.size hi (fun j h1 h2 h3 s hs hd => ?_)]
 ·rw [hdst, if_pos rfl]
  congr 1
  exact Tof_congr _ (fun _ _ => rfl) (fun j _ hj => by
   rw [if_neg]; rintro rfl; rw [hD] at hj; cases hj)
 ·have hdi : ops[i].dst = some s := by rw [← hdst]; exact hs
  rcases slots_spec oks ho hd (by omega) (.inr hdi) with ⟨hlt, _⟩ | ⟨_, hb⟩
  ·omega
  ·rw [hN j h3] at hb; cases hb
/-! ### The run in the text's order -/
structure CanonF (P : Program) (ops : Array Oper) (W : Array Nat) (t0 : Array Value) (v : Nat → Value) (mem : Nat → Mem) (E F : Nat → Bool) : Prop where
  okw : okW ops W = true
  oks : okSlots ops W = true
  chain : ∀ i j, i < j → j < ops.size → E i = true → E j = true → (W.getD j 0).testBit i = true
  late : ∀ i j, i < j → j < ops.size → F i = true → E j = true → (W.getD j 0).testBit i = true
  dep : ∀ (i j : Nat) (o : Oper) (s : Tmp), i < j → ops[j]? = some o → F i = true → dstOf ops i = some s → s ∈ tmpsOf o.op.operands.toList → awanted ops (Tof ops v t0 (fun _ => true) j) o = true → E j = false → ∃ e, i < e ∧ e < j ∧ E e = true ∧ (W.getD j 0).testBit e = true
  gd : ∀ (i j : Nat) (o : Oper) (g : Nat) (q : Bool), ops[j]? = some o → o.guard = some (g, q) → F i = true → ∀ s, (ops[g]?).bind (·.dst) = some s → dstOf ops i ≠ some s
  step : ∀ i o, ops[i]? = some o → (awanted ops (Tof ops v t0 (fun _ => true) i) o = true → okOps P o.op = true) ∧
    ((awanted ops (Tof ops v t0 (fun _ => true) i) o = false ∧ v i = Go.undef ∧ E i = false ∧ F i = false ∧ mem (i + 1) = mem i) ∨
     (awanted ops (Tof ops v t0 (fun _ => true) i) o = true ∧ E i = true ∧ F i = false ∧ AStep P o.op (ev (Tof ops v t0 (fun _ => true) i)) (mem i) (v i) (mem (i + 1))) ∨
     (awanted ops (Tof ops v t0 (fun _ => true) i) o = true ∧ E i = false ∧ F i = false ∧ mem (i + 1) = mem i ∧ (aPure P (ev (Tof ops v t0 (fun _ => true) i)) o.op = some (v i) ∨
        ∀ k, StageOk ops.size E W i k → aRead P (mem k) (ev (Tof ops v t0 (fun _ => true) i)) o.op = some (v i))) ∨
     (awanted ops (Tof ops v t0 (fun _ => true) i) o = true ∧ E i = false ∧ F i = true ∧ Makes P o.op (ev (Tof ops v t0 (fun _ => true) i)) (mem i) (v i) (mem (i + 1))))
def vA (F : Nat → Bool) (v : Nat → Value) (κ j : Nat) : Value := if F j && decide (κ ≤ j) then goneV else v j
theorem vA_lt {F : Nat → Bool} {v : Nat → Value} {κ j : Nat} (h : j < κ) : vA F v κ j = v j := by
 unfold vA; rw [if_neg]; simp only [Bool.and_eq_true, decide_eq_true_eq, not_and]; omega
theorem vA_no {F : Nat → Bool} {v : Nat → Value} {κ j : Nat} (h : F j = false) : vA F v κ j = v j := by
 unfold vA; rw [h]; rfl
theorem vA_gone {F : Nat → Bool} {v : Nat → Value} {κ j : Nat} (h : F j = true) (hk : κ ≤ j) : vA F v κ j = goneV := by
 unfold vA; rw [h, decide_eq_true hk]; rfl
theorem vA_succ {F : Nat → Bool} {v : Nat → Value} {κ j : Nat} (h : j ≠ κ) : vA F v (κ + 1) j = vA F v κ j := by
 unfold vA
 have : decide (κ + 1 ≤ j) = decide (κ ≤ j) := by
  by_cases hk : κ ≤ j
  ·rw [decide_eq_true hk, decide_eq_true (by omega)]
  ·rw [decide_eq_false hk, decide_eq_false (by omega)]
 rw [this]
/-- A row that was made ahead of its time. -/
def Early (β : Beta) (m : Mem) (w0 w : World) (vf vcf : Value) (mf mf1 : Mem) (r : Nat) : Prop :=
  ∃ c c' elem, Stands mf c.size vf vcf r ∧ mf1 = mf.push (.cells true c) ∧ ARel β m.size c c' ∧ w.heap[r]? = some (.cells c' elem) ∧ (∀ b, (Mem.get m b).live = true → β.blk b ≠ r) ∧ w0.heap.size ≤ r
structure InvF (P : Program) (ops : Array Oper) (t0 : Array Value) (v : Nat → Value) (mem : Nat → Mem) (E F : Nat → Bool) (β0 : Beta) (w0 : World) (ts0 : Array Value)
    (D : Nat → Bool) (κ : Nat) (ts : Array Value) (w : World) (β : Beta) (vc : Nat → Value) (r : Nat → Nat) : Prop where
  le : κ ≤ ops.size
  sync : ∀ j, j < ops.size → E j = true → (D j = true ↔ j < κ)
  hts : ts = Tof ops vc ts0 D ops.size
  rel : Rel P β (mem κ) w
  fr0 : ARel β (mem κ).size t0 ts0
  vals : ∀ j, j < ops.size → D j = true → VRel β (mem κ).size (vA F v κ j) (vc j)
  early : ∀ f, f < ops.size → D f = true → F f = true → κ ≤ f → Early β (mem κ) w0 w (v f) (vc f) (mem f) (mem (f + 1)) (r f)
  dist : ∀ f g, f < ops.size → D f = true → F f = true → κ ≤ f → g < ops.size → D g = true → F g = true → κ ≤ g → f ≠ g → r f ≠ r g
  stp : Stp β0 (mem 0) w0 β (mem κ) w
section
variable {P : Program} {ops : Array Oper} {W : Array Nat} {t0 : Array Value} {v : Nat → Value} {mem : Nat → Mem} {E F : Nat → Bool} {β0 : Beta} {w0 : World} {ts0 : Array Value}
  {D : Nat → Bool} {κ : Nat} {ts : Array Value} {w : World} {β : Beta} {vc : Nat → Value} {r : Nat → Nat}
theorem InvF.frame (h : InvF P ops t0 v mem E F β0 w0 ts0 D κ ts w β vc r) : ARel β (mem κ).size (Tof ops (vA F v κ) t0 D ops.size) ts := by
 rw [h.hts]; exact Tof_rel h.fr0 _ h.vals
theorem CanonF.mem_still (hC : CanonF P ops W t0 v mem E F) {i : Nat} (hi : i < ops.size) (he : E i = false) (hf : F i = false) : mem (i + 1) = mem i := by
 obtain ⟨_, h1⟩ := hC.step i ops[i] (Array.getElem?_eq_getElem hi)
 rcases h1 with ⟨_, _, _, _, h2⟩ | ⟨_, h2, _⟩ | ⟨_, _, _, h2, _⟩ | ⟨_, _, h2, _⟩
 ·exact h2
 ·rw [he] at h2; cases h2
 ·exact h2
 ·rw [hf] at h2; cases h2
theorem InvF.absorb (hC : CanonF P ops W t0 v mem E F) (h : InvF P ops t0 v mem E F β0 w0 ts0 D κ ts w β vc r) (hlt : κ < ops.size) (he : E κ = false) (hf : F κ = true → D κ = true) :
  ∃ β', InvF P ops t0 v mem E F β0 w0 ts0 D (κ + 1) ts w β' vc r := by
 have hsync : ∀ j, j < ops.size → E j = true → (D j = true ↔ j < κ + 1) := by
  intro j hj hej
  rw [h.sync j hj hej]
  have : j ≠ κ := by rintro rfl; rw [he] at hej; cases hej
  omega
 cases hF : F κ with
 | false =>
  have hm := hC.mem_still hlt he hF
  have hv : ∀ j, vA F v (κ + 1) j = vA F v κ j := by
   intro j
   by_cases hj : j = κ
   ·subst hj; rw [vA_no hF, vA_no hF]
   ·exact vA_succ hj
  refine ⟨β, hlt, hsync, h.hts, by rw [hm]; exact h.rel, by rw [hm]; exact h.fr0, fun j hj hD => by rw [hm, hv]; exact h.vals j hj hD, fun f hfl hD hff hk => by rw [hm]; exact h.early f hfl hD hff (by omega),
   fun f g a1 a2 a3 a4 b1 b2 b3 b4 hne => h.dist f g a1 a2 a3 (by omega) b1 b2 b3 (by omega) hne, by rw [hm]; exact h.stp⟩
 | true =>
  obtain ⟨c, c', elem, hst, hmf, hcc, hO, hfree, hr0⟩ := h.early κ hlt (hf hF) hF (Nat.le_refl _)
  have hag := Beta.ext_agree β (mem κ).size (r κ) c'.size
  have hblk : (β.ext (mem κ).size (r κ) c'.size).blk (mem κ).size = r κ := by simp [Beta.ext]
  have hsh : (β.ext (mem κ).size (r κ) c'.size).sh (mem κ).size = 0 := by simp [Beta.ext]
  have hcap : (β.ext (mem κ).size (r κ) c'.size).cap (mem κ).size = c'.size := by simp [Beta.ext]
  have hobj : ObjRel (β.ext (mem κ).size (r κ) c'.size) ((mem κ).size + 1) (mem κ).size (.cells true c) (.cells c' elem) := by
   refine ⟨c', elem, (0, 0), rfl, ?_, fun i x hi => ?_, fun _ => ⟨hsh, hcap.symm, fun i => by omega⟩⟩
   ·rw [hsh, hcap, hcc.1]; omega
   ·obtain ⟨x', hx', hr⟩ := hcc.get hi
    exact ⟨x', by rw [hsh, Nat.zero_add]; exact hx', hr.mono hag (by omega)⟩
  have hR := h.rel.adopt (cap := c'.size) hO hfree hobj
  have hS := h.stp.adopt (o := .cells true c) (cap := c'.size) hr0
  have hms : (mem (κ + 1)).size = (mem κ).size + 1 := by rw [hmf]; simp
  refine ⟨_, hlt, hsync, h.hts, by rw [hmf]; exact hR, by rw [hms]; exact h.fr0.mono hag (by omega), fun j hj hD => ?_, fun f hfl hD hff hk => ?_,
   fun f g a1 a2 a3 a4 b1 b2 b3 b4 hne => h.dist f g a1 a2 a3 (by omega) b1 b2 b3 (by omega) hne, by rw [hmf]; exact hS⟩
  ·by_cases hjk : j = κ
   ·subst hjk
    rw [vA_lt (by omega), hms]
    exact hst _ _ (by omega) hblk hsh (by rw [hcap, hcc.1])
   ·rw [vA_succ hjk, hms]; exact (h.vals j hj hD).mono hag (by omega)
  ·obtain ⟨d, d', elem2, q3, q4, q7, q8, q9, q10⟩ := h.early f hfl hD hff (by omega)
   refine ⟨d, d', elem2, q3, q4, by rw [hms]; exact q7.mono hag (by omega), q8, fun b hb => ?_, q10⟩
   rw [hmf, get_push] at hb
   by_cases hbe : b = (mem κ).size
   ·subst hbe; rw [hblk]; exact h.dist κ f hlt (hf hF) hF (Nat.le_refl _) hfl hD hff (by omega) (by omega)
   ·rw [if_neg hbe] at hb
    have : (β.ext (mem κ).size (r κ) c'.size).blk b = β.blk b := by simp [Beta.ext, hbe]
    rw [this]; exact q9 b hb
theorem InvF.absorbTo (hC : CanonF P ops W t0 v mem E F) : ∀ (d : Nat) {κ : Nat} {β : Beta}, InvF P ops t0 v mem E F β0 w0 ts0 D κ ts w β vc r → κ + d ≤ ops.size → (∀ j, κ ≤ j → j < κ + d → E j = false ∧ (F j = true → D j = true)) →
  ∃ β', InvF P ops t0 v mem E F β0 w0 ts0 D (κ + d) ts w β' vc r
 | 0, κ, β, h, _, _ => ⟨β, h⟩
 | d + 1, κ, β, h, hle, hj => by
  obtain ⟨β1, h1⟩ := h.absorb hC (by omega) (hj κ (Nat.le_refl _) (by omega)).1 (hj κ (Nat.le_refl _) (by omega)).2
  obtain ⟨β2, h2⟩ := InvF.absorbTo hC d h1 (by omega) (fun j a b => hj j (by omega) (by omega))
  exact ⟨β2, by rw [show κ + (d + 1) = κ + 1 + d by omega]; exact h2⟩
theorem InvF.still (hC : CanonF P ops W t0 v mem E F) (h : InvF P ops t0 v mem E F β0 w0 ts0 D κ ts w β vc r) {i : Nat} (hi : i < ops.size) (hD : D i = false) (hN : ∀ j, D j = true → (W.getD j 0).testBit i = false)
  (he : E i = false) (hf : F i = false) {x : Value} (hx : VRel β (mem κ).size (v i) x) :
  InvF P ops t0 v mem E F β0 w0 ts0 (fun k => if k = i then true else D k) κ (put ts ops[i].dst x) w β (fun j => if j = i then x else vc j) r := by
 have hset : ∀ j, j ≠ i → (if j = i then true else D j) = true → D j = true := fun j hj h => by rwa [if_neg hj] at h
 have hne : ∀ f, F f = true → f ≠ i := by rintro f hff rfl; rw [hf] at hff; cases hff
 refine ⟨h.le, fun j hj hej => ?_, ?_, h.rel, h.fr0, fun j hj hDj => ?_, fun f hfl hDf hff hk => ?_, fun f g a1 a2 a3 a4 b1 b2 b3 b4 hfg => ?_, h.stp⟩
 ·have : j ≠ i := by rintro rfl; rw [he] at hej; cases hej
  rw [if_neg this]; exact h.sync j hj hej
 ·rw [h.hts]; exact Tof_more hC.oks hi hD hN x
 ·by_cases hji : j = i
  ·subst hji; rw [if_pos rfl, vA_no hf]; exact hx
  ·rw [if_neg hji]; exact h.vals j hj (hset j hji hDj)
 ·rw [if_neg (hne f hff)]; exact h.early f hfl (hset f (hne f hff) hDf) hff hk
 ·exact h.dist f g a1 (hset f (hne f a3) a2) a3 a4 b1 (hset g (hne g b3) b2) b3 b4 hfg
end
end Go.AM

/-! A21 -/
namespace Go.AM
section
variable {P : Program} {ops : Array Oper} {W : Array Nat} {t0 : Array Value} {v : Nat → Value} {mem : Nat → Mem} {E F : Nat → Bool} {β0 : Beta} {w0 : World} {ts0 : Array Value} {b : FB} {ds : List Deferred}
/-- The same operations in another order of the text. -/
def Moved (ops opsR : Array Oper) (π : Nat → Nat) : Prop := ∀ i (h : i < ops.size), ∃ oR, opsR[π i]? = some oR ∧ oR.op = ops[i].op ∧ oR.dst = ops[i].dst ∧ ∀ ts, Region.wanted oR (yielded opsR ts) = Region.wanted ops[i] (yielded ops ts)
theorem Moved.refl (ops : Array Oper) : Moved ops ops id := fun i h => ⟨_, Array.getElem?_eq_getElem h, rfl, rfl, fun _ => rfl⟩
theorem CanonF.rows (hC : CanonF P ops W t0 v mem E F) {opsR : Array Oper} {π : Nat → Nat} (hM : Moved ops opsR π) : ∀ {D : Nat → Bool} {l : List Nat}, Ord ops W D l → ∀ (κ : Nat) (ts : Array Value) (w : World) (β : Beta) (vc : Nat → Value) (r : Nat → Nat), (κ = 0 ∨ E (κ - 1) = true) →
  InvF P ops t0 v mem E F β0 w0 ts0 D κ ts w β vc r →
  RR P b opsR ds (fun ts' w' => ∃ β', ARel β' (mem ops.size).size (Tof ops v t0 (fun _ => true) ops.size) ts' ∧ Rel P β' (mem ops.size) w' ∧ Stp β0 (mem 0) w0 β' (mem ops.size) w') (l.map π) ts w := by
 intro D l hO
 induction hO with
 | @nil D hall =>
  intro κ ts w β vc r hκ h
  obtain ⟨β', h'⟩ := h.absorbTo hC (ops.size - κ) (by have := h.le; omega) (fun j h1 h2 => ⟨by
   cases he : E j with
   | false => rfl
   | true => have := (h.sync j (by omega) he).1 (hall j (by omega)); omega, fun _ => hall j (by omega)⟩)
  rw [show κ + (ops.size - κ) = ops.size by have := h.le; omega] at h'
  refine ⟨β', ?_, h'.rel, h'.stp⟩
  have := h'.frame
  rw [Tof_congr (v' := v) (D' := fun _ => true) _ (fun j hj => hall j hj) (fun j hj _ => vA_lt hj)] at this
  exact this
 | @cons D i l hi hD hW hN hO ih =>
  intro κ ts w β vc r hκ h
  have ho : ops[i]? = some ops[i] := Array.getElem?_eq_getElem hi
  obtain ⟨oR, hoR, hopR, hdR, hwR⟩ := hM i hi
  rw [List.map_cons]
  obtain ⟨hokp, hstep⟩ := hC.step i ops[i] ho

  have hbeh : (E i = true ∨ F i = true) → κ ≤ i := by
   intro hef
   rcases Nat.lt_or_ge i κ with hlt | hge
   ·exfalso
    rcases hκ with h0 | h0
    ·omega
    ·have hk1 : κ - 1 < ops.size := by have := h.le; omega
     have hDk := (h.sync (κ - 1) hk1 h0).2 (by omega)
     have hne : κ - 1 ≠ i := by intro e; rw [e, hD] at hDk; cases hDk
     have hb : (W.getD (κ - 1) 0).testBit i = true := by
      rcases hef with he | hf
      ·exact hC.chain i (κ - 1) (by omega) hk1 he h0
      ·exact hC.late i (κ - 1) (by omega) hk1 hf h0
     rw [hN _ hDk] at hb; cases hb
   ·exact hge

  have hguard : ∀ κ' d g q, ops[i].guard = some (g, q) → (ops[g]?).bind (·.dst) = some d → (Tof ops (vA F v κ') t0 D ops.size)[d]? = (Tof ops v t0 (fun _ => true) i)[d]? := by
   intro κ' d g q hg hd
   rw [Tof_slot hC.oks hi hD hW hN (s := d) (by unfold slotsOf; rw [hg]; simp only [hd, Option.toList_some]; simp)]
   refine Tof_val i (fun j hj hdj => ?_)
   cases hF : F j with
   | false => exact vA_no hF
   | true => exact absurd hdj (hC.gd j i _ g q ho hg hF d hd)
  have hwanted : ∀ κ', awanted ops (Tof ops (vA F v κ') t0 D ops.size) ops[i] = awanted ops (Tof ops v t0 (fun _ => true) i) ops[i] := by
   intro κ'
   unfold awanted Region.wanted
   cases hg : ops[i].guard with
   | none => rfl
   | some g =>
    obtain ⟨g, want⟩ := g
    simp only
    congr 1
    unfold yielded
    cases hd : (ops[g]?).bind (·.dst) with
    | none => rfl
    | some d =>
     simp only [Option.bind_some]
     rw [hguard κ' d g want hg hd]
  have hslot : ∀ κ', awanted ops (Tof ops v t0 (fun _ => true) i) ops[i] = true → (E i = true → κ' = i) → (E i = false → κ' = κ) → ∀ s, s ∈ tmpsOf ops[i].op.operands.toList → (Tof ops (vA F v κ') t0 D ops.size)[s]? = (Tof ops v t0 (fun _ => true) i)[s]? := by
   intro κ' hwn h1 h2 s hs
   have hs' : s ∈ slotsOf ops ops[i] := by unfold slotsOf; rw [List.mem_append]; exact .inl hs
   rw [Tof_slot hC.oks hi hD hW hN hs']
   refine Tof_val i (fun j hj hd => ?_)
   cases hF : F j with
   | false => exact vA_no hF
   | true =>
    refine vA_lt ?_
    cases hE : E i with
    | true => rw [h1 hE]; exact hj
    | false =>
     rw [h2 hE]
     obtain ⟨e, q1, q2, q3, q4⟩ := hC.dep j i _ s hj ho hF hd hs hwn hE
     have := (h.sync e (by omega) q3).1 (hW e q4)
     omega
  have hev : ∀ κ', awanted ops (Tof ops v t0 (fun _ => true) i) ops[i] = true → (E i = true → κ' = i) → (E i = false → κ' = κ) → ∀ x ∈ ops[i].op.operands, ev (Tof ops v t0 (fun _ => true) i) x = ev (Tof ops (vA F v κ') t0 D ops.size) x := by
   intro κ' hwn h1 h2 x hx
   refine ev_slots (fun s hs => ?_)
   exact (hslot κ' hwn h1 h2 s (mem_tmps hx hs)).symm
  rcases hstep with ⟨h1, h2, h3, h4, h5⟩ | ⟨h1, h2, h3, h4⟩ | ⟨h1, h2, h3, h4, h5⟩ | ⟨h1, h2, h3, hmk⟩
  ·
   have hT := h.frame
   simp only [RR, hoR, hwR, hdR, wanted_rel hT, hwanted κ, h1, Bool.false_eq_true, if_false]
   exact ih κ _ w β _ r hκ (h.still hC hi hD hN h3 h4 (by rw [h2]; exact .undef _ _))
  ·
   have hle := hbeh (.inl h2)
   obtain ⟨β1, h'⟩ := h.absorbTo hC (i - κ) (by omega) (fun j a1 a2 => ⟨by
    cases he : E j with
    | false => rfl
    | true =>
     have := (h.sync j (by omega) he).1 (hW j (hC.chain j i (by omega) hi he h2)); omega,
    fun hf => hW j (hC.late j i (by omega) hi hf h2)⟩)
   rw [show κ + (i - κ) = i by omega] at h'
   have hT := h'.frame
   have hAO := AStep.aop (o := oR) (by rw [hopR]; exact hokp h1) (by rw [hopR]; exact AStep.congr (hev i h1 (fun _ => rfl) (fun e => by rw [h2] at e; cases e)) h4)
   simp only [RR, hoR, hwR, wanted_rel hT, hwanted i, h1, if_true]
   intro ops' i' rest k cs ho' hw'
   obtain ⟨x, w1, ⟨β2, hv2, hR2, hS2⟩, s⟩ := hAO.2 b β1 w ts ds h'.rel hT ops' i' rest k cs ho' hw'
   refine ⟨x, w1, ?_, s⟩
   rw [hdR]
   have hset : ∀ j, j ≠ i → (if j = i then true else D j) = true → D j = true := fun j hj h => by rwa [if_neg hj] at h
   have hni : ∀ f, F f = true → f ≠ i := by rintro f hff rfl; rw [h3] at hff; cases hff
   refine ih (i + 1) _ w1 β2 (fun j => if j = i then x else vc j) r (.inr (by simpa using h2)) ⟨by omega, fun j hj hej => ?_, ?_, hR2, h'.fr0.mono hS2.agree hS2.msz, fun j hj hDj => ?_, fun f hfl hDf hff hk => ?_, fun f g a1 a2 a3 a4 b1 b2 b3 b4 hfg => ?_, h'.stp.trans hS2⟩
   ·by_cases hji : j = i
    ·subst hji; rw [if_pos rfl]; exact ⟨fun _ => by omega, fun _ => rfl⟩
    ·rw [if_neg hji, h'.sync j hj hej]; omega
   ·rw [h'.hts]; exact Tof_more hC.oks hi hD hN x
   ·by_cases hji : j = i
    ·subst hji; rw [if_pos rfl, vA_no h3]; exact hv2
    ·rw [if_neg hji, vA_succ hji]; exact (h'.vals j hj (hset j hji hDj)).mono hS2.agree hS2.msz
   ·have hfi := hni f hff
    simp only [if_neg hfi]
    obtain ⟨d, d', elem2, q3, q4, q7, q8, q9, q10⟩ := h'.early f hfl (hset f hfi hDf) hff (by omega)
    have hlt : r f < w.heap.size := (Array.getElem?_eq_some_iff.1 q8).1
    refine ⟨d, d', elem2, q3, q4, q7.mono hS2.agree hS2.msz, ?_, fun bb hb => ?_, q10⟩
    ·rw [hS2.keep (r f) hlt (fun bb hb => q9 bb (AObj.live_of_rw hb))]; exact q8
    ·rcases hS2.freshL bb hb with e1 | ⟨b0, e1, e2⟩
     ·omega
     ·rw [e2]; exact q9 b0 e1
   ·exact h'.dist f g a1 (hset f (hni f a3) a2) a3 (by omega) b1 (hset g (hni g b3) b2) b3 (by omega) hfg
  ·
   have hT := h.frame
   have hev' := hev κ h1 (fun e => by rw [h2] at e; cases e) (fun _ => rfl)
   simp only [RR, hoR, hwR, wanted_rel hT, hwanted κ, h1, if_true]
   have key : ∃ x, noDefer oR.op = true ∧ (execOp (ev ts) oR).run P w = .ok (.value x) w ∧ VRel β (mem κ).size (v i) x := by
    rcases h5 with h5 | h5
    ·rw [aPure_congr hev'] at h5
     have hk := hokp h1
     rw [← hopR] at h5 hk
     obtain ⟨x, hr, hx⟩ := aPure_sound (w := w) (ops_rel h.rel hT hk) h5
     exact ⟨x, noDefer_pure h5, hr, hx⟩
    ·have h6 := h5 κ ⟨h.le, hκ, fun j hj he hb => (h.sync j hj he).1 (hW j hb), fun j hj he hb => by
      rcases Nat.lt_or_ge j κ with hlt | hge
      ·have := hN j ((h.sync j hj he).2 hlt)
       rw [hb] at this; cases this
      ·exact hge⟩
     rw [aRead_congr hev'] at h6
     have hk := hokp h1
     rw [← hopR] at h6 hk
     obtain ⟨x, hr, hx⟩ := aRead_sound h.rel (ops_rel h.rel hT hk) h6
     exact ⟨x, noDefer_read h6, hr, hx⟩
   obtain ⟨x, hnd, hr, hx⟩ := key
   refine OR.value hnd hr ?_
   rw [hdR]
   exact ih κ _ w β _ r hκ (h.still hC hi hD hN h2 h3 hx)
  ·
   have hle := hbeh (.inr h3)
   have hT := h.frame
   have hev' := hev κ h1 (fun e => by rw [h2] at e; cases e) (fun _ => rfl)
   simp only [RR, hoR, hwR, wanted_rel hT, hwanted κ, h1, if_true]
   obtain ⟨hnd, c, q4, q6⟩ := hmk.run
   have hops := ops_rel h.rel hT (hokp h1)
   obtain ⟨vcf, c', elem, hcc, hex, hst, hgo⟩ := q6 (β := β) (N := (mem κ).size) (w := w) (ρ' := ev ts) (o := oR) hopR (fun x hx => by rw [hev' _ hx]; exact hops _ hx)
   refine OR.value (by rw [hopR]; exact hnd) hex ?_
   rw [hdR]
   have hset : ∀ j, j ≠ i → (if j = i then true else D j) = true → D j = true := fun j hj h => by rwa [if_neg hj] at h
   have hrl : ∀ f, f < ops.size → D f = true → F f = true → κ ≤ f → r f < w.heap.size := fun f a1 a2 a3 a4 => by
    obtain ⟨_, _, _, _, _, _, q8, _⟩ := h.early f a1 a2 a3 a4
    exact (Array.getElem?_eq_some_iff.1 q8).1
   refine ih κ _ _ β (fun j => if j = i then vcf else vc j) (fun j => if j = i then w.heap.size else r j) hκ
    ⟨h.le, fun j hj hej => ?_, ?_, h.rel.more _, h.fr0, fun j hj hDj => ?_, fun f hfl hDf hff hk => ?_, fun f g a1 a2 a3 a4 b1 b2 b3 b4 hfg => ?_, h.stp.more _⟩
   ·have : j ≠ i := by rintro rfl; rw [h2] at hej; cases hej
    rw [if_neg this]; exact h.sync j hj hej
   ·rw [h.hts]; exact Tof_more hC.oks hi hD hN _
   ·by_cases hji : j = i
    ·subst hji; rw [if_pos rfl, vA_gone h3 hle]; exact hgo _ _
    ·rw [if_neg hji]; exact h.vals j hj (hset j hji hDj)
   ·by_cases hfi : f = i
    ·subst hfi
     simp only [if_true]
     refine ⟨c, c', elem, hst, q4, hcc, by simp [World.pushObj], fun bb hb e => ?_, h.stp.wsz⟩
     have := h.rel.blk_lt hb; omega
    ·simp only [if_neg hfi]
     obtain ⟨d, d', elem2, r3, r4, r7, r8, r9, r10⟩ := h.early f hfl (hset f hfi hDf) hff hk
     have hlt : r f < w.heap.size := (Array.getElem?_eq_some_iff.1 r8).1
     exact ⟨d, d', elem2, r3, r4, r7, by simp only [World.pushObj]; rw [Array.getElem?_push_lt hlt, ← r8, Array.getElem?_eq_getElem hlt], r9, r10⟩
   ·by_cases hfi : f = i
    ·subst hfi
     have hgi : g ≠ f := fun e => hfg e.symm
     rw [if_pos rfl, if_neg hgi]
     have := hrl g b1 (hset g hgi b2) b3 b4; omega
    ·by_cases hgi : g = i
     ·subst hgi
      rw [if_neg hfi, if_pos rfl]
      have := hrl f a1 (hset f hfi a2) a3 a4; omega
     ·rw [if_neg hfi, if_neg hgi]
      exact h.dist f g a1 (hset f hfi a2) a3 a4 b1 (hset g hgi b2) b3 b4 hfg
theorem CanonF.loops (hC : CanonF P ops W t0 v mem E F) : ∀ i, i ≤ ops.size → LoopsIn (mem 0) (mem i)
 | 0, _ => .refl _
 | i + 1, hi => by
  refine (CanonF.loops hC i (by omega)).trans ?_
  have hlt : i < ops.size := by omega
  obtain ⟨hokp, h1⟩ := hC.step i ops[i] (Array.getElem?_eq_getElem hlt)
  rcases h1 with ⟨_, _, _, _, h2⟩ | ⟨h0, _, _, h2⟩ | ⟨_, _, _, h2, _⟩ | ⟨_, _, _, h2⟩
  ·rw [h2]; exact .refl _
  ·exact (AStep.aop (hokp h0) h2).1
  ·rw [h2]; exact .refl _
  ·obtain ⟨_, _, q4, _⟩ := h2.run
   rw [q4]; exact .push _ _
end
theorem ACd.canonFM {P : Program} {id : Nat} {ops opsR : Array Oper} {W : Array Nat} {π : Nat → Nat} {t0 : Array Value} {v : Nat → Value} {mem : Nat → Mem} {E F : Nat → Bool} (hm : P.follows .mixedOrders = true) (hM : Moved ops opsR π)
  (hO : ∀ q, ∃ l, Ord ops W (fun _ => false) l ∧ l.map π = Region.schedule (P.follows .mixedOrders) opsR q) (hC : CanonF P ops W t0 v mem E F) :
  ACd P (.region id opsR true) t0 (mem 0) .normal (Tof ops v t0 (fun _ => true) ops.size) (mem ops.size) := by
 refine ⟨hC.loops ops.size (Nat.le_refl _), fun b β w ts ds n hR hT hM' hn hd hI => ?_⟩
 intro k cs
 have hdr : ({ w with drawn := w.drawn + 1 } : World).heap = w.heap := rfl
 have hD0 : ∀ n, Tof ops (fun _ => Go.undef) ts (fun _ => false) n = ts := by
  intro n
  induction n with
  | zero => rfl
  | succ n ih => simp only [Tof]; exact ih
 obtain ⟨l, hl, hlm⟩ := hO (w.tape w.drawn (.order b.fn id))
 have hrr := hC.rows (b := b) (ds := ds) (β0 := β) (w0 := { w with drawn := w.drawn + 1 }) (ts0 := ts) hM hl 0 ts { w with drawn := w.drawn + 1 } β (fun _ => Go.undef) (fun _ => 0) (.inl rfl)
  ⟨Nat.zero_le _, fun j hj hej => ⟨fun h => by (cases h), fun h => by omega⟩, (hD0 _).symm, hR.drew hdr, hT, fun j _ h => by (cases h), fun f _ h => by (cases h), fun f g _ h => by (cases h), .refl _ _ _⟩
 rw [hlm] at hrr
 obtain ⟨ts', w', ⟨β', hT', hR', hS'⟩, s⟩ := RR.steps _ _ _ hrr k cs
 have hS2 : Stp β (mem 0) w β' (mem ops.size) w' := (Stp.drew (w' := { w with drawn := w.drawn + 1 }) hdr rfl rfl rfl).trans hS'
 exact ⟨.normal, ts', ds, w', ⟨rfl, hM'.stp hR hS2, hd, β', hT', hR', hS2⟩, (Steps.one st_region_draw).trans s⟩
end Go.AM

/-! A22 -/
namespace Go.AM
/-- The same world, but for what has been drawn. -/
def Drew (w w' : World) : Prop := w'.heap = w.heap ∧ w'.os = w.os ∧ w'.tape = w.tape ∧ w'.output = w.output
theorem run_mapNext {P : Program} {w : World} {n : Nat} (h : 0 < n) : ∃ c w', c < n ∧ (choose (.mapNext n)).run P w = .ok c w' ∧ Drew w w' := by
 rw [run_choose]
 by_cases hf : n ≤ 1
 ·refine ⟨0, w, h, by rw [if_pos (by simpa [Question.forced] using hf)], rfl, rfl, rfl, rfl⟩
 ·exact ⟨w.tape w.drawn (.mapNext n) % n, { w with drawn := w.drawn + 1 }, Nat.mod_lt _ h, by rw [if_neg (by simpa [Question.forced] using hf)]; rfl, rfl, rfl, rfl, rfl⟩
theorem run_next {P : Program} {w : World} {r mm clk : Nat} {es : Array MapEntry} {seen : Array Nat} {ty : TypeId} (hr : w.heap[r]? = some (.mapIter (some mm) clk seen clk)) (hm : w.heap[mm]? = some (.map es clk)) (hb : ∀ (i : Nat) e, es[i]? = some e → e.born < clk) :
  (∃ w', (Instr.next (.pointer (some ⟨r, 0, none⟩)) false ty).run P w = .ok (.tuple #[.bool false]) w' ∧ Drew w w' ∧ ∀ (i : Nat) e, es[i]? = some e → seen.contains e.born = true) ∨
  (∃ (i : Nat) (e : MapEntry) (w' : World), es[i]? = some e ∧ seen.contains e.born = false ∧ (Instr.next (.pointer (some ⟨r, 0, none⟩)) false ty).run P w = .ok (.tuple #[.bool true, e.key, e.val]) (World.putObj w' r (.mapIter (some mm) clk (seen.push e.born) clk)) ∧ Drew w w') := by
 have hgr : (getObj r).run P w = .ok (.mapIter (some mm) clk seen clk) w := by simp [getObj, Sem.run, hr]
 have hgm : (getObj mm).run P w = .ok (.map es clk) w := by simp [getObj, Sem.run, hm]
 have hmem : ∀ e, e ∈ es → e.born < clk := fun e he => by
  obtain ⟨i, hi, rfl⟩ := Array.mem_iff_getElem.1 he
  exact hb i _ (Array.getElem?_eq_getElem hi)
 have hall : (!seen.isEmpty && !es.isEmpty && es.all (fun e => decide (e.born ≥ clk))) = false := by
  cases he : es.isEmpty with
  | true => simp
  | false =>
   have : es.all (fun e => decide (e.born ≥ clk)) = false := by
    rw [Array.all_eq_false]
    have h0 : 0 < es.size := by
     rcases Nat.eq_zero_or_pos es.size with h | h
     ·have : es = #[] := Array.eq_empty_of_size_eq_zero h
      rw [this] at he; cases he
     ·exact h
    exact ⟨0, h0, by have := hmem es[0] (Array.getElem_mem h0); simp; exact this⟩
   rw [this, Bool.and_false]
 generalize hleft : es.filter (fun e => !seen.contains e.born) = left
 have hlm : ∀ e, e ∈ left → e ∈ es ∧ seen.contains e.born = false := fun e he => by
  rw [← hleft, Array.mem_filter] at he
  exact ⟨he.1, by simpa using he.2⟩
 have hold : left.filter (fun e => decide (e.born < clk)) = left := by
  rw [Array.filter_eq_self]
  intro e he; simpa using hmem e (hlm e he).1
 have hnew : left.filter (fun e => decide (e.born ≥ clk)) = #[] := by
  rw [Array.filter_eq_empty_iff]
  intro e he; have := hmem e (hlm e he).1; simp; exact this
 by_cases h0 : left.size = 0
 ·left
  have he : left = #[] := Array.eq_empty_of_size_eq_zero h0
  obtain ⟨c, w', hc, hrun, hd⟩ := run_mapNext (P := P) (w := w) (n := 1) (by omega)
  obtain rfl : c = 0 := by omega
  refine ⟨w', ?_, hd, fun i e hi => ?_⟩
  ·subst he
   unfold Instr.next
   simp only [Sem.run_bind, hgr, hgm, Result.andThen_ok, hall, Bool.false_eq_true, if_false, hleft, hold, hnew]
   simp [hrun]
  ·cases hs : seen.contains e.born with
   | true => rfl
   | false =>
    have : e ∈ left := by
     rw [← hleft, Array.mem_filter]
     exact ⟨Array.mem_of_getElem? hi, by simpa using hs⟩
    rw [he] at this; simp at this
 ·right
  obtain ⟨c, w', hc, hrun, hd⟩ := run_mapNext (P := P) (w := w) (n := left.size) (by omega)
  have hcl : left[c]? = some left[c] := Array.getElem?_eq_getElem hc
  obtain ⟨hin, hns⟩ := hlm left[c] (Array.getElem_mem hc)
  obtain ⟨i, hi, hie⟩ := Array.mem_iff_getElem.1 hin
  have hne : left.isEmpty = false := by
   cases he : left.isEmpty with
   | false => rfl
   | true => exact absurd (by simpa [Array.isEmpty] using he) h0
  have hset : (setObj r (.mapIter (some mm) clk (seen.push left[c].born) clk)).run P w' = .ok () (World.putObj w' r (.mapIter (some mm) clk (seen.push left[c].born) clk)) := by
   have : w'.heap[r]? = some (.mapIter (some mm) clk seen clk) := by rw [hd.1]; exact hr
   simp [setObj, Sem.run, this, World.putObj]
  refine ⟨i, left[c], w', by rw [Array.getElem?_eq_getElem hi, hie], hns, ?_, hd⟩
  unfold Instr.next
  simp only [Sem.run_bind, hgr, hgm, Result.andThen_ok, hall, Bool.false_eq_true, if_false, hleft, hold, hnew, hne]
  simp [hrun, hcl, hset]
theorem run_entry {P : Program} {w : World} {r mm clk i : Nat} {es : Array MapEntry} {seen : Array Nat} {e : MapEntry} (hr : w.heap[r]? = some (.mapIter (some mm) clk (seen.push e.born) clk)) (hm : w.heap[mm]? = some (.map es clk)) (hs : Stamped es clk) (hi : es[i]? = some e) :
  (Instr.entry (.pointer (some ⟨r, 0, none⟩))).run P w = .ok (.tuple #[e.key, e.val]) w := by
 have hgr : (getObj r).run P w = .ok (.mapIter (some mm) clk (seen.push e.born) clk) w := by simp [getObj, Sem.run, hr]
 have hgm : (getObj mm).run P w = .ok (.map es clk) w := by simp [getObj, Sem.run, hm]
 have hfind : es.find? (fun x => x.born == e.born) = some e := by
  cases hf : es.find? (fun x => x.born == e.born) with
  | none =>
   rw [Array.find?_eq_none] at hf
   exact absurd (by simp) (hf e (Array.mem_of_getElem? hi))
  | some x =>
   have h1 := Array.find?_some hf
   have h2 := Array.mem_of_find?_eq_some hf
   obtain ⟨j, hj, hje⟩ := Array.mem_iff_getElem.1 h2
   have := hs.2 j i x e (by rw [Array.getElem?_eq_getElem hj, hje]) hi (by simpa using h1)
   subst this
   rw [Array.getElem?_eq_getElem hj, hje] at hi
   exact hi
 unfold Instr.entry
 simp [hgr, hgm, hfind]
theorem run_range {P : Program} {w : World} {mm clk : Nat} {es : Array MapEntry} {t kt et : TypeId} (ht : undOf P t = some (.map kt et)) (hm : w.heap[mm]? = some (.map es clk)) :
  (Instr.range t (.map (some mm))).run P w = .ok (.pointer (some ⟨w.heap.size, 0, none⟩)) (World.pushObj w (.mapIter (some mm) clk #[] clk)) := by
 have hgm : (getObj mm).run P w = .ok (.map es clk) w := by simp [getObj, Sem.run, hm]
 unfold Instr.range
 simp [run_underlying ht, hgm, World.pushObj]
end Go.AM

/-! A23 -/
namespace Go.AM
theorem Rel.put_free {P : Program} {β : Beta} {m : Mem} {w : World} (h : Rel P β m w) {r : Nat} {O : Obj} (hf : ∀ b, (Mem.get m b).live = true → β.blk b ≠ r) : Rel P β m (World.putObj w r O) := by
 refine ⟨h.gsz, h.glob, fun b hb => ?_, h.inj⟩
 obtain ⟨O', e1, e2⟩ := h.obj b hb
 refine ⟨O', ?_, e2⟩
 simp only [World.putObj]
 rw [Array.getElem?_setIfInBounds_ne (fun e => hf b hb e.symm)]; exact e1
theorem Stp.put_free {β0 β : Beta} {m0 m : Mem} {w0 w : World} (h : Stp β0 m0 w0 β m w) {r : Nat} {O : Obj} (hr : w0.heap.size ≤ r) : Stp β0 m0 w0 β m (World.putObj w r O) := by
 refine ⟨h.msz, by have := h.wsz; simp [World.putObj]; omega, h.agree, h.fresh, fun i hi hn => ?_, h.os, h.tape, h.output, h.freshL⟩
 simp only [World.putObj]
 rw [Array.getElem?_setIfInBounds_ne (by omega)]; exact h.keep i hi hn
theorem Rel.freezeMap {P : Program} {β : Beta} {m : Mem} {w : World} (h : Rel P β m w) {b : Nat} {es : List (Value × Value)} (hb : Mem.get m b = .map true es) :
  Rel P β (m.setIfInBounds b (.map false es)) w ∧ Stp β m w β (m.setIfInBounds b (.map false es)) w := by
 have hrw : (Mem.get m b).rw = true := by rw [hb]; rfl
 have hlt := Mem.lt_of_live (AObj.live_of_rw hrw)
 have hrw' : ∀ b', (Mem.get (m.setIfInBounds b (.map false es)) b').rw = true → b ≠ b' ∧ (Mem.get m b').rw = true := fun b' hb' => by
  by_cases he : b = b'
  ·subst he; rw [get_set_self hlt] at hb'; cases hb'
  ·exact ⟨he, by rwa [get_set_ne he] at hb'⟩
 have hlive : ∀ b', (Mem.get (m.setIfInBounds b (.map false es)) b').live = true → (Mem.get m b').live = true := fun b' hb' => by
  by_cases he : b = b'
  ·subst he; exact AObj.live_of_rw hrw
  ·rwa [get_set_ne he] at hb'
 constructor
 ·refine ⟨by have := h.gsz; simpa using this, h.glob, fun b' hb' => ?_, fun b1 b2 hne h1 h2 => ?_⟩
  ·obtain ⟨O, e1, e2⟩ := h.obj b' (hlive b' hb')
   refine ⟨O, e1, ?_⟩
   by_cases he : b = b'
   ·subst he
    rw [hb] at e2
    obtain ⟨es', clk, r1, r2, r3, r4⟩ := e2
    rw [get_set_self hlt]
    exact ⟨es', clk, r1, r2, by simpa using r3, fun hf => by cases hf⟩
   ·rw [get_set_ne he]; simpa using e2
  ·obtain ⟨n1, l1⟩ := hrw' b1 h1
   rcases h.inj b1 b2 hne l1 (hlive b2 h2) with hi | ⟨c1, c2, a1, a2, a3⟩
   ·exact .inl hi
   ·have n2 : b ≠ b2 := fun e => by subst e; rw [hb] at a2; cases a2
    exact .inr ⟨c1, c2, by rw [get_set_ne n1]; exact a1, by rw [get_set_ne n2]; exact a2, a3⟩
 ·exact ⟨by simp, Nat.le_refl _, .refl _ _, fun b' hb' => .inr ⟨b', (hrw' b' hb').2, rfl⟩, fun _ _ _ => rfl, rfl, rfl, rfl, fun b' hb' => .inr ⟨b', hlive b' hb', rfl⟩⟩
/-- A name for a block of the machine that nothing else names. -/
theorem Rel.pushDead {P : Program} {β : Beta} {m : Mem} {w : World} (h : Rel P β m w) (r : Nat) : Rel P (β.ext m.size r 0) (m.push .dead) w := by
 have hag := Beta.ext_agree β m.size r 0
 have heq : ∀ b, b ≠ m.size → (β.ext m.size r 0).blk b = β.blk b := fun b hb => by simp [Beta.ext, hb]
 have hg : ∀ b, (Mem.get (m.push .dead) b).live = true → b ≠ m.size ∧ Mem.get (m.push .dead) b = Mem.get m b := fun b hb => by
  rw [get_push] at hb ⊢
  by_cases he : b = m.size
  ·rw [if_pos he] at hb; cases hb
  ·exact ⟨he, if_neg he⟩
 refine ⟨by have := h.gsz; simp; omega, fun g hg => ?_, fun b hb => ?_, fun b1 b2 hne h1 h2 => ?_⟩
 ·have hlt : g < m.size := Nat.lt_of_lt_of_le hg h.gsz
  rw [hag.blk g hlt, hag.sh g hlt]; exact h.glob g hg
 ·obtain ⟨n1, e⟩ := hg b hb
  rw [e] at hb ⊢
  obtain ⟨O, e1, e2⟩ := h.obj b hb
  exact ⟨O, by rw [heq b n1]; exact e1, e2.mono hag (by simp) (Mem.lt_of_live hb)⟩
 ·obtain ⟨n1, e1⟩ := hg b1 (AObj.live_of_rw h1)
  obtain ⟨n2, e2⟩ := hg b2 h2
  rw [e1] at h1; rw [e2] at h2
  rw [heq b1 n1, heq b2 n2]
  rcases h.inj b1 b2 hne h1 h2 with hi | ⟨c, c2, a1, a2, a3⟩
  ·exact .inl hi
  ·exact .inr ⟨c, c2, by rw [e1]; exact a1, by rw [e2]; exact a2, by rw [hag.sh b2 (Mem.lt_of_live h2)]; exact a3⟩
theorem Stp.pushDead {β0 β : Beta} {m0 m : Mem} {w0 w : World} (h : Stp β0 m0 w0 β m w) (r : Nat) : Stp β0 m0 w0 (β.ext m.size r 0) (m.push .dead) w := by
 have heq : ∀ b, b ≠ m.size → (β.ext m.size r 0).blk b = β.blk b := fun b hb => by simp [Beta.ext, hb]
 have hg : ∀ b, (Mem.get (m.push .dead) b).live = true → b ≠ m.size ∧ Mem.get (m.push .dead) b = Mem.get m b := fun b hb => by
  rw [get_push] at hb ⊢
  by_cases he : b = m.size
  ·rw [if_pos he] at hb; cases hb
  ·exact ⟨he, if_neg he⟩
 refine ⟨by have := h.msz; simp; omega, h.wsz, h.agree.trans (Beta.ext_agree β m.size r 0) h.msz, fun b hb => ?_, h.keep, h.os, h.tape, h.output, fun b hb => ?_⟩
 ·obtain ⟨n1, e⟩ := hg b (AObj.live_of_rw hb)
  rw [e] at hb; rw [heq b n1]; exact h.fresh b hb
 ·obtain ⟨n1, e⟩ := hg b hb
  rw [e] at hb; rw [heq b n1]; exact h.freshL b hb
/-- Blocks that are given up. -/
def Kills (m m' : Mem) : Prop := ∃ l : List Nat, m' = l.foldl (fun m b => m.setIfInBounds b .dead) m
theorem Kills.rel {P : Program} {β : Beta} {w : World} {m m' : Mem} (h : Kills m m') (hR : Rel P β m w) : Rel P β m' w ∧ Stp β m w β m' w := by
 obtain ⟨l, rfl⟩ := h
 induction l generalizing m with
 | nil => exact ⟨hR, .refl _ _ _⟩
 | cons b l ih =>
  obtain ⟨r1, r2⟩ := hR.kill b
  obtain ⟨r3, r4⟩ := ih r1
  exact ⟨r3, r2.trans r4⟩
theorem Kills.size {m m' : Mem} (h : Kills m m') : m'.size = m.size := by
 obtain ⟨l, rfl⟩ := h
 induction l generalizing m with
 | nil => rfl
 | cons b l ih => rw [List.foldl_cons, ih]; simp
theorem Kills.live {m m' : Mem} (h : Kills m m') {b : Nat} (hb : (Mem.get m' b).live = true) : (Mem.get m b).live = true := by
 obtain ⟨l, rfl⟩ := h
 induction l generalizing m with
 | nil => exact hb
 | cons a l ih =>
  have := ih hb
  rw [get_set] at this
  split at this
  ·cases this
  ·exact this
theorem RR.val {P : Program} {b : FB} {ops : Array Oper} {ds : List Deferred} {Q : Array Value → World → Prop} {i : Nat} {l : List Nat} {ts : Array Value} {w w' : World} {o : Oper} {v : Value}
  (ho : ops[i]? = some o) (hg : o.guard = none) (hd : noDefer o.op = true) (hr : (execOp (ev ts) o).run P w = .ok (.value v) w') (h : RR P b ops ds Q l (put ts o.dst v) w') : RR P b ops ds Q (i :: l) ts w := by
 simp only [RR, ho]
 rw [if_pos (by simp [Region.wanted, hg])]
 exact OR.value hd hr h
/-! ### The code of 'maps.Values' -/
def iterR0 (mt : TypeId) (p : String) (a : Array Edge) : Array Oper := #[⟨some 5, .load mt (.tmp 1), mt, p, #[], none⟩, ⟨some 6, .range mt (.tmp 5), 0, p, a, none⟩]
def iterR1 (p : String) (a : Array Edge) : Array Oper := #[⟨some 7, .next (.tmp 6) false, 0, p, #[], none⟩, ⟨some 8, .extract (.tmp 7) 0, 4, p, a, none⟩]
def iterRound (p : String) (a1 : Array Edge) (ops2 : Array Oper) (X : Code) : Code :=
  (Code.region 1 (iterR1 p a1) false).seq ((Code.cond (.tmp 8) .skip (.exit 0)).seq (.block 1 ((Code.region 2 ops2 false).seq X)))
def iterCode (mt : TypeId) (p : String) (a0 a1 : Array Edge) (ops2 : Array Oper) (X : Code) : Code :=
  (Code.region 0 (iterR0 mt p a0) false).seq (.block 0 (.loop (iterRound p a1 ops2 X)))
/-- The frame while the map is ranged over. -/
def IterFr (lp p0 it : Nat) (t : Array Value) : Prop := t.size = 15 ∧ t[0]? = some (.func (.yield lp) #[] #[]) ∧ t[1]? = some (.pointer (some ⟨p0, 0, none⟩)) ∧ t[6]? = some (.pointer (some ⟨it, 0, none⟩))
theorem IterFr.put {lp p0 it : Nat} {t : Array Value} (h : IterFr lp p0 it t) {d : Nat} {v : Value} (h0 : d ≠ 0) (h1 : d ≠ 1) (h6 : d ≠ 6) : IterFr lp p0 it (put t (some d) v) := by
 obtain ⟨a, b, c, e⟩ := h
 exact ⟨by simpa [AM.put] using a, by rw [put_get _ _ _ _ (by simpa using h0)]; exact b, by rw [put_get _ _ _ _ (by simpa using h1)]; exact c, by rw [put_get _ _ _ _ (by simpa using h6)]; exact e⟩
def addS (S : Nat → Bool) (i : Nat) : Nat → Bool := fun j => if j = i then true else S j
/-- While the map is ranged over. -/
structure Iter (P : Program) (β0 : Beta) (m : Mem) (w0 : World) (lp p0 r : Nat) (es : List (Value × Value)) (memF : (Nat → Bool) → Mem) (S : Nat → Bool) (ts : Array Value) (ds : List Deferred) (w : World) : Prop where
  marks : MarksFrom w0.heap.size ds w
  ex : ∃ β t clk es' seen, Rel P β (memF S) w ∧ Stp β0 m w0 β (memF S) w ∧ ARel β (memF S).size t ts ∧ IterFr lp p0 m.size t ∧ w.heap[β.blk m.size]? = some (.mapIter (some (β.blk r)) clk seen clk) ∧
    (∀ b, (Mem.get (memF S) b).live = true → β.blk b ≠ β.blk m.size) ∧ w0.heap.size ≤ β.blk m.size ∧ β.sh m.size = 0 ∧ w.heap[β.blk r]? = some (.map es' clk) ∧ Stamped es' clk ∧ es'.size = es.length ∧
    (∀ (i : Nat) x e, es[i]? = some x → es'[i]? = some e → VRel β (memF S).size x.1 e.key ∧ VRel β (memF S).size x.2 e.val) ∧ ∀ (i : Nat) e, es'[i]? = some e → seen.contains e.born = S i
theorem MarksFrom.drew {n : Nat} {ds : List Deferred} {w w' : World} (h : MarksFrom n ds w) (hd : Drew w w') : MarksFrom n ds w' := by
 obtain ⟨rs, h1, h2, h3⟩ := h
 exact ⟨rs, h1, h2, fun r hr => by rw [hd.1]; exact h3 r hr⟩
theorem MarksFrom.put {n : Nat} {ds : List Deferred} {w : World} {r : Nat} {O O' : Obj} (h : MarksFrom n ds w) (hr : w.heap[r]? = some O') (hO : ∀ d, O' ≠ .deferred d) : MarksFrom n ds (World.putObj w r O) := by
 obtain ⟨rs, h1, h2, h3⟩ := h
 refine ⟨rs, h1, h2, fun q hq => ⟨(h3 q hq).1, ?_⟩⟩
 have hne : r ≠ q := by
  rintro rfl
  rw [(h3 r hq).2] at hr; injection hr with hr; exact hO _ hr.symm
 simp only [World.putObj]
 rw [Array.getElem?_setIfInBounds_ne hne]; exact (h3 q hq).2
theorem Rel.drew' {P : Program} {β : Beta} {m : Mem} {w w' : World} (h : Rel P β m w) (hd : Drew w w') : Rel P β m w' := h.drew hd.1
theorem Stp.drew' {β0 β : Beta} {m0 m : Mem} {w0 w w' : World} (h : Stp β0 m0 w0 β m w) (hd : Drew w w') : Stp β0 m0 w0 β m w' := h.trans (.drew hd.1 hd.2.1 hd.2.2.1 hd.2.2.2)
theorem ptr_frame {β : Beta} {N : Nat} {t ts : Array Value} (hT : ARel β N t ts) {i b : Nat} (h : t[i]? = some (.pointer (some ⟨b, 0, none⟩))) : ts.getD i Go.undef = .pointer (some ⟨β.blk b, β.sh b, none⟩) := by
 obtain ⟨v', e, hv⟩ := hT.get h
 rw [Array.getD_eq_getD_getElem?, e]
 cases hv
 rfl
theorem calls_values {P : Program} {f : FuncId} {fn : Func} {mt kt et : TypeId} {p : String} {a0 a1 : Array Edge} {ops2 : Array Oper} {n2 : Nat} {X : Code} {lp p0 r : Nat} {rp : Bool} {m : Mem} {es : List (Value × Value)} {memF : (Nat → Bool) → Mem}
  (hf : P.funcs[f]? = some fn) (hb : fn.body = some (iterCode mt p a0 a1 ops2 X)) (hn : fn.ntmps = 15) (hres : fn.results = #[]) (he : ops2[0]? = some ⟨some 9, .entry (.tmp 6), 0, p, #[], none⟩) (hsz : ops2.size = n2 + 1)
  (ht : undOf P mt = some (.map kt et)) (hag : isAggT P mt = some false) (g1 : Mem.get m p0 = .cells rp #[.map (some r)]) (g2 : Mem.get m r = .map true es)
  (h0 : memF (fun _ => false) = (m.setIfInBounds r (.map false es)).push .dead) (hview : ∀ S, Mem.get (memF S) r = .map false es)
  (hvisit : ∀ (S : Nat → Bool) (i : Nat) (x : Value × Value) (t : Array Value), es[i]? = some x → S i = false → IterFr lp p0 m.size t →
   ∃ t1 m1 t2 m2, ARow P ops2 (List.range' 1 n2) (put t (some 9) (.tuple #[x.1, x.2])) (memF S) t1 m1 ∧ ACd P X t1 m1 .normal t2 m2 ∧ IterFr lp p0 m.size t2 ∧ Kills m2 (memF (addS S i)))
  (hlp : lp < m.size) (hL : LoopsIn m (memF (fun i => decide (i < es.length)))) :
  ACalls P f #[.func (.yield lp) #[] #[], .pointer (some ⟨p0, 0, none⟩)] m (oneOf []) (memF (fun i => decide (i < es.length))) := by
 refine ⟨hL, fun β w args' hR hA => ?_⟩
 have hp0 : p0 < m.size := Mem.lt_of_live (by rw [g1]; rfl)
 have hrl : r < m.size := Mem.lt_of_live (by rw [g2]; rfl)
 refine calls_of_CR hf hb ?_
 have hT : ARel β m.size (#[.func (.yield lp) #[] #[], .pointer (some ⟨p0, 0, none⟩)] ++ Array.replicate (fn.ntmps - (#[.func (.yield lp) #[] #[], .pointer (some ⟨p0, 0, none⟩)] : Array Value).size) Go.undef) (args' ++ Array.replicate (fn.ntmps - args'.size) Go.undef) := by
  rw [← hA.1]; exact hA.append (ARel.replicate _ (.undef _ _))
 rw [hn] at hT ⊢
 generalize hts : args' ++ Array.replicate (15 - args'.size) Go.undef = ts at hT ⊢
 generalize htt : #[Value.func (.yield lp) #[] #[], .pointer (some ⟨p0, 0, none⟩)] ++ Array.replicate (15 - (#[Value.func (.yield lp) #[] #[], .pointer (some ⟨p0, 0, none⟩)] : Array Value).size) Go.undef = t at hT
 have ht15 : t.size = 15 := by rw [← htt]; rfl
 have ht0 : t[0]? = some (.func (.yield lp) #[] #[]) := by rw [← htt]; rfl
 have ht1 : t[1]? = some (.pointer (some ⟨p0, 0, none⟩)) := by rw [← htt]; rfl

 have hEnd : ∀ ts ds w', MarksFrom w.heap.size ds w' → (∃ β', Rel P β' (memF (fun i => decide (i < es.length))) w' ∧ Stp β m w β' (memF (fun i => decide (i < es.length))) w') →
   Ends P fn (fun v w' => ∃ β', VRel β' (memF (fun i => decide (i < es.length))).size (oneOf []) v ∧ Rel P β' (memF (fun i => decide (i < es.length))) w' ∧ Stp β m w β' (memF (fun i => decide (i < es.length))) w') .normal ts ds w' := by
  rintro ts ds w' ⟨rs, h1, h2, h3⟩ ⟨β', hR', hS'⟩
  have hrs : ∀ q ∈ rs, w'.heap[q]? = some (.deferred (some [])) := fun q hq => (h3 q hq).2
  refine ⟨rs, h1, h2, hrs, .tuple #[], ?_, β', .tuple _ _ rfl (fun i v v' e => by simp at e), hR'.popped hrs, hS'.popped (fun q hq => (h3 q hq).1)⟩
  rw [results_eq, hres]
  simp

 have hLoop : ∀ (k : Nat) (S : Nat → Bool) ts ds w', (List.range es.length).countP (fun i => !S i) = k → (∀ i, es.length ≤ i → S i = false) → Iter P β m w lp p0 r es memF S ts ds w' →
   CR P ⟨f, .normal, none⟩ (.loop (iterRound p a1 ops2 X)) (fun e ts ds w' => match e with
    | .normal => Ends P fn (fun v w' => ∃ β', VRel β' (memF (fun i => decide (i < es.length))).size (oneOf []) v ∧ Rel P β' (memF (fun i => decide (i < es.length))) w' ∧ Stp β m w β' (memF (fun i => decide (i < es.length))) w') .normal ts ds w'
    | .exit j => if j = 0 then Ends P fn (fun v w' => ∃ β', VRel β' (memF (fun i => decide (i < es.length))).size (oneOf []) v ∧ Rel P β' (memF (fun i => decide (i < es.length))) w' ∧ Stp β m w β' (memF (fun i => decide (i < es.length))) w') .normal ts ds w' else Ends P fn (fun v w' => ∃ β', VRel β' (memF (fun i => decide (i < es.length))).size (oneOf []) v ∧ Rel P β' (memF (fun i => decide (i < es.length))) w' ∧ Stp β m w β' (memF (fun i => decide (i < es.length))) w') (.exit j) ts ds w'
    | .ret => Ends P fn (fun v w' => ∃ β', VRel β' (memF (fun i => decide (i < es.length))).size (oneOf []) v ∧ Rel P β' (memF (fun i => decide (i < es.length))) w' ∧ Stp β m w β' (memF (fun i => decide (i < es.length))) w') .ret ts ds w') ts ds w' := by
  intro k
  induction k using Nat.strongRecOn with
  | _ k ih =>
   intro S ts ds w' hk hS hI
   obtain ⟨hM, β1, t1, clk, es', seen, hR1, hS1, hT1, hF1, hit, hfree, hge, hsh, hmap, hst, hes, hrel, hseen⟩ := hI
   refine CR.loop ?_
   unfold iterRound
   refine CR.seq (CR.region ?_)
   have hptr : ev ts (.tmp 6) = .pointer (some ⟨β1.blk m.size, 0, none⟩) := by
    have := ptr_frame hT1 hF1.2.2.2
    rw [hsh] at this; exact this
   have hsz1 : (iterR1 p a1).size = 2 := rfl
   rw [hsz1]
   rcases run_next (P := P) (ty := 0) hit hmap hst.1 with ⟨w2, hrun, hd, hall⟩ | ⟨i, e, w2, hei, hns, hrun, hd⟩
   ·
    refine RR.val (o := ⟨some 7, .next (.tmp 6) false, 0, p, #[], none⟩) rfl rfl rfl (v := .tuple #[.bool false]) (w' := w2) (by simp only [execOp, Sem.run_bind, hptr, hrun]; rfl) ?_
    have ht7 : ev (put ts (some 7) (.tuple #[.bool false])) (.tmp 7) = .tuple #[.bool false] := by
     have : 7 < ts.size := by rw [← hT1.1, hF1.1]; decide
     simp only [ev, put, Array.getD_eq_getD_getElem?, Array.getElem?_setIfInBounds_self_of_lt this]; rfl
    refine RR.val (o := ⟨some 8, .extract (.tmp 7) 0, 4, p, a1, none⟩) rfl rfl rfl (v := .bool false) (w' := w2) (by simp only [execOp, Sem.run_bind, ht7, Instr.extract]; rfl) ?_
    simp only [RR]
    refine CR.seq (CR.cond (t := false) ?_ (CR.exit ?_))
    ·have : 8 < (put ts (some 7) (.tuple #[.bool false])).size := by simp only [put, Array.size_setIfInBounds]; rw [← hT1.1, hF1.1]; decide
     simp only [ev, put, Array.getD_eq_getD_getElem?]
     simp only [put] at this
     rw [Array.getElem?_setIfInBounds_self_of_lt this]; rfl
    ·simp only [if_true]
     have hSall : S = fun i => decide (i < es.length) := by
      funext i
      by_cases hi : i < es.length
      ·rw [decide_eq_true hi]
       have hi' : i < es'.size := by omega
       have h1 := hseen i _ (Array.getElem?_eq_getElem hi')
       rw [← h1]; exact hall i _ (Array.getElem?_eq_getElem hi')
      ·rw [decide_eq_false hi]; exact hS i (by omega)
     rw [hSall] at hR1 hS1
     exact hEnd _ _ _ (hM.drew hd) ⟨β1, hR1.drew' hd, hS1.drew' hd⟩
   ·
    have hi : i < es.length := by have := (Array.getElem?_eq_some_iff.1 hei).1; omega
    have hxi : es[i]? = some es[i] := List.getElem?_eq_getElem hi
    obtain ⟨hkr, hvr⟩ := hrel i es[i] e hxi hei
    have hSi : S i = false := by rw [← hseen i e hei]; exact hns
    have hit2 : w2.heap[β1.blk m.size]? = some (.mapIter (some (β1.blk r)) clk seen clk) := by rw [hd.1]; exact hit
    have hmap2 : w2.heap[β1.blk r]? = some (.map es' clk) := by rw [hd.1]; exact hmap
    have hlive : (Mem.get (memF S) r).live = true := by rw [hview S]; rfl
    have hner : β1.blk m.size ≠ β1.blk r := fun h => hfree r hlive h.symm
    generalize hw3 : World.putObj w2 (β1.blk m.size) (.mapIter (some (β1.blk r)) clk (seen.push e.born) clk) = w3 at hrun
    have hit3 : w3.heap[β1.blk m.size]? = some (.mapIter (some (β1.blk r)) clk (seen.push e.born) clk) := by
     rw [← hw3]; simp only [World.putObj]
     rw [Array.getElem?_setIfInBounds_self_of_lt (Array.getElem?_eq_some_iff.1 hit2).1]
    have hmap3 : w3.heap[β1.blk r]? = some (.map es' clk) := by
     rw [← hw3]; simp only [World.putObj]
     rw [Array.getElem?_setIfInBounds_ne hner]; exact hmap2
    have hR3 : Rel P β1 (memF S) w3 := by rw [← hw3]; exact (hR1.drew' hd).put_free hfree
    have hS3 : Stp β m w β1 (memF S) w3 := by rw [← hw3]; exact (hS1.drew' hd).put_free hge
    have hM3 : MarksFrom w.heap.size ds w3 := by rw [← hw3]; exact (hM.drew hd).put hit2 (fun d h => by cases h)
    refine RR.val (o := ⟨some 7, .next (.tmp 6) false, 0, p, #[], none⟩) rfl rfl rfl (v := .tuple #[.bool true, e.key, e.val]) (w' := w3) (by simp only [execOp, Sem.run_bind, hptr, hrun]; rfl) ?_
    have hTa : ARel β1 (memF S).size (put t1 (some 7) (.tuple #[.bool true, es[i].1, es[i].2])) (put ts (some 7) (.tuple #[.bool true, e.key, e.val])) := hT1.put _ (.tuple _ _ rfl (fun j x x' h h' => by
     match j with
     | 0 => simp at h h'; subst h; subst h'; exact .bool _
     | 1 => simp at h h'; subst h; subst h'; exact hkr
     | 2 => simp at h h'; subst h; subst h'; exact hvr
     | j + 3 => simp at h))
    have ht7 : ev (put ts (some 7) (.tuple #[.bool true, e.key, e.val])) (.tmp 7) = .tuple #[.bool true, e.key, e.val] := by
     have : 7 < ts.size := by rw [← hT1.1, hF1.1]; decide
     simp only [ev, put, Array.getD_eq_getD_getElem?, Array.getElem?_setIfInBounds_self_of_lt this]; rfl
    refine RR.val (o := ⟨some 8, .extract (.tmp 7) 0, 4, p, a1, none⟩) rfl rfl rfl (v := .bool true) (w' := w3) (by simp only [execOp, Sem.run_bind, ht7, Instr.extract]; rfl) ?_
    have hTb := hTa.put (some 8) (VRel.bool (β := β1) (N := (memF S).size) true)
    have hFb : IterFr lp p0 m.size (put (put t1 (some 7) (.tuple #[.bool true, es[i].1, es[i].2])) (some 8) (.bool true)) := (hF1.put (by decide) (by decide) (by decide)).put (by decide) (by decide) (by decide)
    simp only [RR]
    generalize put (put t1 (some 7) (.tuple #[.bool true, es[i].1, es[i].2])) (some 8) (.bool true) = tb at hTb hFb
    have ht8 : ev (put (put ts (some 7) (.tuple #[.bool true, e.key, e.val])) (some 8) (.bool true)) (.tmp 8) = .bool true := by
     have : 8 < (put ts (some 7) (.tuple #[.bool true, e.key, e.val])).size := by simp only [put, Array.size_setIfInBounds]; rw [← hT1.1, hF1.1]; decide
     simp only [ev, put, Array.getD_eq_getD_getElem?]
     simp only [put] at this
     rw [Array.getElem?_setIfInBounds_self_of_lt this]; rfl
    generalize put (put ts (some 7) (.tuple #[.bool true, e.key, e.val])) (some 8) (.bool true) = tsb at hTb ht8 ⊢
    refine CR.seq (CR.cond (t := true) ht8 (CR.skip ?_))
    refine CR.block (CR.seq (CR.region ?_))
    obtain ⟨ta, ma, tc, mc, hrow, hcd, hFc, hkl⟩ := hvisit S i es[i] tb hxi hSi hFb
    have hptrb : ev tsb (.tmp 6) = .pointer (some ⟨β1.blk m.size, 0, none⟩) := by
     have := ptr_frame hTb hFb.2.2.2
     rw [hsh] at this; exact this
    rw [List.range_eq_range', hsz, List.range'_succ]
    refine RR.val he rfl rfl (v := .tuple #[e.key, e.val]) (w' := w3) (by simp only [execOp, Sem.run_bind, hptrb, run_entry hit3 hmap3 hst hei]; rfl) ?_
    have hTc : ARel β1 (memF S).size (put tb (some 9) (.tuple #[es[i].1, es[i].2])) (put tsb (some 9) (.tuple #[e.key, e.val])) := hTb.put _ (.pair hkr hvr)
    refine RR.mono _ _ _ _ _ ?_ (hrow.sound (b := ⟨f, .normal, none⟩) (ds := ds) β1 w3 _ hR3 hTc)
    rintro ts4 w4 ⟨β4, hT4, hR4, hS4⟩
    have hM4 := hM3.stp hR3 hS4
    refine (hcd.2 ⟨f, .normal, none⟩ β4 w4 ts4 ds w.heap.size hR4 hT4 hM4 (by have := hS3.wsz; have := hS4.wsz; omega) (fun h => absurd rfl h) (fun l hl => by cases hl)).mono ?_
    rintro e5 ts5 ds5 w5 ⟨rfl, hM5, _, β5, hT5, hR5, hS5⟩
    obtain ⟨hR6, hS6⟩ := hkl.rel hR5
    have hS36 : Stp β1 (memF S) w3 β5 (memF (addS S i)) w5 := hS4.trans (hS5.trans hS6)
    have hms : m.size < (memF S).size := by
     have h1 : (memF (fun _ => false)).size = m.size + 1 := by rw [h0]; simp
     have h2 := hS1.msz
     rcases Nat.lt_or_ge m.size (memF S).size with h | h
     ·exact h
     ·exfalso
      have h3 := hTb.2 6 _ _ hFb.2.2.2 (Array.getElem?_eq_getElem (by rw [← hTb.1, hFb.1]; decide))
      cases hq : tsb[6]'(by rw [← hTb.1, hFb.1]; decide) with
      | pointer o =>
       rw [hq] at h3
       cases h3 with
       | ptr _ _ hlt => omega
      | _ => rw [hq] at h3; cases h3
    have hb5 : β5.blk m.size = β1.blk m.size := hS36.agree.blk _ hms
    have hbr : β5.blk r = β1.blk r := hS36.agree.blk _ (by have := hS1.msz; omega)
    have hnrw : ∀ b, (Mem.get (memF S) b).rw = true → β1.blk b ≠ β1.blk r := fun b hb => by
     have hbr : b ≠ r := by rintro rfl; rw [hview S] at hb; cases hb
     rcases hR3.inj b r hbr hb hlive with h | ⟨_, _, _, h, _⟩
     ·exact h
     ·rw [hview S] at h; cases h
    refine ih ((List.range es.length).countP (fun j => !addS S i j)) ?_ (addS S i) ts5 ds5 w5 rfl ?_ ⟨hM5, β5, tc, clk, es', seen.push e.born, hR6, hS3.trans hS36, ?_, hFc, ?_, ?_, by rw [hb5]; exact hge, ?_, ?_, hst, hes, ?_, ?_⟩
    ·rw [← hk]
     have key : ∀ (l : List Nat), i ∈ l → l.countP (fun j => !addS S i j) + 1 ≤ l.countP (fun j => !S j) := by
      intro l
      have mono : ∀ (l : List Nat), l.countP (fun j => !addS S i j) ≤ l.countP (fun j => !S j) := by
       intro l
       refine List.countP_mono_left (fun j _ hj => ?_)
       unfold addS at hj
       split at hj
       ·cases hj
       ·exact hj
      induction l with
      | nil => intro h; cases h
      | cons x l ihl =>
       intro hx
       rw [List.countP_cons, List.countP_cons]
       by_cases hxi : x = i
       ·subst hxi
        have h1 : (!addS S x x) = false := by simp [addS]
        have h2 : (!S x) = true := by rw [hSi]; rfl
        rw [h1, h2]
        have := mono l
        simp only [Bool.false_eq_true, if_false, if_true]; omega
       ·have hl : i ∈ l := by
         rcases List.mem_cons.1 hx with q | q
         ·exact absurd q.symm hxi
         ·exact q
        have h1 : (!addS S i x) = (!S x) := by simp [addS, hxi]
        rw [h1]
        have := ihl hl
        omega
     have := key (List.range es.length) (by simpa using hi)
     omega
    ·intro j hj
     unfold addS
     rw [if_neg (by omega)]; exact hS j hj
    ·rw [hkl.size]; exact hT5
    ·rw [hb5, hbr, hS36.keep _ (Array.getElem?_eq_some_iff.1 hit3).1 (fun b hb => hfree b (AObj.live_of_rw hb))]; exact hit3
    ·intro b hb
     rw [hb5]
     rcases hS36.freshL b hb with h | ⟨b0, h1, h2⟩
     ·have := (Array.getElem?_eq_some_iff.1 hit3).1; omega
     ·rw [h2]; exact hfree b0 h1
    ·rw [hS36.agree.sh _ hms]; exact hsh
    ·rw [hbr, hS36.keep _ (Array.getElem?_eq_some_iff.1 hmap3).1 hnrw]; exact hmap3
    ·intro j x e' hx he'
     obtain ⟨q1, q2⟩ := hrel j x e' hx he'
     exact ⟨q1.mono hS36.agree hS36.msz, q2.mono hS36.agree hS36.msz⟩
    ·intro j e' he'
     unfold addS
     by_cases hji : j = i
     ·subst hji
      rw [hei] at he'; injection he' with he'; subst he'
      rw [if_pos rfl]; simp
     ·rw [if_neg hji, ← hseen j e' he']
      have hne : e'.born ≠ e.born := fun h => hji (hst.2 j i e' e he' hei h)
      cases hc : seen.contains e'.born with
      | true => simp at hc ⊢; exact .inl hc
      | false => simp at hc ⊢; exact ⟨hc, hne⟩

 unfold iterCode
 refine CR.seq (CR.region ?_)
 have hsz0 : (iterR0 mt p a0).size = 2 := rfl
 rw [hsz0]
 have hload : aRead P m (ev t) (.load mt (.tmp 1)) = some (.map (some r)) := by
  have : ev t (.tmp 1) = .pointer (some ⟨p0, 0, none⟩) := by simp only [ev, Array.getD_eq_getD_getElem?, ht1]; rfl
  simp only [aRead, aLoad, this, g1, hag]; rfl
 obtain ⟨v', hrun, hv⟩ := aRead_sound (w := w) (o := ⟨some 5, .load mt (.tmp 1), mt, p, #[], none⟩) hR (ops_rel hR hT (by simp [okOps, Op.operands, okOper])) hload
 cases hv with
 | map _ hlt =>
 refine RR.val (o := ⟨some 5, .load mt (.tmp 1), mt, p, #[], none⟩) rfl rfl rfl hrun ?_
 obtain ⟨es', clk, hmw, hes, hrel, hst⟩ := hR.mapS r es g2
 have ht5 : ev (put ts (some 5) (.map (some (β.blk r)))) (.tmp 5) = .map (some (β.blk r)) := by
  have : 5 < ts.size := by rw [← hT.1, ht15]; decide
  simp only [ev, put, Array.getD_eq_getD_getElem?, Array.getElem?_setIfInBounds_self_of_lt this]; rfl
 refine RR.val (o := ⟨some 6, .range mt (.tmp 5), 0, p, a0, none⟩) rfl rfl rfl (v := .pointer (some ⟨w.heap.size, 0, none⟩)) (w' := World.pushObj w (.mapIter (some (β.blk r)) clk #[] clk)) (by simp only [execOp, Sem.run_bind, ht5, run_range ht hmw]; rfl) ?_
 simp only [RR]
 obtain ⟨hRf, hSf⟩ := hR.freezeMap g2
 have hRw := (hRf.more (.mapIter (some (β.blk r)) clk #[] clk)).pushDead w.heap.size
 have hSw := (hSf.more (.mapIter (some (β.blk r)) clk #[] clk)).pushDead w.heap.size
 have hszf : (m.setIfInBounds r (.map false es)).size = m.size := by simp
 rw [hszf] at hRw hSw
 rw [← h0] at hRw hSw
 have hag2 := Beta.ext_agree β m.size w.heap.size 0
 have hNN : m.size ≤ (memF (fun _ => false)).size := by rw [h0]; simp
 have hbr : (β.ext m.size w.heap.size 0).blk r = β.blk r := hag2.blk r hrl
 refine CR.block ((hLoop _ (fun _ => false) _ _ _ rfl (fun _ _ => rfl) ⟨?_, β.ext m.size w.heap.size 0, put (put t (some 5) (.map (some r))) (some 6) (.pointer (some ⟨m.size, 0, none⟩)), clk, es', #[], hRw, hSw, ?_, ?_, ?_, ?_, ?_, ?_, ?_, hst, hes, ?_, ?_⟩).mono ?_)
 ·exact ⟨[], rfl, by simp, by simp⟩
 ·have h5 : VRel (β.ext m.size w.heap.size 0) (memF (fun _ => false)).size (.map (some r)) (.map (some (β.blk r))) := (VRel.map (β := β) (N := m.size) r hrl).mono hag2 hNN
  have h6 : VRel (β.ext m.size w.heap.size 0) (memF (fun _ => false)).size (.pointer (some ⟨m.size, 0, none⟩)) (.pointer (some ⟨w.heap.size, 0, none⟩)) := by
   have := VRel.ptr (β := β.ext m.size w.heap.size 0) (N := (memF (fun _ => false)).size) m.size 0 (by rw [h0]; simp)
   simpa [Beta.ext] using this
  exact ((hT.mono hag2 hNN).put _ h5).put _ h6
 ·refine ⟨by simp [put, ht15], ?_, ?_, ?_⟩
  ·rw [put_get _ _ _ _ (by decide), put_get _ _ _ _ (by decide)]; exact ht0
  ·rw [put_get _ _ _ _ (by decide), put_get _ _ _ _ (by decide)]; exact ht1
  ·simp only [put]
   rw [Array.getElem?_setIfInBounds_self_of_lt (by simp [ht15])]
 ·simp [Beta.ext, World.pushObj]
  omega
 ·intro b hb
  have hb' : (Mem.get m b).live = true := by
   rw [h0, get_push] at hb
   split at hb
   ·cases hb
   ·by_cases he : r = b
    ·subst he; rw [g2]; rfl
    ·rwa [get_set_ne he] at hb
  have hlt := Mem.lt_of_live hb'
  rw [hag2.blk b hlt]
  have h1 := hR.blk_lt hb'
  simp only [Beta.ext, if_true]; omega
 ·simp [Beta.ext]
 ·simp [Beta.ext]
 ·rw [hbr]
  have hlt := (Array.getElem?_eq_some_iff.1 hmw).1
  simp only [World.pushObj]
  rw [Array.getElem?_push_lt hlt, ← hmw, Array.getElem?_eq_getElem hlt]
 ·intro j x e' hx he'
  obtain ⟨q1, q2⟩ := hrel j x e' hx he'
  exact ⟨q1.mono hag2 hNN, q2.mono hag2 hNN⟩
 ·intro j e' he'; simp
 ·intro e ts ds w' h
  cases e with
  | normal => exact h
  | exit j => exact h
  | ret => exact h
end Go.AM
