/- Part 2 of the proof: The machine made abstract. -/
import Derived.Test.YthfhbddnkgfhaaaGreatDoorPartA
import Derived.Orders
set_option linter.unusedVariables false
set_option linter.unusedSimpArgs false
/-! ### A14 -/
namespace Go.AM
set_option linter.unusedVariables false
set_option linter.unusedSimpArgs false

def AObj.isLoop : AObj → Bool
  | .loop _ => true
  | _ => false
def LoopsIn (m m' : Mem) : Prop := ∀ b, (Mem.get m b).isLoop = true → (Mem.get m' b).isLoop = true
theorem LoopsIn.refl (m : Mem) : LoopsIn m m := fun _ h => h
theorem LoopsIn.trans {m m' m'' : Mem} (h : LoopsIn m m') (h' : LoopsIn m' m'') : LoopsIn m m'' := fun b hb => h' b (h b hb)
theorem LoopsIn.push (m : Mem) (o : AObj) : LoopsIn m (m.push o) := by
  intro b hb
  rw [get_push]
  have : b < m.size := by
    refine Mem.lt_of_live ?_
    cases h : Mem.get m b <;> rw [h] at hb <;> first | rfl | cases hb
  rw [if_neg (by omega)]; exact hb
theorem LoopsIn.set {m : Mem} {b : Nat} {o : AObj} (h : (Mem.get m b).isLoop = true → o.isLoop = true) : LoopsIn m (m.setIfInBounds b o) := by
  intro i hi
  rw [get_set]
  split
  · rename_i hc; rw [hc.1] at h; exact h hi
  · exact hi

theorem aEff_loops {P : Program} {m m' : Mem} {ρ : Operand → Value} {op : Op} {v : Value} (h : aEff P m ρ op = some (v, m')) : LoopsIn m m' := by
  have nl : ∀ {b : Nat} {o : AObj}, (Mem.get m b).isLoop = false → LoopsIn m (m.setIfInBounds b o) := by
    intro b o hb; refine LoopsIn.set (fun h => ?_); rw [hb] at h; cases h
  unfold aEff at h
  split at h
  · unfold aAlloc at h
    repeat' (split at h)
    all_goals first
      | (cases h; done)
      | (injection h with h; injection h with h1 h2; subst h2; exact LoopsIn.push _ _)
  · injection h with h; injection h with h1 h2; subst h2; exact LoopsIn.push _ _
  · unfold aBuildSlice at h
    repeat' (split at h)
    all_goals first
      | (cases h; done)
      | (injection h with h; injection h with h1 h2; subst h2; exact LoopsIn.push _ _)
  · unfold aMakeSlice at h
    repeat' (split at h)
    all_goals first
      | (cases h; done)
      | (injection h with h; injection h with h1 h2; subst h2; exact LoopsIn.push _ _)
  · unfold aMakeMap at h
    repeat' (split at h)
    all_goals first
      | (cases h; done)
      | (injection h with h; injection h with h1 h2; subst h2; exact LoopsIn.push _ _)
  · unfold aStore at h
    repeat' (split at h)
    all_goals first
      | (cases h; done)
      | (rename_i e _; simp only [Option.map_some, Option.some.injEq, Prod.mk.injEq] at h; obtain ⟨_, rfl⟩ := h; exact nl (by simp only [*, AObj.isLoop]))
  · unfold aMapUpdate at h
    repeat' (split at h)
    all_goals first
      | (cases h; done)
      | (simp only [Option.map_some, Option.some.injEq, Prod.mk.injEq] at h; obtain ⟨_, rfl⟩ := h; exact nl (by simp only [*, AObj.isLoop]))
  · unfold aMapUpdate at h
    repeat' (split at h)
    all_goals first
      | (cases h; done)
      | (simp only [Option.map_some, Option.some.injEq, Prod.mk.injEq] at h; obtain ⟨_, rfl⟩ := h; exact nl (by simp only [*, AObj.isLoop]))
  · split at h
    · rename_i r er
      injection h with h; subst h
      unfold aAppend at er
      repeat' (split at er)
      all_goals first
        | (cases er; done)
        | (injection er with er; injection er with h1 h2; subst h2; first
            | exact LoopsIn.refl _
            | exact LoopsIn.push _ _
            | exact nl (by simp only [*, AObj.isLoop])
            | exact LoopsIn.trans (nl (by simp only [*, AObj.isLoop])) (LoopsIn.push _ _))
    · unfold aAppendN at h
      repeat' (split at h)
      all_goals first
        | (cases h; done)
        | (injection h with h; injection h with h1 h2; subst h2; exact LoopsIn.push _ _)
  · unfold aCapNil at h
    split at h
    · injection h with h; injection h with h1 h2; subst h2; exact LoopsIn.refl _
    · cases h
  · unfold aCopy at h
    repeat' (split at h)
    all_goals first
      | (cases h; done)
      | (injection h with h; injection h with h1 h2; subst h2; first
          | exact LoopsIn.refl _
          | exact nl (by simp only [*, AObj.isLoop]))
  · unfold aClear at h
    repeat' (split at h)
    all_goals first
      | (cases h; done)
      | (injection h with h; injection h with h1 h2; subst h2; first
          | exact LoopsIn.refl _
          | exact nl (by simp only [*, AObj.isLoop]))
  · cases h

/-- Marks from a place in the heap on. -/
def MarksFrom (n : Nat) (ds : List Deferred) (w : World) : Prop :=
  ∃ rs : List Nat, ds = rs.map (fun r => { target := .collected r, args := #[] }) ∧ rs.Nodup ∧ ∀ r ∈ rs, n ≤ r ∧ w.heap[r]? = some (.deferred (some []))

theorem Rel.not_deferred {P : Program} {β : Beta} {m : Mem} {w : World} (h : Rel P β m w) {b r : Nat} {d : Option (List Deferred)} (hb : (Mem.get m b).live = true) (hr : w.heap[r]? = some (.deferred d)) : β.blk b ≠ r := by
  intro e
  obtain ⟨O, h1, h2⟩ := h.obj b hb
  rw [e, hr] at h1; injection h1 with h1; subst h1
  cases ho : Mem.get m b with
  | dead => rw [ho] at hb; cases hb
  | cells r c => rw [ho] at h2; obtain ⟨_, _, _, h3, _⟩ := h2; cases h3
  | map r es => rw [ho] at h2; obtain ⟨_, _, h3, _⟩ := h2; cases h3
  | loop L => rw [ho] at h2; obtain ⟨_, h3, _⟩ := h2; cases h3
  | grow c => rw [ho] at h2; obtain ⟨_, _, _, h3, _⟩ := h2; cases h3

theorem MarksFrom.stp {P : Program} {n : Nat} {ds : List Deferred} {β β' : Beta} {m m' : Mem} {w w' : World} (h : MarksFrom n ds w) (hR : Rel P β m w) (hS : Stp β m w β' m' w') : MarksFrom n ds w' := by
  obtain ⟨rs, h1, h2, h3⟩ := h
  refine ⟨rs, h1, h2, fun r hr => ⟨(h3 r hr).1, ?_⟩⟩
  have hh := (h3 r hr).2
  rw [hS.keep r (Array.getElem?_eq_some_iff.1 hh).1 (fun b hb => hR.not_deferred (AObj.live_of_rw hb) hh)]
  exact hh

theorem popped_heap (rs : List Nat) (w : World) (i : Nat) (hi : i ∉ rs) : (popped rs w).heap[i]? = w.heap[i]? := by
  induction rs generalizing w with
  | nil => rfl
  | cons r rs ih =>
    have h1 : i ≠ r := fun e => hi (by simp [e])
    have h2 : i ∉ rs := fun e => hi (by simp [e])
    show (popped rs (World.putObj w r (.deferred none))).heap[i]? = _
    rw [ih _ h2]
    simp only [World.putObj]
    rw [Array.getElem?_setIfInBounds_ne (fun e => h1 e.symm)]
theorem popped_rest (rs : List Nat) (w : World) : (popped rs w).heap.size = w.heap.size ∧ (popped rs w).os = w.os ∧ (popped rs w).tape = w.tape ∧ (popped rs w).output = w.output := by
  induction rs generalizing w with
  | nil => exact ⟨rfl, rfl, rfl, rfl⟩
  | cons r rs ih =>
    have := ih (World.putObj w r (.deferred none))
    simp only [World.putObj, Array.size_setIfInBounds] at this
    exact this

theorem Rel.popped {P : Program} {β : Beta} {m : Mem} {w : World} (h : Rel P β m w) {rs : List Nat} (hr : ∀ r ∈ rs, w.heap[r]? = some (.deferred (some []))) : Rel P β m (popped rs w) := by
  refine ⟨h.gsz, h.glob, fun b hb => ?_, h.inj⟩
  obtain ⟨O, h1, h2⟩ := h.obj b hb
  refine ⟨O, ?_, h2⟩
  rw [popped_heap rs w _ (fun hm => h.not_deferred hb (hr _ hm) rfl)]
  exact h1
theorem Stp.popped {β β' : Beta} {m m' : Mem} {w w' : World} (h : Stp β m w β' m' w') {rs : List Nat} (hr : ∀ r ∈ rs, w.heap.size ≤ r) : Stp β m w β' m' (popped rs w') := by
  obtain ⟨p1, p2, p3, p4⟩ := popped_rest rs w'
  refine ⟨h.msz, by rw [p1]; exact h.wsz, h.agree, h.fresh, fun i hi hn => ?_, by rw [p2]; exact h.os, by rw [p3]; exact h.tape, by rw [p4]; exact h.output⟩
  rw [popped_heap rs w' i (fun hm => by have := hr i hm; omega)]
  exact h.keep i hi hn

/-! ### The judgements -/
/-- The round's own loop is there. -/
def InRound (b : FB) (β : Beta) (m : Mem) : Prop := ∀ l, b.roundOf = some l → ∃ a, (Mem.get m a).isLoop = true ∧ β.blk a = l

def ACd (P : Program) (c : Code) (t : Array Value) (m : Mem) (e : AExit) (t' : Array Value) (m' : Mem) : Prop :=
  LoopsIn m m' ∧ ∀ (b : FB) (β : Beta) (w : World) (ts : Array Value) (ds : List Deferred) (n : Nat), Rel P β m w → ARel β m.size t ts → MarksFrom n ds w → n ≤ w.heap.size → (b.roundOf ≠ none → ds = []) → InRound b β m →
    CR P b c (fun e' ts' ds' w' => e' = e ∧ MarksFrom n ds' w' ∧ (b.roundOf ≠ none → ds' = []) ∧ ∃ β', ARel β' m'.size t' ts' ∧ Rel P β' m' w' ∧ Stp β m w β' m' w') ts ds w

def AOp (P : Program) (o : Oper) (t : Array Value) (m : Mem) (v : Value) (m' : Mem) : Prop :=
  LoopsIn m m' ∧ ∀ (b : FB) (β : Beta) (w : World) (ts : Array Value) (ds : List Deferred), Rel P β m w → ARel β m.size t ts →
    OR P b ts ds w o (fun v' w' => ∃ β', VRel β' m'.size v v' ∧ Rel P β' m' w' ∧ Stp β m w β' m' w')

def ACalls (P : Program) (f : FuncId) (args : Array Value) (m : Mem) (v : Value) (m' : Mem) : Prop :=
  LoopsIn m m' ∧ ∀ (β : Beta) (w : World) (args' : Array Value), Rel P β m w → ARel β m.size args args' →
    Calls P f args' w (fun e w' => ∃ v', e = .returned v' ∧ ∃ β', VRel β' m'.size v v' ∧ Rel P β' m' w' ∧ Stp β m w β' m' w')

theorem InRound.next {b : FB} {β β' : Beta} {m m' : Mem} {w w' : World} (h : InRound b β m) (hl : LoopsIn m m') (hS : Stp β m w β' m' w') : InRound b β' m' := by
  intro l hb
  obtain ⟨a, h1, h2⟩ := h l hb
  refine ⟨a, hl a h1, ?_⟩
  have : a < m.size := by
    refine Mem.lt_of_live ?_
    cases h : Mem.get m a <;> rw [h] at h1 <;> first | rfl | cases h1
  rw [hS.agree.blk a this]; exact h2

/-! ### Operations -/
def okOps (P : Program) (op : Op) : Bool := op.operands.all (okOper P.globals.size)

theorem ops_rel {P : Program} {β : Beta} {m : Mem} {w : World} {t ts : Array Value} (hR : Rel P β m w) (hT : ARel β m.size t ts) {op : Op} (h : okOps P op = true) : ∀ x ∈ op.operands, VRel β m.size (ev t x) (ev ts x) := by
  intro x hx
  unfold okOps at h
  rw [Array.all_eq_true] at h
  obtain ⟨i, hi, rfl⟩ := Array.mem_iff_getElem.1 hx
  exact ev_rel hR hT (h i hi)

theorem AOp.pure {P : Program} {o : Oper} {t : Array Value} {m : Mem} {v : Value} (hd : noDefer o.op = true) (ho : okOps P o.op = true) (h : aPure P (ev t) o.op = some v) : AOp P o t m v m := by
  refine ⟨.refl _, fun b β w ts ds hR hT => ?_⟩
  obtain ⟨v', hr, hv⟩ := aPure_sound (w := w) (ops_rel hR hT ho) h
  exact OR.value hd hr ⟨β, hv, hR, .refl _ _ _⟩

theorem AOp.read {P : Program} {o : Oper} {t : Array Value} {m : Mem} {v : Value} (hd : noDefer o.op = true) (ho : okOps P o.op = true) (h : aRead P m (ev t) o.op = some v) : AOp P o t m v m := by
  refine ⟨.refl _, fun b β w ts ds hR hT => ?_⟩
  obtain ⟨v', hr, hv⟩ := aRead_sound hR (ops_rel hR hT ho) h
  exact OR.value hd hr ⟨β, hv, hR, .refl _ _ _⟩

theorem AOp.eff {P : Program} {o : Oper} {t : Array Value} {m m' : Mem} {v : Value} (hd : noDefer o.op = true) (ho : okOps P o.op = true) (h : aEff P m (ev t) o.op = some (v, m')) : AOp P o t m v m' := by
  refine ⟨aEff_loops h, fun b β w ts ds hR hT => ?_⟩
  obtain ⟨nx, v', w', β', hr, hnx, hv, h2, h3⟩ := aEff_sound hR (ops_rel hR hT ho) h
  rcases hnx with rfl | ⟨rfl, rfl⟩
  · exact OR.value hd hr ⟨β', hv, h2, h3⟩
  · exact OR.none hd hr ⟨β', hv, h2, h3⟩

def callable (P : Program) (g : FuncId) : Bool :=
  match P.funcs[g]? with
  | some fn => fn.name != "runtime.NumGoroutine" && fn.body.isSome
  | none => false

theorem run_callFunc {P : Program} {w : World} {g : FuncId} {args : Array Value} (h : callable P g = true) : (callFunc g args).run P w = .ok (.enter g args) w := by
  unfold callable at h
  split at h
  · rename_i fn e
    simp only [Bool.and_eq_true, bne_iff_ne, ne_eq] at h
    have h1 : (fn.name == "runtime.NumGoroutine") = false := by simpa using h.1
    have h2 : fn.body.isNone = false := by cases hb : fn.body <;> simp_all
    simp only [callFunc, Sem.run_bind, run_program, Result.andThen_ok, e, h1, Bool.false_eq_true, if_false, h2, Sem.run_pure]
  · cases h

theorem AOp.call {P : Program} {o : Oper} {c : Call} {f : Operand} {t : Array Value} {m m' : Mem} {v : Value} {g : FuncId} {a cap : Array Value} (hc : o.op = .call c) (hf : c.callee = .value f) (ho : okOps P o.op = true)
    (hv : ev t f = .func (.func g) a cap) (hcall : callable P g = true) (h : ACalls P g (a ++ c.args.map (ev t) ++ cap) m v m') : AOp P o t m v m' := by
  refine ⟨h.1, fun b β w ts ds hR hT => ?_⟩
  have hops := ops_rel hR hT ho
  have hfv : VRel β m.size (ev t f) (ev ts f) := hops f (by rw [hc]; simp [Op.operands, Call.operands, hf])
  have hargs : ARel β m.size (c.args.map (ev t)) (c.args.map (ev ts)) := ARel.of_map _ (fun x hx => hops x (by rw [hc]; simp [Op.operands, Call.operands, hf, hx]))
  rw [hv] at hfv
  cases hfs : ev ts f with
  | func g' a' cap' =>
    rw [hfs] at hfv
    cases hfv with
    | func _ _ _ _ _ h1 h2 h3 h4 =>
      have hA : ARel β m.size (a ++ c.args.map (ev t) ++ cap) (a' ++ c.args.map (ev ts) ++ cap') := (ARel.append ⟨h1, h2⟩ hargs).append ⟨h3, h4⟩
      refine OR.enter (f := g) (args := a' ++ c.args.map (ev ts) ++ cap') (by rw [hc]; rfl) ?_ (Runs.of_calls (h.2 β w _ hR hA))
      obtain ⟨dst, op, ty, pos, after, guard⟩ := o
      simp only at hc; subst hc
      simp only [execOp, resolve, hf, hfs, Deferred.ofValue, Sem.run_bind, Sem.run_pure, Result.andThen_ok, invoke, run_callFunc hcall]
  | _ => rw [hfs] at hfv; cases hfv

end Go.AM

/-! ### A15 -/
namespace Go.AM
set_option linter.unusedVariables false
set_option linter.unusedSimpArgs false

section
variable {P : Program} {t t1 t2 : Array Value} {m m1 m2 : Mem} {e : AExit}

theorem ACd.skip : ACd P .skip t m .normal t m :=
  ⟨.refl _, fun b β w ts ds n hR hT hM hn hd hI => CR.skip ⟨rfl, hM, hd, β, hT, hR, .refl _ _ _⟩⟩
theorem ACd.label {l : Nat} : ACd P (.label l) t m .normal t m :=
  ⟨.refl _, fun b β w ts ds n hR hT hM hn hd hI => CR.label ⟨rfl, hM, hd, β, hT, hR, .refl _ _ _⟩⟩
theorem ACd.exit {id : Nat} : ACd P (.exit id) t m (.exit id) t m :=
  ⟨.refl _, fun b β w ts ds n hR hT hM hn hd hI => CR.exit ⟨rfl, hM, hd, β, hT, hR, .refl _ _ _⟩⟩
theorem ACd.ret : ACd P .ret t m .ret t m :=
  ⟨.refl _, fun b β w ts ds n hR hT hM hn hd hI => CR.ret ⟨rfl, hM, hd, β, hT, hR, .refl _ _ _⟩⟩

theorem ACd.cond {c : Operand} {x y : Code} {q : Bool} (ho : okOper P.globals.size c = true) (hc : ev t c = .bool q) (h : ACd P (if q then x else y) t m e t1 m1) : ACd P (.cond c x y) t m e t1 m1 := by
  refine ⟨h.1, fun b β w ts ds n hR hT hM hn hd hI => ?_⟩
  have hv := ev_rel hR hT ho
  rw [hc] at hv
  cases hs : ev ts c with
  | bool q' => rw [hs] at hv; cases hv; exact CR.cond hs (h.2 b β w ts ds n hR hT hM hn hd hI)
  | _ => rw [hs] at hv; cases hv

theorem ACd.seq {x y : Code} (h1 : ACd P x t m .normal t1 m1) (h2 : ACd P y t1 m1 e t2 m2) : ACd P (.seq x y) t m e t2 m2 := by
  refine ⟨h1.1.trans h2.1, fun b β w ts ds n hR hT hM hn hd hI => ?_⟩
  refine CR.seq ((h1.2 b β w ts ds n hR hT hM hn hd hI).mono ?_)
  rintro e1 ts1 ds1 w1 ⟨rfl, hM1, hd1, β1, hT1, hR1, hS1⟩
  refine (h2.2 b β1 w1 ts1 ds1 n hR1 hT1 hM1 (Nat.le_trans hn hS1.wsz) hd1 (hI.next h1.1 hS1)).mono ?_
  rintro e2 ts2 ds2 w2 ⟨rfl, hM2, hd2, β2, hT2, hR2, hS2⟩
  exact ⟨rfl, hM2, hd2, β2, hT2, hR2, hS1.trans hS2⟩

theorem ACd.seq_out {x y : Code} (he : e ≠ .normal) (h1 : ACd P x t m e t1 m1) : ACd P (.seq x y) t m e t1 m1 := by
  refine ⟨h1.1, fun b β w ts ds n hR hT hM hn hd hI => ?_⟩
  refine CR.seq ((h1.2 b β w ts ds n hR hT hM hn hd hI).mono ?_)
  rintro e1 ts1 ds1 w1 ⟨rfl, h⟩
  cases e1 with
  | normal => exact absurd rfl he
  | exit id => exact ⟨rfl, h⟩
  | ret => exact ⟨rfl, h⟩

theorem ACd.block {id : Nat} {x : Code} (h1 : ACd P x t m e t1 m1) : ACd P (.block id x) t m (if e = .exit id then .normal else e) t1 m1 := by
  refine ⟨h1.1, fun b β w ts ds n hR hT hM hn hd hI => ?_⟩
  refine CR.block ((h1.2 b β w ts ds n hR hT hM hn hd hI).mono ?_)
  rintro e1 ts1 ds1 w1 ⟨rfl, h⟩
  cases e1 with
  | normal => exact ⟨by simp, h⟩
  | exit j =>
    by_cases hj : j = id
    · subst hj; simp only [if_true]; exact ⟨by simp, h⟩
    · simp only [hj, if_false]; exact ⟨by simp [hj], h⟩
  | ret => exact ⟨by simp, h⟩

theorem ACd.scope {x : Code} (h1 : ACd P x t m e t1 m1) : ACd P (.scope x) t m e t1 m1 :=
  ⟨h1.1, fun b β w ts ds n hR hT hM hn hd hI => CR.scope (h1.2 b β w ts ds n hR hT hM hn hd hI)⟩

theorem ACd.loop {x : Code} (h1 : ACd P x t m .normal t1 m1) (h2 : ACd P (.loop x) t1 m1 e t2 m2) : ACd P (.loop x) t m e t2 m2 := by
  refine ⟨h1.1.trans h2.1, fun b β w ts ds n hR hT hM hn hd hI => ?_⟩
  refine CR.loop ((h1.2 b β w ts ds n hR hT hM hn hd hI).mono ?_)
  rintro e1 ts1 ds1 w1 ⟨rfl, hM1, hd1, β1, hT1, hR1, hS1⟩
  refine (h2.2 b β1 w1 ts1 ds1 n hR1 hT1 hM1 (Nat.le_trans hn hS1.wsz) hd1 (hI.next h1.1 hS1)).mono ?_
  rintro e2 ts2 ds2 w2 ⟨rfl, hM2, hd2, β2, hT2, hR2, hS2⟩
  exact ⟨rfl, hM2, hd2, β2, hT2, hR2, hS1.trans hS2⟩

theorem ACd.loop_out {x : Code} (he : e ≠ .normal) (h1 : ACd P x t m e t1 m1) : ACd P (.loop x) t m e t1 m1 := by
  refine ⟨h1.1, fun b β w ts ds n hR hT hM hn hd hI => ?_⟩
  refine CR.loop ((h1.2 b β w ts ds n hR hT hM hn hd hI).mono ?_)
  rintro e1 ts1 ds1 w1 ⟨rfl, h⟩
  cases e1 with
  | normal => exact absurd rfl he
  | exit id => exact ⟨rfl, h⟩
  | ret => exact ⟨rfl, h⟩
end

/-! ### Regions -/
def awanted (ops : Array Oper) (t : Array Value) (o : Oper) : Bool := Region.wanted o (yielded ops t)

/-- Operations one after the other. -/
inductive ARow (P : Program) (ops : Array Oper) : List Nat → Array Value → Mem → Array Value → Mem → Prop
  | nil (t : Array Value) (m : Mem) : ARow P ops [] t m t m
  | op {i : Nat} {l : List Nat} {o : Oper} {t t' : Array Value} {m m1 m' : Mem} {v : Value} (ho : ops[i]? = some o) (hw : awanted ops t o = true) (h : AOp P o t m v m1) (hr : ARow P ops l (put t o.dst v) m1 t' m') : ARow P ops (i :: l) t m t' m'
  | off {i : Nat} {l : List Nat} {o : Oper} {t t' : Array Value} {m m' : Mem} (ho : ops[i]? = some o) (hw : awanted ops t o = false) (hr : ARow P ops l (put t o.dst Go.undef) m t' m') : ARow P ops (i :: l) t m t' m'

theorem yielded_rel {β : Beta} {N : Nat} {ops : Array Oper} {t ts : Array Value} (hT : ARel β N t ts) (j : Nat) : yielded ops ts j = yielded ops t j := by
  unfold yielded
  cases h : (ops[j]?).bind (·.dst) with
  | none => rfl
  | some d =>
    simp only [Option.bind_some]
    cases e : t[d]? with
    | none =>
      have : ts[d]? = none := Array.getElem?_eq_none_iff.2 (by rw [← hT.1]; exact Array.getElem?_eq_none_iff.1 e)
      rw [this]
    | some v =>
      obtain ⟨v', e', hv⟩ := hT.get e
      rw [e']
      cases hv <;> rfl

theorem wanted_rel {β : Beta} {N : Nat} {ops : Array Oper} {t ts : Array Value} (hT : ARel β N t ts) (o : Oper) : Region.wanted o (yielded ops ts) = awanted ops t o := by
  unfold awanted
  have : yielded ops ts = yielded ops t := funext (yielded_rel hT)
  rw [this]

theorem ARow.loops {P : Program} {ops : Array Oper} {l : List Nat} {t t' : Array Value} {m m' : Mem} (h : ARow P ops l t m t' m') : LoopsIn m m' := by
  induction h with
  | nil => exact .refl _
  | op _ _ h _ ih => exact h.1.trans ih
  | off _ _ _ ih => exact ih

theorem RR.mono {P : Program} {b : FB} {ops : Array Oper} {ds : List Deferred} : ∀ (l : List Nat) (ts : Array Value) (w : World) (Q Q' : Array Value → World → Prop), (∀ ts w, Q ts w → Q' ts w) → RR P b ops ds Q l ts w → RR P b ops ds Q' l ts w
  | [], ts, w, Q, Q', hq, h => hq _ _ h
  | i :: l, ts, w, Q, Q', hq, h => by
    simp only [RR] at h ⊢
    cases ho : ops[i]? with
    | none => rw [ho] at h; exact RR.mono l _ _ _ _ hq h
    | some o =>
      rw [ho] at h
      simp only at h ⊢
      split at h
      · rename_i hc
        rw [if_pos hc]
        intro ops' i' rest k cs ho' hw'
        obtain ⟨v', w1, hr, s⟩ := h ops' i' rest k cs ho' hw'
        exact ⟨v', w1, RR.mono l _ _ _ _ hq hr, s⟩
      · rename_i hc
        rw [if_neg hc]
        exact RR.mono l _ _ _ _ hq h

theorem ARow.sound {P : Program} {ops : Array Oper} {b : FB} {ds : List Deferred} {l : List Nat} {t t' : Array Value} {m m' : Mem} (h : ARow P ops l t m t' m') :
    ∀ (β : Beta) (w : World) (ts : Array Value), Rel P β m w → ARel β m.size t ts →
      RR P b ops ds (fun ts' w' => ∃ β', ARel β' m'.size t' ts' ∧ Rel P β' m' w' ∧ Stp β m w β' m' w') l ts w := by
  induction h with
  | nil t m => exact fun β w ts hR hT => ⟨β, hT, hR, .refl _ _ _⟩
  | @op i l o t t' m m1 m' v ho hw h hr ih =>
    intro β w ts hR hT
    simp only [RR, ho, wanted_rel hT, hw, if_true]
    intro ops' i' rest k cs ho' hw'
    obtain ⟨v', w1, ⟨β1, hv1, hR1, hS1⟩, s⟩ := h.2 b β w ts ds hR hT ops' i' rest k cs ho' hw'
    refine ⟨v', w1, ?_, s⟩
    have hT1 : ARel β1 m1.size (put t o.dst v) (put ts o.dst v') := (hT.mono hS1.agree hS1.msz).put _ hv1
    refine RR.mono _ _ _ _ _ ?_ (ih β1 w1 _ hR1 hT1)
    rintro ts2 w2 ⟨β2, hT2, hR2, hS2⟩
    exact ⟨β2, hT2, hR2, hS1.trans hS2⟩
  | @off i l o t t' m m' ho hw hr ih =>
    intro β w ts hR hT
    simp only [RR, ho, wanted_rel hT, hw, Bool.false_eq_true, if_false]
    exact ih β w _ hR (hT.put _ (.undef _ _))

theorem ACd.region {P : Program} {id : Nat} {ops : Array Oper} {t t' : Array Value} {m m' : Mem} (h : ARow P ops (List.range ops.size) t m t' m') : ACd P (.region id ops false) t m .normal t' m' := by
  refine ⟨h.loops, fun b β w ts ds n hR hT hM hn hd hI => ?_⟩
  intro k cs
  obtain ⟨ts', w', ⟨β', hT', hR', hS'⟩, s⟩ := RR.steps _ _ _ (h.sound (b := b) (ds := ds) β w ts hR hT) k cs
  exact ⟨.normal, ts', ds, w', ⟨rfl, hM.stp hR hS', hd, β', hT', hR', hS'⟩, (Steps.one st_region).trans s⟩

/-- A region that draws its order: it has to come to the same in every order. -/
theorem ACd.region_draw {P : Program} {id : Nat} {ops : Array Oper} {t t' : Array Value} {m m' : Mem} (h : ∀ q, ARow P ops (Region.schedule (P.follows .mixedOrders) ops q) t m t' m') : ACd P (.region id ops true) t m .normal t' m' := by
  refine ⟨(h 0).loops, fun b β w ts ds n hR hT hM hn hd hI => ?_⟩
  intro k cs
  have hdr : ({ w with drawn := w.drawn + 1 } : World).heap = w.heap := rfl
  obtain ⟨ts', w', ⟨β', hT', hR', hS'⟩, s⟩ := RR.steps _ _ _ ((h (w.tape w.drawn (.order b.fn id))).sound (b := b) (ds := ds) β { w with drawn := w.drawn + 1 } ts (hR.drew hdr) hT) k cs
  have hS2 : Stp β m w β' m' w' := (Stp.drew (w' := { w with drawn := w.drawn + 1 }) hdr rfl rfl rfl).trans hS'
  exact ⟨.normal, ts', ds, w', ⟨rfl, hM.stp hR hS2, hd, β', hT', hR', hS2⟩, (Steps.one st_region_draw).trans s⟩

/-! ### Functions -/
def aResult (P : Program) (m : Mem) (t : Array Value) : ResultVar → Option Value
  | .tmp i => some (t.getD i Go.undef)
  | .cell a ty => aLoad P m ty (t.getD a Go.undef)
def aResults (P : Program) (m : Mem) (t : Array Value) : List ResultVar → Option (List Value)
  | [] => some []
  | r :: rs => match aResult P m t r, aResults P m t rs with
    | some v, some vs => some (v :: vs)
    | _, _ => none
def oneOf (vs : List Value) : Value :=
  match vs with
  | [v] => v
  | vs => .tuple vs.toArray

def resSem (ts : Array Value) : ResultVar → Sem Value
  | .tmp t => Pure.pure (ts.getD t Go.undef)
  | .cell a t => do loadVar t (← asAddr (ts.getD a Go.undef))
theorem results_eq (fn : Func) (ts : Array Value) : results fn ts = (do
    let vs ← fn.results.mapM (resSem ts)
    pure (if h : vs.size = 1 then vs[0] else .tuple vs)) := by
  unfold results
  congr 1

theorem aResults_sound {P : Program} {β : Beta} {m : Mem} {w : World} {t ts : Array Value} (hR : Rel P β m w) (hT : ARel β m.size t ts) : ∀ (rs : List ResultVar) (vs : List Value), aResults P m t rs = some vs →
    ∃ vs', (rs.mapM (resSem ts)).run P w = .ok vs' w ∧ vs.length = vs'.length ∧
      ∀ (i : Nat) v v', vs[i]? = some v → vs'[i]? = some v' → VRel β m.size v v'
  | [], vs, h => by
    injection h with h; subst h
    exact ⟨[], rfl, rfl, fun i v v' e => by simp at e⟩
  | r :: rs, vs, h => by
    unfold aResults at h
    cases e1 : aResult P m t r with
    | none => rw [e1] at h; cases h
    | some v =>
      cases e2 : aResults P m t rs with
      | none => rw [e1, e2] at h; cases h
      | some vr =>
        rw [e1, e2] at h; injection h with h; subst h
        obtain ⟨vr', hr, hl, hv⟩ := aResults_sound hR hT rs vr e2
        have one : ∃ v', (resSem ts r).run P w = .ok v' w ∧ VRel β m.size v v' := by
          cases r with
          | tmp i => injection e1 with e1; subst e1; exact ⟨_, rfl, hT.getD i⟩
          | cell a ty =>
            have hx := hT.getD a
            obtain ⟨v', hr', hv'⟩ := aLoad_sound hR hx e1
            refine ⟨v', ?_, hv'⟩
            have hs : ∀ q, (Instr.loadAt ty q).run P w = .ok v' w → (do loadVar ty (← asAddr q) : Sem Value).run P w = .ok v' w := by
              intro q hq
              cases q with
              | pointer o =>
                cases o with
                | none => simp [Instr.loadAt, Instr.sureAddr] at hq
                | some a => simpa [Instr.loadAt, Instr.sureAddr, asAddr] using hq
              | _ => simp [Instr.loadAt, Instr.sureAddr] at hq
            exact hs _ hr'
        obtain ⟨v', hr1, hv1⟩ := one
        refine ⟨v' :: vr', ?_, by simp [hl], fun i x x' e e' => ?_⟩
        · rw [List.mapM_cons, Sem.run_bind, hr1]
          simp only [Result.andThen_ok, Sem.run_bind, hr, Sem.run_pure]
        · cases i with
          | zero => simp at e e'; subst e; subst e'; exact hv1
          | succ i => exact hv i x x' (by simpa using e) (by simpa using e')

theorem results_sound {P : Program} {β : Beta} {m : Mem} {w : World} {fn : Func} {t ts : Array Value} {vs : List Value} (hR : Rel P β m w) (hT : ARel β m.size t ts) (h : aResults P m t fn.results.toList = some vs) :
    ∃ v', (results fn ts).run P w = .ok v' w ∧ VRel β m.size (oneOf vs) v' := by
  obtain ⟨vs', hr, hl, hv⟩ := aResults_sound hR hT _ vs h
  have hm : (fn.results.mapM (resSem ts)).run P w = .ok vs'.toArray w := by
    rw [Array.mapM_eq_mapM_toList, Sem.run_map, hr]; rfl
  refine ⟨if h : vs'.toArray.size = 1 then vs'.toArray[0] else .tuple vs'.toArray, ?_, ?_⟩
  · rw [results_eq, Sem.run_bind, hm]; rfl
  · unfold oneOf
    split
    · rename_i v
      obtain ⟨v', rfl⟩ : ∃ v', vs' = [v'] := by
        cases vs' with
        | nil => simp at hl
        | cons v' r => cases r with
          | nil => exact ⟨v', rfl⟩
          | cons _ _ => simp at hl
      simp only [List.size_toArray, List.length_cons, List.length_nil, Nat.zero_add, dif_pos]
      exact hv 0 v v' rfl rfl
    · rename_i hne
      rw [dif_neg]
      · exact .tuple _ _ (by simpa using hl) (fun i v v' e e' => hv i v v' (by simpa using e) (by simpa using e'))
      · intro h1
        simp only [List.size_toArray] at h1
        cases vs with
        | nil => simp at hl; omega
        | cons v r => cases r with
          | nil => exact hne v rfl
          | cons _ _ => simp at hl; omega

theorem ACalls.body {P : Program} {f : FuncId} {fn : Func} {c : Code} {args : Array Value} {m m' : Mem} {e : AExit} {t' : Array Value} {vs : List Value} (hf : P.funcs[f]? = some fn) (hb : fn.body = some c)
    (h : ACd P c (args ++ Array.replicate (fn.ntmps - args.size) Go.undef) m e t' m') (he : e = .normal ∨ e = .ret) (hr : aResults P m' t' fn.results.toList = some vs) : ACalls P f args m (oneOf vs) m' := by
  refine ⟨h.1, fun β w args' hR hA => ?_⟩
  have hT : ARel β m.size (args ++ Array.replicate (fn.ntmps - args.size) Go.undef) (args' ++ Array.replicate (fn.ntmps - args'.size) Go.undef) := by
    rw [← hA.1]; exact hA.append (ARel.replicate _ (.undef _ _))
  refine calls_of_CR hf hb ((h.2 ⟨f, .normal, none⟩ β w _ [] w.heap.size hR hT ⟨[], rfl, by simp, by simp⟩ (Nat.le_refl _) (fun _ => rfl) (fun l hl => by cases hl)).mono ?_)
  rintro e' ts' ds' w' ⟨rfl, ⟨rs, h1, h2, h3⟩, _, β', hT', hR', hS'⟩
  have hrs : ∀ r ∈ rs, w'.heap[r]? = some (.deferred (some [])) := fun r hr => (h3 r hr).2
  have hRp := hR'.popped hrs
  have hSp := hS'.popped (fun r hr => (h3 r hr).1)
  obtain ⟨v', hv', hvr⟩ := results_sound (fn := fn) hRp hT' hr
  rcases he with rfl | rfl
  · exact ⟨rs, h1, h2, hrs, v', hv', β', hvr, hRp, hSp⟩
  · exact ⟨rs, h1, h2, hrs, v', hv', β', hvr, hRp, hSp⟩

end Go.AM

/-! ### A16 -/
namespace Go.AM
set_option linter.unusedVariables false
set_option linter.unusedSimpArgs false

def setParams (t : Array Value) (ps : Array Tmp) (args : Array Value) : Array Value :=
  (ps.zip args).foldl (fun t (p, a) => t.setIfInBounds p a) t

theorem setParams_rel {β : Beta} {N : Nat} {t ts : Array Value} {ps : Array Tmp} {args args' : Array Value} (hT : ARel β N t ts) (hA : ARel β N args args') : ARel β N (setParams t ps args) (setParams ts ps args') := by
  unfold setParams
  rw [← Array.foldl_toList, ← Array.foldl_toList, Array.toList_zip, Array.toList_zip]
  have key : ∀ (ps : List Tmp) (l l' : List Value) (t ts : Array Value), l.length = l'.length → (∀ (i : Nat) v v', l[i]? = some v → l'[i]? = some v' → VRel β N v v') → ARel β N t ts →
      ARel β N ((ps.zip l).foldl (fun t (p, a) => t.setIfInBounds p a) t) ((ps.zip l').foldl (fun t (p, a) => t.setIfInBounds p a) ts) := by
    intro ps
    induction ps with
    | nil => intro l l' t ts _ _ h; simpa using h
    | cons p ps ih =>
      intro l l' t ts hl hv h
      cases l with
      | nil => cases l' with
        | nil => simpa using h
        | cons _ _ => simp at hl
      | cons x l => cases l' with
        | nil => simp at hl
        | cons x' l' =>
          simp only [List.zip_cons_cons, List.foldl_cons]
          exact ih l l' _ _ (by simpa using hl) (fun i v v' e e' => hv (i + 1) v v' (by simpa using e) (by simpa using e')) (h.set p (hv 0 x x' rfl rfl))
  exact key ps.toList args.toList args'.toList t ts (by simpa using hA.1) (fun i v v' e e' => hA.2 i v v' (by simpa using e) (by simpa using e')) hT

def ARound (P : Program) (l : Nat) (args : Array Value) (m : Mem) (v : Value) (m' : Mem) : Prop :=
  ∃ L t2 m2 L2 e t4 m4 L4, Mem.get m l = .loop L ∧ args.size = L.params.size ∧
    ACd P L.assign (setParams L.tmps L.params args) m .normal t2 m2 ∧ Mem.get m2 l = .loop L2 ∧ L2.state = .ready ∧
    ACd P L.body t2 (m2.setIfInBounds l (.loop { L2 with state := .busy })) e t4 m4 ∧ Mem.get m4 l = .loop L4 ∧
    m' = m4.setIfInBounds l (.loop { L4 with state := if e.jump.isNone then .ready else .done, pending := e.jump }) ∧ v = .bool e.jump.isNone

theorem isLoop_of {m : Mem} {l : Nat} {L : ALoop} (h : Mem.get m l = .loop L) : (Mem.get m l).isLoop = true := by rw [h]; rfl

theorem ARound.loops {P : Program} {l : Nat} {args : Array Value} {m m' : Mem} {v : Value} (h : ARound P l args m v m') : LoopsIn m m' := by
  obtain ⟨L, t2, m2, L2, e, t4, m4, L4, _, _, h3, _, _, h6, _, rfl, _⟩ := h
  exact ((h3.1.trans (LoopsIn.set (fun _ => rfl))).trans h6.1).trans (LoopsIn.set (fun _ => rfl))

theorem Rel.setLoop {P : Program} {β : Beta} {m : Mem} {w : World} (hR : Rel P β m w) {l : Nat} {L L' : ALoop} {r' : Loop} (h : Mem.get m l = .loop L)
    (h1 : r'.state = L'.state) (h2 : r'.pending = L'.pending) (h3 : r'.params = L'.params) (h4 : r'.assign = L'.assign) (h5 : r'.body = L'.body) (h6 : ARel β m.size L'.tmps r'.tmps) :
    Rel P β (m.setIfInBounds l (.loop L')) (World.putObj w (β.blk l) (.loop r')) ∧ Stp β m w β (m.setIfInBounds l (.loop L')) (World.putObj w (β.blk l) (.loop r')) :=
  hR.upd (by rw [h]; rfl) (fun c h' => by rw [h] at h'; cases h') ⟨r', rfl, h1, h2, h3, h4, h5, h6⟩

theorem AOp.yield {P : Program} {o : Oper} {c : Call} {f : Operand} {t : Array Value} {m m' : Mem} {v : Value} {l : Nat} (hc : o.op = .call c) (hf : c.callee = .value f) (ho : okOps P o.op = true)
    (hv : ev t f = .func (.yield l) #[] #[]) (h : ARound P l (c.args.map (ev t)) m v m') : AOp P o t m v m' := by
  refine ⟨h.loops, fun b β w ts ds hR hT => ?_⟩
  have hops := ops_rel hR hT ho
  have hfv : VRel β m.size (ev t f) (ev ts f) := hops f (by rw [hc]; simp [Op.operands, Call.operands, hf])
  have hA : ARel β m.size (c.args.map (ev t)) (c.args.map (ev ts)) := ARel.of_map _ (fun x hx => hops x (by rw [hc]; simp [Op.operands, Call.operands, hf, hx]))
  obtain ⟨L, t2, m2, L2, e, t4, m4, L4, hl, hsz, h3, hl2, hst, h6, hl4, rfl, rfl⟩ := h
  rw [hv] at hfv
  cases hfs : ev ts f with
  | func g' a' cap' =>
    rw [hfs] at hfv
    cases hfv with
    | yield _ hlt =>
      obtain ⟨r, hr, e1, e2, e3, e4, e5, e6⟩ := hR.loop l L hl
      have hrun : (execOp (ev ts) o).run P w = .ok (.round (β.blk l) r.fn (setParams r.tmps r.params (c.args.map (ev ts))) r.assign r.body) w := by
        obtain ⟨dst, op, ty, pos, after, guard⟩ := o
        simp only at hc; subst hc
        have hg : (Instr.getLoop (β.blk l)).run P w = .ok r w := by simp [Instr.getLoop, getObj, bind, Sem.bind, pure, Sem.run, hr]
        have hsz' : (c.args.map (ev ts)).size = r.params.size := by rw [e3, ← hsz]; exact hA.1.symm
        have hsz2 : ¬ ((#[] ++ c.args.map (ev ts)).size ≠ r.params.size) := by simpa using hsz'
        simp only [execOp, resolve, hf, hfs, Deferred.ofValue, Sem.run_bind, Sem.run_pure, Result.andThen_ok, invoke, Instr.yield, hg]
        rw [if_neg hsz2]
        simp [setParams]
      refine OR.round (by rw [hc]; rfl) hrun ?_
      refine runs_round ?_
      have hTT : ARel β m.size (setParams L.tmps L.params (c.args.map (ev t))) (setParams r.tmps r.params (c.args.map (ev ts))) := by
        rw [e3]; exact setParams_rel e6 hA
      have hin : InRound ⟨r.fn, .normal, some (β.blk l)⟩ β m := fun l' hl' => by cases hl'; exact ⟨l, isLoop_of hl, rfl⟩
      rw [e4]
      refine (h3.2 ⟨r.fn, .normal, some (β.blk l)⟩ β w _ [] w.heap.size hR hTT ⟨[], rfl, by simp, by simp⟩ (Nat.le_refl _) (fun _ => rfl) hin).mono ?_
      rintro e0 ts2 ds2 w2 ⟨rfl, hM2, hd2, β2, hT2, hR2, hS2⟩
      refine ⟨rfl, hd2 (by simp), ?_⟩
      have hb2 : β2.blk l = β.blk l := hS2.agree.blk l hlt
      obtain ⟨r2, hr2, f1, f2, f3, f4, f5, f6⟩ := hR2.loop l L2 hl2
      refine ⟨r2, by rw [← hb2]; exact hr2, by rw [f1]; exact hst, ?_⟩
      obtain ⟨hR3, hS3⟩ := hR2.setLoop (L' := { L2 with state := .busy }) (r' := { r2 with state := .busy }) hl2 rfl f2 f3 f4 f5 f6
      rw [hb2] at hR3 hS3
      have hlt2 : l < m2.size := Mem.lt_of_live (by rw [hl2]; rfl)
      have hin3 : InRound ⟨r.fn, .normal, some (β.blk l)⟩ β2 (m2.setIfInBounds l (.loop { L2 with state := .busy })) := fun l' hl' => by
        cases hl'
        refine ⟨l, ?_, hb2⟩
        rw [get_set, if_pos ⟨rfl, hlt2⟩]; rfl
      rw [e5]
      refine (h6.2 ⟨r.fn, .normal, some (β.blk l)⟩ β2 _ ts2 [] w2.heap.size hR3 (by simpa using hT2) ⟨[], rfl, by simp, by simp⟩ (by simp [World.putObj]) (fun _ => rfl) hin3).mono ?_
      rintro e9 ts4 ds4 w4 ⟨rfl, hM4, hd4, β4, hT4, hR4, hS4⟩
      refine ⟨hd4 (by simp), ?_⟩
      have hb4 : β4.blk l = β.blk l := by rw [hS4.agree.blk l (by simpa using hlt2)]; exact hb2
      obtain ⟨r4, hr4, g1, g2, g3, g4, g5, g6⟩ := hR4.loop l L4 hl4
      refine ⟨r4, by rw [← hb4]; exact hr4, ?_⟩
      obtain ⟨hR5, hS5⟩ := hR4.setLoop (L' := { L4 with state := if e9.jump.isNone then .ready else .done, pending := e9.jump }) (r' := { r4 with state := if e9.jump.isNone then .ready else .done, pending := e9.jump }) hl4 rfl rfl g3 g4 g5 g6
      rw [hb4] at hR5 hS5
      exact ⟨β4, .bool _, hR5, hS2.trans (hS3.trans (hS4.trans hS5))⟩
  | _ => rw [hfs] at hfv; cases hfv

theorem ACd.rangeFunc {P : Program} {f : Operand} {params : Array Tmp} {as bd : Code} {t : Array Value} {m m2 : Mem} {g : FuncId} {a cap : Array Value} {v : Value} {L : ALoop} {e : AExit}
    (ho : okOper P.globals.size f = true) (hv : ev t f = .func (.func g) a cap) (hcall : callable P g = true)
    (h : ACalls P g (a ++ #[.func (.yield m.size) #[] #[]] ++ cap) (m.push (.loop { state := .ready, pending := none, tmps := t, params, assign := as, body := bd })) v m2)
    (hL : Mem.get m2 m.size = .loop L) (hs : L.state ≠ .busy) (hp : L.pending = e.jump) : ACd P (.rangeFunc f params as bd) t m e t (m2.setIfInBounds m.size .dead) := by
  have hloops : LoopsIn m (m2.setIfInBounds m.size .dead) := by
    intro i hi
    have hlt : i < m.size := by
      refine Mem.lt_of_live ?_
      cases hh : Mem.get m i <;> rw [hh] at hi <;> first | rfl | cases hi
    rw [get_set, if_neg (by omega)]
    exact h.1 i (LoopsIn.push m _ i hi)
  refine ⟨hloops, fun b β w ts ds n hR hT hM hn hd hI => ?_⟩
  have hfv := ev_rel hR hT ho
  rw [hv] at hfv
  cases hfs : ev ts f with
  | func g' a' cap' =>
    rw [hfs] at hfv
    cases hfv with
    | func _ _ _ _ _ h1 h2 h3 h4 =>
      obtain ⟨D, mark, w1, hrun, hcase⟩ := run_enterLoop (P := P) (w := w) b.fn ts params as bd b.roundOf (fun l hl => by
        obtain ⟨x, hx1, hx2⟩ := hI l hl
        cases hh : Mem.get m x with
        | loop L' => obtain ⟨r, hr, _⟩ := hR.loop x L' hh; exact ⟨r, by rw [← hx2]; exact hr⟩
        | _ => rw [hh] at hx1; cases hx1)
      -- the world with the marks' block
      have hw1 : Rel P β m w1 ∧ Stp β m w β m w1 ∧ MarksFrom n (mark ++ ds) w1 ∧ (b.roundOf ≠ none → mark ++ ds = []) := by
        rcases hcase with ⟨hnone, rfl, rfl⟩ | ⟨hsome, rfl, rfl⟩
        · refine ⟨⟨hR.gsz, hR.glob, fun i hi => ?_, hR.inj⟩, ⟨Nat.le_refl _, by simp, .refl _ _, fun i hi => .inr ⟨i, hi, rfl⟩, fun i hi _ => by rw [Array.getElem?_push_lt hi, Array.getElem?_eq_getElem hi], rfl, rfl, rfl⟩, ?_, fun h => absurd hnone h⟩
          · obtain ⟨O, o1, o2⟩ := hR.obj i hi
            refine ⟨O, ?_, o2⟩
            have hlt := (Array.getElem?_eq_some_iff.1 o1).1
            rw [Array.getElem?_push_lt hlt, ← o1, Array.getElem?_eq_getElem hlt]
          · obtain ⟨rs, q1, q2, q3⟩ := hM
            refine ⟨w.heap.size :: rs, by rw [q1]; rfl, List.nodup_cons.2 ⟨fun hm => ?_, q2⟩, fun r hr => ?_⟩
            · have := (Array.getElem?_eq_some_iff.1 (q3 _ hm).2).1; omega
            · rcases List.mem_cons.1 hr with rfl | hr
              · exact ⟨hn, by simp⟩
              · refine ⟨(q3 r hr).1, ?_⟩
                have := (q3 r hr).2
                have hlt := (Array.getElem?_eq_some_iff.1 this).1
                rw [Array.getElem?_push_lt hlt, ← this, Array.getElem?_eq_getElem hlt]
        · exact ⟨hR, .refl _ _ _, by simpa using hM, fun h => by simpa using hd h⟩
      obtain ⟨hR1, hS1, hM1, hd1⟩ := hw1
      -- the world with the loop's record
      obtain ⟨hR2, hS2⟩ := hR1.push (o := .loop { state := .ready, pending := none, tmps := t, params, assign := as, body := bd }) (O := .loop { state := .ready, pending := none, fn := b.fn, tmps := ts, params, assign := as, body := bd, defers := D }) (cap := 0)
        ⟨_, rfl, rfl, rfl, rfl, rfl, rfl, hT.mono (Beta.ext_agree _ _ _ _) (by omega)⟩
      have hag := Beta.ext_agree β m.size w1.heap.size 0
      have hargs : ARel (β.ext m.size w1.heap.size 0) (m.push (.loop { state := .ready, pending := none, tmps := t, params, assign := as, body := bd })).size (a ++ #[.func (.yield m.size) #[] #[]] ++ cap) (a' ++ #[.func (.yield w1.heap.size) #[] #[]] ++ cap') := by
        have q1 : ARel β m.size a a' := ⟨h1, h2⟩
        have q2 : ARel β m.size cap cap' := ⟨h3, h4⟩
        have hle : m.size ≤ (m.push (.loop { state := .ready, pending := none, tmps := t, params, assign := as, body := bd })).size := by simp
        have one : ARel (β.ext m.size w1.heap.size 0) (m.push (.loop { state := .ready, pending := none, tmps := t, params, assign := as, body := bd })).size #[.func (.yield m.size) #[] #[]] #[.func (.yield w1.heap.size) #[] #[]] := by
          refine ⟨rfl, fun i x x' ex ex' => ?_⟩
          cases i with
          | zero =>
            simp at ex ex'; subst ex; subst ex'
            have := VRel.yield (β := β.ext m.size w1.heap.size 0) (N := (m.push (.loop { state := .ready, pending := none, tmps := t, params, assign := as, body := bd })).size) m.size (by simp)
            simpa [Beta.ext] using this
          | succ i => simp at ex
        exact ((q1.mono hag hle).append one).append (q2.mono hag hle)
      refine CR.rangeFunc (g := g) (args := a' ++ #[.func (.yield w1.heap.size) #[] #[]] ++ cap') (w2 := World.pushObj w1 (.loop { state := .ready, pending := none, fn := b.fn, tmps := ts, params, assign := as, body := bd, defers := D })) hrun ?_ ?_
      · simp only [callYield, hfs, Deferred.ofValue, Sem.run_bind, Sem.run_pure, Result.andThen_ok, invoke]
        exact run_callFunc hcall
      · refine (Runs.of_calls (h.2 _ _ _ hR2 hargs)).mono ?_
        rintro v' w3 ⟨β3, hv3, hR3, hS3⟩
        obtain ⟨r, hr, e1, e2, _⟩ := hR3.loop m.size L hL
        have hb3 : β3.blk m.size = w1.heap.size := by
          rw [hS3.agree.blk m.size (by simp)]; simp [Beta.ext]
        rw [hb3] at hr
        refine ⟨r, e, hr, by rw [e1]; exact hs, by rw [e2]; exact hp, rfl, ?_⟩
        obtain ⟨hR4, hS4⟩ := hR3.upd (b := m.size) (by rw [hL]; rfl) (fun c h' => by rw [hL] at h'; cases h') (o := .dead) (O := .loop { r with state := .exhausted }) trivial
        rw [hb3] at hR4 hS4
        have hSS : Stp β m w1 β3 (m2.setIfInBounds m.size .dead) (World.putObj w3 w1.heap.size (.loop { r with state := .exhausted })) := hS2.trans (hS3.trans hS4)
        exact ⟨hM1.stp hR1 hSS, hd1, β3, hT.mono hSS.agree hSS.msz, hR4, hS1.trans hSS⟩
  | _ => rw [hfs] at hfv; cases hfv

end Go.AM

/-! ### A17 -/
namespace Go.AM
set_option linter.unusedVariables false
set_option linter.unusedSimpArgs false

inductive AStep (P : Program) (op : Op) (ρ : Operand → Value) (m : Mem) (v : Value) (m' : Mem) : Prop
  | pure (h : aPure P ρ op = some v) (hm : m' = m)
  | read (h : aRead P m ρ op = some v) (hm : m' = m)
  | eff (h : aEff P m ρ op = some (v, m'))
  | call (c : Call) (f : Operand) (g : FuncId) (a cap : Array Value) (hc : op = .call c) (hf : c.callee = .value f) (hv : ρ f = .func (.func g) a cap) (hk : callable P g = true)
      (h : ACalls P g (a ++ c.args.map ρ ++ cap) m v m')
  | yield (c : Call) (f : Operand) (l : Nat) (hc : op = .call c) (hf : c.callee = .value f) (hv : ρ f = .func (.yield l) #[] #[]) (h : ARound P l (c.args.map ρ) m v m')

theorem noDefer_pure {P : Program} {ρ : Operand → Value} {op : Op} {v : Value} (h : aPure P ρ op = some v) : noDefer op = true := by
  cases op <;> first | rfl | (simp [aPure] at h)
theorem noDefer_read {P : Program} {m : Mem} {ρ : Operand → Value} {op : Op} {v : Value} (h : aRead P m ρ op = some v) : noDefer op = true := by
  cases op <;> first | rfl | (simp [aRead] at h)
theorem noDefer_eff {P : Program} {m : Mem} {ρ : Operand → Value} {op : Op} {v : Value × Mem} (h : aEff P m ρ op = some v) : noDefer op = true := by
  cases op <;> first | rfl | (simp [aEff] at h)

theorem AStep.aop {P : Program} {o : Oper} {t : Array Value} {m m' : Mem} {v : Value} (ho : okOps P o.op = true) (h : AStep P o.op (ev t) m v m') : AOp P o t m v m' := by
  cases h with
  | pure h hm => subst hm; exact AOp.pure (noDefer_pure h) ho h
  | read h hm => subst hm; exact AOp.read (noDefer_read h) ho h
  | eff h => exact AOp.eff (noDefer_eff h) ho h
  | call c f g a cap hc hf hv hk h => exact AOp.call hc hf ho hv hk h
  | yield c f l hc hf hv h => exact AOp.yield hc hf ho hv h

theorem map_congr_ops {ρ ρ' : Operand → Value} (l : Array Operand) (h : ∀ x ∈ l, ρ x = ρ' x) : l.map ρ = l.map ρ' := Array.map_congr_left h
theorem map_congr_list {ρ ρ' : Operand → Value} (l : List Operand) (h : ∀ x ∈ l, ρ x = ρ' x) : l.map ρ = l.map ρ' := List.map_congr_left h
theorem map_congr_parts {ρ ρ' : Operand → Value} (l : List (Nat × Operand)) (h : ∀ p ∈ l, ρ p.2 = ρ' p.2) : (l.map fun p => (p.1, ρ p.2)) = (l.map fun p => (p.1, ρ' p.2)) :=
  List.map_congr_left (fun p hp => by rw [h p hp])
theorem map_congr_opt {ρ ρ' : Operand → Value} (l : Option Operand) (h : ∀ x, l = some x → ρ x = ρ' x) : l.map ρ = l.map ρ' := by
  cases l with
  | none => rfl
  | some x => simp [h x rfl]

theorem aPure_congr {P : Program} {ρ ρ' : Operand → Value} {op : Op} (h : ∀ x ∈ op.operands, ρ x = ρ' x) : aPure P ρ op = aPure P ρ' op := by
  cases op with
  | move x => simp only [aPure]; rw [h x (by simp [Op.operands])]
  | assign x => simp only [aPure]; rw [h x (by simp [Op.operands])]
  | pick c a b => simp only [aPure]; rw [h c (by simp [Op.operands]), h a (by simp [Op.operands]), h b (by simp [Op.operands])]
  | nilCheck x => simp only [aPure]; rw [h x (by simp [Op.operands])]
  | binOp op t x y yt => simp only [aPure]; rw [h x (by simp [Op.operands]), h y (by simp [Op.operands])]
  | unOp op t x => simp only [aPure]; rw [h x (by simp [Op.operands])]
  | convert s d x => simp only [aPure]; rw [h x (by simp [Op.operands])]
  | makeInterface t x => simp only [aPure]; rw [h x (by simp [Op.operands])]
  | makeFunc fn a c =>
    cases fn with
    | func f =>
      simp only [aPure]
      rw [map_congr_ops a (fun x hx => h x (by simp [Op.operands, hx])), map_congr_ops c (fun x hx => h x (by simp [Op.operands, hx]))]
    | _ => rfl
  | fieldAddr s x f => simp only [aPure]; rw [h x (by simp [Op.operands])]
  | field t x f => simp only [aPure]; rw [h x (by simp [Op.operands])]
  | indexAddr t x i => simp only [aPure]; rw [h x (by simp [Op.operands]), h i (by simp [Op.operands])]
  | index t x i => simp only [aPure]; rw [h x (by simp [Op.operands]), h i (by simp [Op.operands])]
  | extract x i => simp only [aPure]; rw [h x (by simp [Op.operands])]
  | build t ps =>
    simp only [aPure]
    rw [map_congr_parts ps.toList (fun p hp => h p.2 (by simp only [Op.operands, List.mem_toArray, List.mem_map]; exact ⟨p, hp, rfl⟩))]
  | call c =>
    obtain ⟨callee, ⟨args⟩, ⟨ts⟩⟩ := c
    have ha : ∀ f, callee ≠ .value f → ∀ x ∈ args, ρ x = ρ' x := by
      intro f _ x hx
      exact h x (by cases callee <;> simp [Op.operands, Call.operands, hx])
    cases callee with
    | builtin b =>
      have hb : ∀ x ∈ args, ρ x = ρ' x := ha (.tmp 0) (by simp)
      cases b with
      | len =>
        rcases args with _ | ⟨x, _ | ⟨y, l⟩⟩ <;> rcases ts with _ | ⟨t, _ | ⟨u, r⟩⟩ <;> first
          | rfl
          | (simp only [aPure]; rw [hb x (by simp)])
      | max =>
        rcases args with _ | ⟨x, l⟩ <;> first
          | rfl
          | (simp only [aPure]; rw [hb x (by simp), map_congr_list l (fun y hy => hb y (by simp [hy]))])
      | min =>
        rcases args with _ | ⟨x, l⟩ <;> first
          | rfl
          | (simp only [aPure]; rw [hb x (by simp), map_congr_list l (fun y hy => hb y (by simp [hy]))])
      | _ => rfl
    | _ => rfl
  | _ => rfl

theorem aRead_congr {P : Program} {m : Mem} {ρ ρ' : Operand → Value} {op : Op} (h : ∀ x ∈ op.operands, ρ x = ρ' x) : aRead P m ρ op = aRead P m ρ' op := by
  cases op with
  | load t a => simp only [aRead]; rw [h a (by simp [Op.operands])]
  | slice t x lo hi mx =>
    simp only [aRead]
    rw [h x (by simp [Op.operands]), map_congr_opt lo (fun y hy => h y (by simp [Op.operands, hy])), map_congr_opt hi (fun y hy => h y (by simp [Op.operands, hy])), map_congr_opt mx (fun y hy => h y (by simp [Op.operands, hy]))]
  | lookup t x k ok => simp only [aRead]; rw [h x (by simp [Op.operands]), h k (by simp [Op.operands])]
  | call c =>
    obtain ⟨callee, ⟨args⟩, ⟨ts⟩⟩ := c
    cases callee with
    | builtin b =>
      have hb : ∀ x ∈ args, ρ x = ρ' x := fun x hx => h x (by simp [Op.operands, Call.operands, hx])
      cases b with
      | len =>
        rcases args with _ | ⟨x, _ | ⟨y, l⟩⟩ <;> rcases ts with _ | ⟨t, _ | ⟨u, r⟩⟩ <;> first
          | rfl
          | (simp only [aRead]; rw [hb x (by simp)])
      | _ => rfl
    | _ => rfl
  | _ => rfl

theorem aEff_congr {P : Program} {m : Mem} {ρ ρ' : Operand → Value} {op : Op} (h : ∀ x ∈ op.operands, ρ x = ρ' x) : aEff P m ρ op = aEff P m ρ' op := by
  cases op with
  | box e x => simp only [aEff]; rw [h x (by simp [Op.operands])]
  | buildSlice t len ps =>
    simp only [aEff]
    rw [map_congr_parts ps.toList (fun p hp => h p.2 (by simp only [Op.operands, List.mem_toArray, List.mem_map]; exact ⟨p, hp, rfl⟩))]
  | makeSlice t l c => simp only [aEff]; rw [h l (by simp [Op.operands]), h c (by simp [Op.operands])]
  | makeMap t r => simp only [aEff]; rw [map_congr_opt r (fun y hy => h y (by simp [Op.operands, hy]))]
  | store t a v => simp only [aEff]; rw [h a (by simp [Op.operands]), h v (by simp [Op.operands])]
  | mapUpdate t x k v => simp only [aEff]; rw [h x (by simp [Op.operands]), h k (by simp [Op.operands]), h v (by simp [Op.operands])]
  | insert t x k v => simp only [aEff]; rw [h x (by simp [Op.operands]), h k (by simp [Op.operands]), h v (by simp [Op.operands])]
  | call c =>
    obtain ⟨callee, ⟨args⟩, ⟨ts⟩⟩ := c
    cases callee with
    | builtin b =>
      have hb : ∀ x ∈ args, ρ x = ρ' x := fun x hx => h x (by simp [Op.operands, Call.operands, hx])
      cases b with
      | append =>
        rcases args with _ | ⟨x, _ | ⟨y, _ | ⟨z, l⟩⟩⟩ <;> rcases ts with _ | ⟨t, _ | ⟨u, _ | ⟨s, r⟩⟩⟩ <;> first
          | rfl
          | (simp only [aEff]; rw [hb x (by simp), hb y (by simp)])
      | copy =>
        rcases args with _ | ⟨x, _ | ⟨y, _ | ⟨z, l⟩⟩⟩ <;> rcases ts with _ | ⟨t, _ | ⟨u, _ | ⟨s, r⟩⟩⟩ <;> first
          | rfl
          | (simp only [aEff]; rw [hb x (by simp), hb y (by simp)])
      | clear =>
        rcases args with _ | ⟨x, _ | ⟨y, l⟩⟩ <;> rcases ts with _ | ⟨t, _ | ⟨u, r⟩⟩ <;> first
          | rfl
          | (simp only [aEff]; rw [hb x (by simp)])
      | cap =>
        rcases args with _ | ⟨x, _ | ⟨y, l⟩⟩ <;> rcases ts with _ | ⟨t, _ | ⟨u, r⟩⟩ <;> first
          | rfl
          | (simp only [aEff]; rw [hb x (by simp)])
      | _ => rfl
    | _ => rfl
  | _ => rfl

theorem AStep.congr {P : Program} {op : Op} {ρ ρ' : Operand → Value} {m m' : Mem} {v : Value} (h : ∀ x ∈ op.operands, ρ x = ρ' x) (hs : AStep P op ρ m v m') : AStep P op ρ' m v m' := by
  cases hs with
  | pure h1 hm => exact .pure (by rw [← aPure_congr h]; exact h1) hm
  | read h1 hm => exact .read (by rw [← aRead_congr h]; exact h1) hm
  | eff h1 => exact .eff (by rw [← aEff_congr h]; exact h1)
  | call c f g a cap hc hf hv hk h1 =>
    subst hc
    have e1 : c.args.map ρ = c.args.map ρ' := map_congr_ops _ (fun x hx => h x (by simp [Op.operands, Call.operands, hf, hx]))
    exact .call c f g a cap rfl hf (by rw [← h f (by simp [Op.operands, Call.operands, hf])]; exact hv) hk (by rw [← e1]; exact h1)
  | yield c f l hc hf hv h1 =>
    subst hc
    have e1 : c.args.map ρ = c.args.map ρ' := map_congr_ops _ (fun x hx => h x (by simp [Op.operands, Call.operands, hf, hx]))
    exact .yield c f l rfl hf (by rw [← h f (by simp [Op.operands, Call.operands, hf])]; exact hv) (by rw [← e1]; exact h1)

end Go.AM

/-! ### A18 -/
namespace Go.AM
set_option linter.unusedVariables false
set_option linter.unusedSimpArgs false

def waitsOf (W : Array Nat) (o : Oper) : Nat := o.after.foldl (fun s e => if Region.binds .any e then s ||| 2 ^ e.on ||| W.getD e.on 0 else s) 0
def okW (ops : Array Oper) (W : Array Nat) : Bool :=
  (List.range ops.size).all fun i => match ops[i]? with
    | some o => W.getD i 0 == waitsOf W o && o.after.all (fun e => !Region.binds .any e || decide (e.on < i))
    | none => false

def tmpsOf (xs : List Operand) : List Tmp := xs.filterMap fun | .tmp t => some t | _ => none
def slotsOf (ops : Array Oper) (o : Oper) : List Tmp :=
  tmpsOf o.op.operands.toList ++ (match o.guard with
    | some (g, _) => ((ops[g]?).bind (·.dst)).toList
    | none => [])
def dstOf (ops : Array Oper) (i : Nat) : Option Tmp := (ops[i]?).bind (·.dst)

def okSlots (ops : Array Oper) (W : Array Nat) : Bool :=
  (List.range ops.size).all fun i => (List.range ops.size).all fun j =>
    i == j || (match ops[i]?, dstOf ops j with
      | some o, some s => (!(slotsOf ops o).contains s && decide (o.dst ≠ some s)) || (if j < i then (W.getD i 0).testBit j else (W.getD j 0).testBit i)
      | _, _ => true)

theorem foldl_testBit (f : Edge → Nat) (p : Edge → Bool) : ∀ (l : List Edge) (s k : Nat), (l.foldl (fun s e => if p e then s ||| f e else s) s).testBit k = true → s.testBit k = true ∨ ∃ e ∈ l, p e = true ∧ (f e).testBit k = true
  | [], s, k, h => .inl h
  | e :: l, s, k, h => by
    rw [List.foldl_cons] at h
    rcases foldl_testBit f p l _ k h with h1 | ⟨e', he', h2⟩
    · split at h1
      · rename_i hp
        rw [Nat.testBit_or, Bool.or_eq_true] at h1
        rcases h1 with h1 | h1
        · exact .inl h1
        · exact .inr ⟨e, by simp, hp, h1⟩
      · exact .inl h1
    · exact .inr ⟨e', by simp [he'], h2⟩

theorem waits_spec {ops : Array Oper} {W : Array Nat} (h : okW ops W = true) {i : Nat} {o : Oper} (ho : ops[i]? = some o) :
    (∀ k, (W.getD i 0).testBit k = true → ∃ e ∈ o.after, Region.binds .any e = true ∧ (k = e.on ∨ (W.getD e.on 0).testBit k = true)) ∧ (∀ e ∈ o.after, Region.binds .any e = true → e.on < i) := by
  have hi : i < ops.size := (Array.getElem?_eq_some_iff.1 ho).1
  unfold okW at h
  rw [List.all_eq_true] at h
  have := h i (by simpa using hi)
  rw [ho] at this
  simp only [Bool.and_eq_true, beq_iff_eq] at this
  obtain ⟨h1, h2⟩ := this
  constructor
  · intro k hk
    rw [h1] at hk
    unfold waitsOf at hk
    rw [← Array.foldl_toList] at hk
    have e1 : (fun (s : Nat) (e : Edge) => if Region.binds .any e then s ||| 2 ^ e.on ||| W.getD e.on 0 else s) = (fun s e => if Region.binds .any e then s ||| (2 ^ e.on ||| W.getD e.on 0) else s) := by
      funext s e; rw [Nat.or_assoc]
    rw [e1] at hk
    rcases foldl_testBit _ _ _ _ _ hk with h3 | ⟨e, he, hb, h3⟩
    · simp at h3
    · refine ⟨e, by simpa using he, hb, ?_⟩
      rw [Nat.testBit_or, Bool.or_eq_true] at h3
      rcases h3 with h3 | h3
      · left
        rw [Nat.testBit_two_pow] at h3
        exact (show e.on = k by simpa using h3).symm
      · exact .inr h3
  · intro e he hb
    rw [Array.all_eq_true] at h2
    obtain ⟨j, hj, rfl⟩ := Array.mem_iff_getElem.1 he
    have := h2 j hj
    rw [hb] at this
    simpa using this

theorem slots_spec {ops : Array Oper} {W : Array Nat} (h : okSlots ops W = true) {i j : Nat} {o : Oper} {s : Tmp} (ho : ops[i]? = some o) (hj : dstOf ops j = some s) (hne : i ≠ j) (hs : s ∈ slotsOf ops o ∨ o.dst = some s) :
    (j < i ∧ (W.getD i 0).testBit j = true) ∨ (i < j ∧ (W.getD j 0).testBit i = true) := by
  have hi : i < ops.size := (Array.getElem?_eq_some_iff.1 ho).1
  have hjl : j < ops.size := by
    unfold dstOf at hj
    cases e : ops[j]? with
    | none => rw [e] at hj; cases hj
    | some o' => exact (Array.getElem?_eq_some_iff.1 e).1
  unfold okSlots at h
  rw [List.all_eq_true] at h
  have h1 := h i (by simpa using hi)
  rw [List.all_eq_true] at h1
  have h2 := h1 j (by simpa using hjl)
  rw [ho, hj] at h2
  have h3 : (i == j) = false := by simpa using hne
  rw [h3, Bool.false_or] at h2
  simp only [Bool.or_eq_true, Bool.and_eq_true, Bool.not_eq_true', decide_eq_true_eq] at h2
  rcases h2 with ⟨h4, h5⟩ | h4
  · rcases hs with hs | hs
    · rw [← List.contains_iff_mem] at hs; rw [hs] at h4; cases h4
    · exact absurd hs h5
  · split at h4
    · rename_i hlt; exact .inl ⟨hlt, h4⟩
    · rename_i hlt; exact .inr ⟨by omega, h4⟩

/-! ### What the temporaries hold, when some operations have been carried out -/
def Tof (ops : Array Oper) (v : Nat → Value) (t0 : Array Value) (D : Nat → Bool) : Nat → Array Value
  | 0 => t0
  | i + 1 => if D i then put (Tof ops v t0 D i) (dstOf ops i) (v i) else Tof ops v t0 D i

theorem put_get (t : Array Value) (d : Option Tmp) (v : Value) (s : Tmp) (h : d ≠ some s) : (put t d v)[s]? = t[s]? := by
  cases d with
  | none => rfl
  | some d =>
    have : d ≠ s := fun e => h (by rw [e])
    simp only [put]
    rw [Array.getElem?_setIfInBounds_ne this]

theorem Tof_above (ops : Array Oper) (v : Nat → Value) (t0 : Array Value) (D : Nat → Bool) (s : Tmp) (i : Nat) : ∀ n, i ≤ n → (∀ j, i ≤ j → j < n → D j = true → dstOf ops j ≠ some s) → (Tof ops v t0 D n)[s]? = (Tof ops v t0 D i)[s]?
  | 0, h, _ => by have : i = 0 := by omega
                  rw [this]
  | n + 1, h, hs => by
    by_cases hn : i = n + 1
    · rw [hn]
    · have ih := Tof_above ops v t0 D s i n (by omega) (fun j h1 h2 h3 => hs j h1 (by omega) h3)
      simp only [Tof]
      split
      · rename_i hD
        rw [put_get _ _ _ _ (hs n (by omega) (by omega) hD), ih]
      · exact ih

theorem put_get_congr {t t' : Array Value} {d : Option Tmp} {v : Value} {s : Tmp} (hsz : t.size = t'.size) (h : t[s]? = t'[s]?) : (put t d v)[s]? = (put t' d v)[s]? := by
  cases d with
  | none => exact h
  | some d =>
    simp only [put]
    rw [Array.getElem?_setIfInBounds, Array.getElem?_setIfInBounds, hsz, h]

theorem Tof_size (ops : Array Oper) (v : Nat → Value) (t0 : Array Value) (D : Nat → Bool) : ∀ n, (Tof ops v t0 D n).size = t0.size
  | 0 => rfl
  | n + 1 => by
    simp only [Tof]
    split
    · have := Tof_size ops v t0 D n
      cases h : dstOf ops n with
      | none => exact this
      | some d => simp only [put, Array.size_setIfInBounds]; exact this
    · exact Tof_size ops v t0 D n

theorem Tof_below (ops : Array Oper) (v : Nat → Value) (t0 : Array Value) (D : Nat → Bool) (s : Tmp) : ∀ i, (∀ j, j < i → dstOf ops j = some s → D j = true) → (Tof ops v t0 D i)[s]? = (Tof ops v t0 (fun _ => true) i)[s]?
  | 0, _ => rfl
  | i + 1, h => by
    have ih := Tof_below ops v t0 D s i (fun j h1 h2 => h j (by omega) h2)
    simp only [Tof, if_true]
    split
    · exact put_get_congr (by rw [Tof_size, Tof_size]) ih
    · rename_i hD
      by_cases hd : dstOf ops i = some s
      · exact absurd (h i (by omega) hd) hD
      · rw [put_get _ _ _ _ hd, ih]

theorem put_comm (t : Array Value) (a b : Option Tmp) (x y : Value) (h : ∀ s, a = some s → b ≠ some s) : put (put t a x) b y = put (put t b y) a x := by
  cases a with
  | none => rfl
  | some a => cases b with
    | none => rfl
    | some b =>
      have : a ≠ b := fun e => h a rfl (by rw [e])
      simp only [put]
      rw [Array.setIfInBounds_comm _ _ this]

theorem Tof_add (ops : Array Oper) (v : Nat → Value) (t0 : Array Value) (D : Nat → Bool) (i : Nat) (hi : D i = false) : ∀ n, i < n → (∀ j, i < j → j < n → D j = true → ∀ s, dstOf ops i = some s → dstOf ops j ≠ some s) →
    Tof ops v t0 (fun k => if k = i then true else D k) n = put (Tof ops v t0 D n) (dstOf ops i) (v i)
  | 0, h, _ => by omega
  | n + 1, h, hs => by
    have low : ∀ k, k ≤ i → Tof ops v t0 (fun k => if k = i then true else D k) k = Tof ops v t0 D k := by
      intro k
      induction k with
      | zero => intro _; rfl
      | succ k ih =>
        intro hk
        simp only [Tof]
        have hk' : (if k = i then true else D k) = D k := if_neg (by omega)
        simp only [ih (by omega), hk']
    by_cases hn : i = n
    · subst hn
      simp only [Tof, if_true, hi, Bool.false_eq_true, if_false]
      rw [low i (Nat.le_refl _)]
    · have ih := Tof_add ops v t0 D i hi n (by omega) (fun j h1 h2 h3 => hs j h1 (by omega) h3)
      simp only [Tof]
      have hn' : (if n = i then true else D n) = D n := if_neg (fun e => hn e.symm)
      simp only [ih, hn']
      split
      · rename_i hD
        exact put_comm _ _ _ _ _ (fun s h1 => hs n (by omega) (by omega) hD s h1)
      · rfl

/-! ### How far the effects have come -/
def stg (E D : Nat → Bool) : Nat → Nat
  | 0 => 0
  | i + 1 => if D i && E i then i + 1 else stg E D i

theorem stg_le (E D : Nat → Bool) : ∀ n, stg E D n ≤ n
  | 0 => Nat.le_refl _
  | n + 1 => by
    simp only [stg]
    split
    · exact Nat.le_refl _
    · have := stg_le E D n; omega
theorem stg_at (E D : Nat → Bool) : ∀ n, stg E D n = 0 ∨ (D (stg E D n - 1) = true ∧ E (stg E D n - 1) = true)
  | 0 => .inl rfl
  | n + 1 => by
    simp only [stg]
    split
    · rename_i h
      rw [Bool.and_eq_true] at h
      exact .inr (by simpa using h)
    · exact stg_at E D n
theorem stg_gt (E D : Nat → Bool) : ∀ n j, j < n → D j = true → E j = true → j < stg E D n
  | 0, j, h, _, _ => by omega
  | n + 1, j, h, h1, h2 => by
    simp only [stg]
    split
    · omega
    · rename_i hc
      have : j ≠ n := fun e => hc (by rw [← e, h1, h2]; rfl)
      exact stg_gt E D n j (by omega) h1 h2
theorem stg_congr (E D D' : Nat → Bool) : ∀ n, (∀ j, j < n → E j = true → D j = D' j) → stg E D n = stg E D' n
  | 0, _ => rfl
  | n + 1, h => by
    simp only [stg]
    rw [stg_congr E D D' n (fun j hj => h j (by omega))]
    by_cases he : E n = true
    · rw [h n (by omega) he]
    · have : E n = false := by simpa using he
      rw [this, Bool.and_false, Bool.and_false]
theorem stg_above (E D : Nat → Bool) (i : Nat) : ∀ n, i ≤ n → (∀ j, i ≤ j → j < n → E j = true → D j = false) → stg E D n = stg E D i
  | 0, h, _ => by have : i = 0 := by omega
                  rw [this]
  | n + 1, h, hs => by
    by_cases hn : i = n + 1
    · rw [hn]
    · simp only [stg]
      rw [stg_above E D i n (by omega) (fun j h1 h2 h3 => hs j h1 (by omega) h3)]
      split
      · rename_i hc
        rw [Bool.and_eq_true] at hc
        have := hs n (by omega) (by omega) hc.2
        rw [this] at hc; cases hc.1
      · rfl

/-! ### A run in the text's order that stands for all -/
/-- A read that no effect disturbs: it reads the same at every place where it may come. -/
def StageOk (n : Nat) (E : Nat → Bool) (W : Array Nat) (i k : Nat) : Prop :=
  k ≤ n ∧ (k = 0 ∨ E (k - 1) = true) ∧ (∀ j, j < n → E j = true → (W.getD i 0).testBit j = true → j < k) ∧ (∀ j, j < n → E j = true → (W.getD j 0).testBit i = true → k ≤ j)

structure Canon (P : Program) (ops : Array Oper) (W : Array Nat) (t0 : Array Value) (v : Nat → Value) (mem : Nat → Mem) (E : Nat → Bool) : Prop where
  okw : okW ops W = true
  oks : okSlots ops W = true
  chain : ∀ i j, i < j → j < ops.size → E i = true → E j = true → (W.getD j 0).testBit i = true
  step : ∀ i o, ops[i]? = some o → (awanted ops (Tof ops v t0 (fun _ => true) i) o = true → okOps P o.op = true) ∧
    ((awanted ops (Tof ops v t0 (fun _ => true) i) o = false ∧ v i = Go.undef ∧ E i = false ∧ mem (i + 1) = mem i) ∨
     (awanted ops (Tof ops v t0 (fun _ => true) i) o = true ∧ E i = true ∧ AStep P o.op (ev (Tof ops v t0 (fun _ => true) i)) (mem i) (v i) (mem (i + 1))) ∨
     (awanted ops (Tof ops v t0 (fun _ => true) i) o = true ∧ E i = false ∧ mem (i + 1) = mem i ∧ (aPure P (ev (Tof ops v t0 (fun _ => true) i)) o.op = some (v i) ∨
        ∀ k, StageOk ops.size E W i k → aRead P (mem k) (ev (Tof ops v t0 (fun _ => true) i)) o.op = some (v i))))

theorem Canon.mem_stg {P : Program} {ops : Array Oper} {W : Array Nat} {t0 : Array Value} {v : Nat → Value} {mem : Nat → Mem} {E : Nat → Bool} (h : Canon P ops W t0 v mem E) : ∀ i, i ≤ ops.size → mem i = mem (stg E (fun _ => true) i)
  | 0, _ => rfl
  | i + 1, hi => by
    simp only [stg, Bool.true_and]
    by_cases he : E i = true
    · rw [if_pos he]
    · rw [if_neg he, ← h.mem_stg i (by omega)]
      have hlt : i < ops.size := by omega
      obtain ⟨_, h1⟩ := h.step i ops[i] (Array.getElem?_eq_getElem hlt)
      rcases h1 with ⟨_, _, _, h2⟩ | ⟨_, h2, _⟩ | ⟨_, _, h2, _⟩
      · exact h2
      · exact absurd h2 he
      · exact h2

def Dof (listed : Array Bool) (i : Nat) : Bool := listed.getD i false

theorem ev_slots {t t' : Array Value} {x : Operand} (h : ∀ s, x = .tmp s → t[s]? = t'[s]?) : ev t x = ev t' x := by
  cases x with
  | tmp s => simp only [ev]; rw [Array.getD_eq_getD_getElem?, Array.getD_eq_getD_getElem?, h s rfl]
  | _ => rfl

theorem mem_tmps {x : Operand} {s : Tmp} {op : Op} (h : x ∈ op.operands) (e : x = .tmp s) : s ∈ tmpsOf op.operands.toList := by
  subst e
  unfold tmpsOf
  rw [List.mem_filterMap]
  exact ⟨.tmp s, by simpa using h, rfl⟩

theorem Canon.rows {P : Program} {ops : Array Oper} {W : Array Nat} {t0 : Array Value} {v : Nat → Value} {mem : Nat → Mem} {E : Nat → Bool} (h : Canon P ops W t0 v mem E) :
    ∀ (fuel q : Nat) (listed : Array Bool), listed.size = ops.size → (∀ j, Dof listed j = true → ∀ k, (W.getD j 0).testBit k = true → Dof listed k = true) → (List.range ops.size).countP (fun i => !Dof listed i) ≤ fuel →
      ARow P ops (Region.linearise.go .any ops fuel q listed []) (Tof ops v t0 (Dof listed) ops.size) (mem (stg E (Dof listed) ops.size)) (Tof ops v t0 (fun _ => true) ops.size) (mem ops.size) := by
  -- when all have been carried out
  have final : ∀ (listed : Array Bool), (∀ j, j < ops.size → Dof listed j = true) →
      ARow P ops [] (Tof ops v t0 (Dof listed) ops.size) (mem (stg E (Dof listed) ops.size)) (Tof ops v t0 (fun _ => true) ops.size) (mem ops.size) := by
    intro listed hall
    have e1 : Tof ops v t0 (Dof listed) ops.size = Tof ops v t0 (fun _ => true) ops.size := by
      have : ∀ n, n ≤ ops.size → Tof ops v t0 (Dof listed) n = Tof ops v t0 (fun _ => true) n := by
        intro n
        induction n with
        | zero => intro _; rfl
        | succ n ih => intro hn; simp only [Tof, if_true]; rw [ih (by omega), hall n (by omega)]; rfl
      exact this _ (Nat.le_refl _)
    have e2 : stg E (Dof listed) ops.size = stg E (fun _ => true) ops.size := stg_congr _ _ _ _ (fun j hj _ => hall j hj)
    rw [e1, e2, ← h.mem_stg ops.size (Nat.le_refl _)]
    exact .nil _ _
  intro fuel
  induction fuel with
  | zero =>
    intro q listed hsz hdown hcount
    refine final listed (fun j hj => ?_)
    have : (List.range ops.size).countP (fun i => !Dof listed i) = 0 := by omega
    rw [List.countP_eq_zero] at this
    simpa using this j (by simpa using hj)
  | succ fuel ih =>
    intro q listed hsz hdown hcount
    simp only [Region.linearise.go]
    change ARow P ops (match (Region.ready .any ops listed)[q % (Region.ready .any ops listed).length]? with
      | some i => Region.linearise.go .any ops fuel (q / (Region.ready .any ops listed).length) (listed.setIfInBounds i true) [i]
      | none => [].reverse) _ _ _ _
    cases hi : (Region.ready .any ops listed)[q % (Region.ready .any ops listed).length]? with
    | none =>
      have hnil : Region.ready .any ops listed = [] := by
        cases hr : Region.ready .any ops listed with
        | nil => rfl
        | cons x xs =>
          rw [hr] at hi
          have hlt : q % (x :: xs).length < (x :: xs).length := Nat.mod_lt _ (by simp)
          rw [List.getElem?_eq_getElem hlt] at hi; cases hi
      refine final listed (fun j => ?_)
      induction j using Nat.strongRecOn with
      | _ j ihj =>
        intro hj
        cases hD : Dof listed j with
        | true => rfl
        | false =>
          exfalso
          have ho : ops[j]? = some ops[j] := Array.getElem?_eq_getElem hj
          have hmem : j ∈ Region.ready .any ops listed := by
            unfold Region.ready
            rw [List.mem_filter]
            refine ⟨by simpa using hj, ?_⟩
            have hl : listed.getD j true = false := by
              have : j < listed.size := by omega
              unfold Dof at hD
              rw [Array.getD_eq_getD_getElem?, Array.getElem?_eq_getElem this] at hD ⊢
              simpa using hD
            rw [hl, ho]
            simp only [Bool.not_false, Bool.true_and, Option.map_some, Option.getD_some]
            rw [Array.all_eq_true]
            intro x hx
            cases hb : Region.binds .any (ops[j].after[x]) with
            | false => rfl
            | true =>
              have := (waits_spec h.okw ho).2 _ (Array.getElem_mem hx) hb
              have := ihj _ this (by omega)
              unfold Dof at this
              rw [this]; rfl
          rw [hnil] at hmem; cases hmem
    | some i =>
      simp only []
      rw [linearise_go_acc, List.reverse_singleton, List.singleton_append]
      have hmem := List.mem_of_getElem? hi
      unfold Region.ready at hmem
      rw [List.mem_filter] at hmem
      obtain ⟨hir, hic⟩ := hmem
      have hil : i < ops.size := by simpa using hir
      have ho : ops[i]? = some ops[i] := Array.getElem?_eq_getElem hil
      rw [Bool.and_eq_true, ho] at hic
      obtain ⟨hunl, hafter⟩ := hic
      simp only [Option.map_some, Option.getD_some] at hafter
      have hDi : Dof listed i = false := by
        have : i < listed.size := by omega
        unfold Dof
        rw [Array.getD_eq_getD_getElem?, Array.getElem?_eq_getElem this] at hunl ⊢
        simpa using hunl
      -- what i waits for has been carried out
      have hW : ∀ k, (W.getD i 0).testBit k = true → Dof listed k = true := by
        intro k hk
        obtain ⟨e, he, hb, hke⟩ := (waits_spec h.okw ho).1 k hk
        rw [Array.all_eq_true] at hafter
        obtain ⟨x, hx, rfl⟩ := Array.mem_iff_getElem.1 he
        have hon : Dof listed (ops[i].after[x]).on = true := by
          have := hafter x hx
          rw [hb] at this
          simpa [Dof] using this
        rcases hke with rfl | hke
        · exact hon
        · exact hdown _ hon k hke
      have hnotW : ∀ j, Dof listed j = true → (W.getD j 0).testBit i = false := by
        intro j hj
        cases hb : (W.getD j 0).testBit i with
        | false => rfl
        | true => rw [hdown j hj i hb] at hDi; cases hDi
      -- the slots that i looks at hold what they hold in the text's order
      have hslot : ∀ s, s ∈ slotsOf ops ops[i] → (Tof ops v t0 (Dof listed) ops.size)[s]? = (Tof ops v t0 (fun _ => true) i)[s]? := by
        intro s hs
        rw [Tof_above ops v t0 (Dof listed) s i ops.size (by omega)]
        · refine Tof_below ops v t0 (Dof listed) s i (fun j hj hd => ?_)
          rcases slots_spec h.oks ho hd (by omega) (.inl hs) with ⟨_, hb⟩ | ⟨hlt, _⟩
          · exact hW j hb
          · omega
        · intro j h1 h2 h3 hd
          by_cases hij : i = j
          · subst hij; rw [hDi] at h3; cases h3
          · rcases slots_spec h.oks ho hd hij (.inl hs) with ⟨hlt, _⟩ | ⟨_, hb⟩
            · omega
            · rw [hnotW j h3] at hb; cases hb
      have hev : ∀ x ∈ ops[i].op.operands, ev (Tof ops v t0 (fun _ => true) i) x = ev (Tof ops v t0 (Dof listed) ops.size) x := by
        intro x hx
        refine ev_slots (fun s hs => ?_)
        exact (hslot s (by unfold slotsOf; rw [List.mem_append]; exact .inl (mem_tmps hx hs))).symm
      have hwanted : awanted ops (Tof ops v t0 (Dof listed) ops.size) ops[i] = awanted ops (Tof ops v t0 (fun _ => true) i) ops[i] := by
        unfold awanted Region.wanted
        cases hg : ops[i].guard with
        | none => rfl
        | some g =>
          obtain ⟨g, want⟩ := g
          simp only
          congr 1
          unfold yielded
          cases hd : (ops[g]?).bind (·.dst) with
          | none => rfl
          | some d =>
            simp only [Option.bind_some]
            rw [hslot d (by unfold slotsOf; rw [hg]; simp only [hd, Option.toList_some]; simp)]
      -- carried out, too
      have hset : ∀ k, Dof (listed.setIfInBounds i true) k = if k = i then true else Dof listed k := by
        intro k
        unfold Dof
        rw [Array.getD_eq_getD_getElem?, Array.getElem?_setIfInBounds]
        by_cases hk : i = k
        · subst hk; rw [if_pos rfl, if_pos (by omega), if_pos rfl]; rfl
        · rw [if_neg hk, if_neg (fun e => hk e.symm), Array.getD_eq_getD_getElem?]
      have hfun : Dof (listed.setIfInBounds i true) = fun k => if k = i then true else Dof listed k := funext hset
      have hT : Tof ops v t0 (Dof (listed.setIfInBounds i true)) ops.size = put (Tof ops v t0 (Dof listed) ops.size) (dstOf ops i) (v i) := by
        rw [hfun]
        refine Tof_add ops v t0 (Dof listed) i hDi ops.size hil (fun j h1 h2 h3 s hs hd => ?_)
        have hdi : ops[i].dst = some s := by
          unfold dstOf at hs; rw [ho] at hs; exact hs
        rcases slots_spec h.oks ho hd (by omega) (.inr hdi) with ⟨hlt, _⟩ | ⟨_, hb⟩
        · omega
        · rw [hnotW j h3] at hb; cases hb
      have hdst : dstOf ops i = ops[i].dst := by unfold dstOf; rw [ho]; rfl
      rw [hdst] at hT
      have hdown' : ∀ j, Dof (listed.setIfInBounds i true) j = true → ∀ k, (W.getD j 0).testBit k = true → Dof (listed.setIfInBounds i true) k = true := by
        intro j hj k hk
        rw [hset] at hj ⊢
        split
        · rfl
        · by_cases hji : j = i
          · subst hji; exact hW k hk
          · rw [if_neg hji] at hj; exact hdown j hj k hk
      have hcount' : (List.range ops.size).countP (fun k => !Dof (listed.setIfInBounds i true) k) ≤ fuel := by
        have key : ∀ (l : List Nat), i ∈ l → l.countP (fun k => !Dof (listed.setIfInBounds i true) k) + 1 ≤ l.countP (fun k => !Dof listed k) := by
          intro l
          have mono : ∀ (l : List Nat), l.countP (fun k => !Dof (listed.setIfInBounds i true) k) ≤ l.countP (fun k => !Dof listed k) := by
            intro l
            refine List.countP_mono_left (fun k _ hk => ?_)
            rw [hset] at hk
            split at hk
            · cases hk
            · exact hk
          induction l with
          | nil => intro h; cases h
          | cons x l ih =>
            intro hx
            rw [List.countP_cons, List.countP_cons]
            by_cases hxi : x = i
            · subst hxi
              have h1 : (!Dof (listed.setIfInBounds x true) x) = false := by rw [hset]; simp
              have h2 : (!Dof listed x) = true := by rw [hDi]; rfl
              rw [h1, h2]
              have := mono l
              simp only [Bool.false_eq_true, if_false, if_true]; omega
            · have hl : i ∈ l := by
                rcases List.mem_cons.1 hx with e | e
                · exact absurd e.symm hxi
                · exact e
              have h1 : (!Dof (listed.setIfInBounds i true) x) = (!Dof listed x) := by rw [hset, if_neg hxi]
              rw [h1]
              have := ih hl
              omega
        have := key (List.range ops.size) (by simpa using hil)
        omega
      have hnext := ih (q / (Region.ready .any ops listed).length) (listed.setIfInBounds i true) (by simpa using hsz) hdown' hcount'
      rw [hT] at hnext
      obtain ⟨hok, hstep⟩ := h.step i ops[i] ho
      rcases hstep with ⟨h1, h2, h3, h4⟩ | ⟨h1, h2, h3⟩ | ⟨h1, h2, h3, h4⟩
      · -- passed over
        have hs : stg E (Dof (listed.setIfInBounds i true)) ops.size = stg E (Dof listed) ops.size := by
          refine stg_congr _ _ _ _ (fun j _ hj => ?_)
          rw [hset, if_neg]; rintro rfl; rw [h3] at hj; cases hj
        rw [hs, h2] at hnext
        exact .off ho (by rw [hwanted]; exact h1) hnext
      · -- an effect: the next one
        have hbelow : ∀ j, j < i → E j = true → Dof listed j = true := fun j hj he => hW j (h.chain j i hj hil he h2)
        have habove : ∀ j, i < j → j < ops.size → E j = true → Dof listed j = false := by
          intro j hj hjn he
          cases hd : Dof listed j with
          | false => rfl
          | true =>
            have := h.chain i j hj hjn h2 he
            rw [hnotW j hd] at this; cases this
        have hs1 : stg E (Dof listed) ops.size = stg E (fun _ => true) i := by
          rw [stg_above E (Dof listed) i ops.size (by omega) (fun j h5 h6 h7 => by
            by_cases hij : i = j
            · subst hij; exact hDi
            · exact habove j (by omega) h6 h7)]
          exact stg_congr _ _ _ _ (fun j hj he => hbelow j hj he)
        have hs2 : stg E (Dof (listed.setIfInBounds i true)) ops.size = i + 1 := by
          rw [stg_above E _ (i + 1) ops.size (by omega) (fun j h5 h6 h7 => by
            rw [hset, if_neg (by omega)]; exact habove j (by omega) h6 h7)]
          simp only [stg]
          rw [hset, if_pos rfl, h2]; rfl
        rw [hs2] at hnext
        rw [hs1, ← h.mem_stg i (by omega)]
        exact .op ho (by rw [hwanted]; exact h1) (AStep.aop (hok h1) (AStep.congr hev h3)) hnext
      · have hs : stg E (Dof (listed.setIfInBounds i true)) ops.size = stg E (Dof listed) ops.size := by
          refine stg_congr _ _ _ _ (fun j _ hj => ?_)
          rw [hset, if_neg]; rintro rfl; rw [h2] at hj; cases hj
        rw [hs] at hnext
        refine .op ho (by rw [hwanted]; exact h1) (AStep.aop (hok h1) (AStep.congr hev ?_)) hnext
        rcases h4 with h4 | h4
        · exact .pure h4 rfl
        · refine .read (h4 _ ⟨stg_le _ _ _, ?_, fun j hj he hb => stg_gt _ _ _ j hj (hW j hb) he, fun j hj he hb => ?_⟩) rfl
          · rcases stg_at E (Dof listed) ops.size with h5 | h5
            · exact .inl h5
            · exact .inr h5.2
          · -- no effect that waits for i has come
            rcases Nat.lt_or_ge j (stg E (Dof listed) ops.size) with hlt | hge
            · exfalso
              rcases stg_at E (Dof listed) ops.size with h5 | ⟨h5, h6⟩
              · omega
              · have hle := stg_le E (Dof listed) ops.size
                have hDj : Dof listed j = true := by
                  by_cases hj1 : j = stg E (Dof listed) ops.size - 1
                  · rw [hj1]; exact h5
                  · exact hdown _ h5 j (h.chain j _ (by omega) (by omega) he h6)
                rw [hnotW j hDj] at hb; cases hb
            · exact hge

theorem ACd.canon {P : Program} {id : Nat} {ops : Array Oper} {W : Array Nat} {t0 : Array Value} {v : Nat → Value} {mem : Nat → Mem} {E : Nat → Bool} (hm : P.follows .mixedOrders = true) (h : Canon P ops W t0 v mem E) :
    ACd P (.region id ops true) t0 (mem 0) .normal (Tof ops v t0 (fun _ => true) ops.size) (mem ops.size) := by
  refine ACd.region_draw (fun q => ?_)
  simp only [Region.schedule, hm, Bool.true_or, if_true]
  have hD : Dof (Array.replicate ops.size false) = fun _ => false := by
    funext k; unfold Dof; rw [Array.getD_eq_getD_getElem?, Array.getElem?_replicate]; split <;> rfl
  have := h.rows ops.size q (Array.replicate ops.size false) (by simp) (by intro j hj; rw [hD] at hj; cases hj) (by
    rw [List.countP_eq_length_filter]
    exact Nat.le_trans (List.length_filter_le _ _) (by simp))
  have e1 : Tof ops v t0 (Dof (Array.replicate ops.size false)) ops.size = t0 := by
    rw [hD]
    have : ∀ n, Tof ops v t0 (fun _ => false) n = t0 := by
      intro n
      induction n with
      | zero => rfl
      | succ n ih => simp only [Tof]; exact ih
    exact this _
  have e2 : stg E (Dof (Array.replicate ops.size false)) ops.size = 0 := by
    rw [hD]
    have : ∀ n, stg E (fun _ => false) n = 0 := by
      intro n
      induction n with
      | zero => rfl
      | succ n ih => simp only [stg, Bool.false_and]; exact ih
    exact this _
  rw [e1, e2] at this
  exact this

end Go.AM
