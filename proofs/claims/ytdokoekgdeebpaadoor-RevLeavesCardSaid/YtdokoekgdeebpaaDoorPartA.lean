/- Part 1 of the proof: The machine made abstract. -/
import Derived.Calls
import Derived.Laws.Sem
set_option linter.unusedVariables false
set_option linter.unusedSimpArgs false
set_option maxRecDepth 100000
/-! A0 -/
namespace Go.AM
/-- What stays of a frame while it runs. -/
structure FB where
  fn : FuncId
  kind : CallKind
  roundOf : Option Nat
def FB.at (b : FB) (ts : Array Value) (ds : List Deferred) (todo : List Item) : Frame :=
  { fn := b.fn, tmps := ts, todo := todo, defers := ds, mode := .run, kind := b.kind, roundOf := b.roundOf }
def ev (ts : Array Value) : Operand → Value
  | .tmp t => ts.getD t undef
  | .const v => v
  | .global g => .pointer (some ⟨g, 0, none⟩)
  | .func f => .func (.func f) #[] #[]
theorem FB.eval_at (b : FB) (ts : Array Value) (ds : List Deferred) (todo : List Item) : (b.at ts ds todo).eval = ev ts := by
 funext x; cases x <;> rfl
section steps
variable {P : Program} {b : FB} {ts : Array Value} {ds : List Deferred} {k : List Item} {cs : List Frame} {w : World}
theorem st_skip : step P (lone (b.at ts ds (.code .skip :: k)) cs w) = .next (lone (b.at ts ds k) cs w) :=
 step_lone_go (by simp [stepG, stepG.exec, FB.at])
theorem st_label {l : Nat} : step P (lone (b.at ts ds (.code (.label l) :: k)) cs w) = .next (lone (b.at ts ds k) cs w) :=
 step_lone_go (by simp [stepG, stepG.exec, FB.at])
theorem st_inBlock {id : Nat} : step P (lone (b.at ts ds (.inBlock id :: k)) cs w) = .next (lone (b.at ts ds k) cs w) :=
 step_lone_go (by simp [stepG, stepG.exec, FB.at])
theorem st_inScope {c : Code} : step P (lone (b.at ts ds (.inScope c :: k)) cs w) = .next (lone (b.at ts ds k) cs w) :=
 step_lone_go (by simp [stepG, stepG.exec, FB.at])
theorem st_seq {x y : Code} :
  step P (lone (b.at ts ds (.code (.seq x y) :: k)) cs w) = .next (lone (b.at ts ds (.code x :: .code y :: k)) cs w) :=
 step_lone_go (by simp [stepG, stepG.exec, FB.at])
theorem st_cond {c : Operand} {x y : Code} {t : Bool} (h : ev ts c = .bool t) :
  step P (lone (b.at ts ds (.code (.cond c x y) :: k)) cs w) = .next (lone (b.at ts ds (.code (if t then x else y) :: k)) cs w) :=
 step_lone_go (by
  have := congrFun (FB.eval_at b ts ds (.code (.cond c x y) :: k)) c
  simp only [FB.at] at this
  simp [stepG, stepG.exec, FB.at, this, h])
theorem st_block {id : Nat} {c : Code} :
  step P (lone (b.at ts ds (.code (.block id c) :: k)) cs w) = .next (lone (b.at ts ds (.code c :: .inBlock id :: k)) cs w) :=
 step_lone_go (by simp [stepG, stepG.exec, FB.at])
theorem st_loop {c : Code} :
  step P (lone (b.at ts ds (.code (.loop c) :: k)) cs w) = .next (lone (b.at ts ds (.code c :: .inLoop c :: k)) cs w) :=
 step_lone_go (by simp [stepG, stepG.exec, FB.at])
theorem st_inLoop {c : Code} :
  step P (lone (b.at ts ds (.inLoop c :: k)) cs w) = .next (lone (b.at ts ds (.code c :: .inLoop c :: k)) cs w) :=
 step_lone_go (by simp [stepG, stepG.exec, FB.at])
theorem st_scope {c : Code} :
  step P (lone (b.at ts ds (.code (.scope c) :: k)) cs w) = .next (lone (b.at ts ds (.code c :: .inScope c :: k)) cs w) :=
 step_lone_go (by simp [stepG, stepG.exec, FB.at])
theorem st_exit {id : Nat} {k' : List Item} (h : exitTo id k = some k') :
  step P (lone (b.at ts ds (.code (.exit id) :: k)) cs w) = .next (lone (b.at ts ds k') cs w) :=
 step_lone_go (by simp [stepG, stepG.exec, FB.at, h])
theorem st_region {id : Nat} {ops : Array Oper} :
  step P (lone (b.at ts ds (.code (.region id ops false) :: k)) cs w) = .next (lone (b.at ts ds (.inRegion ops (List.range ops.size) :: k)) cs w) :=
 step_lone_go (by simp [stepG, stepG.exec, FB.at])
theorem st_region_draw {id : Nat} {ops : Array Oper} :
  step P (lone (b.at ts ds (.code (.region id ops true) :: k)) cs w) =
   .next (lone (b.at ts ds (.inRegion ops (Region.schedule (P.follows .mixedOrders) ops (w.tape w.drawn (.order b.fn id))) :: k)) cs { w with drawn := w.drawn + 1 }) :=
 step_lone_go (by simp [stepG, stepG.exec, FB.at, choose, Sem.run, Question.forced, Question.cut])
theorem st_region_end {ops : Array Oper} : step P (lone (b.at ts ds (.inRegion ops [] :: k)) cs w) = .next (lone (b.at ts ds k) cs w) :=
 step_lone_go (by simp [stepG, stepG.exec, FB.at])
def put (ts : Array Value) (d : Option Tmp) (v : Value) : Array Value :=
  match d with
  | some d => ts.setIfInBounds d v
  | none => ts
theorem FB.finish_at {ops : Array Oper} {i : Nat} {rest : List Nat} (v : Value) :
  (b.at ts ds (.inRegion ops (i :: rest) :: k)).finish v = b.at (put ts ((ops[i]?).bind (·.dst)) v) ds (.inRegion ops rest :: k) := by
 cases h : (ops[i]?).bind (·.dst) <;> simp [Frame.finish, FB.at, put, h]
theorem st_op_skip {ops : Array Oper} {i : Nat} {rest : List Nat} (h : ((ops[i]?).map (Region.wanted · (yielded ops ts))).getD false = false) :
  step P (lone (b.at ts ds (.inRegion ops (i :: rest) :: k)) cs w) =
   .next (lone (b.at (put ts ((ops[i]?).bind (·.dst)) undef) ds (.inRegion ops rest :: k)) cs w) := by
 rw [← FB.finish_at]
 exact step_lone_go (by
  have h' := h
  simp only [FB.at] at *
  simp [stepG, stepG.exec, h'])
def noDefer : Op → Bool
  | .defer _ => false
  | _ => true
theorem stG_op {ops : Array Oper} {i : Nat} {rest : List Nat} {o : Oper} (ho : ops[i]? = some o) (hw : Region.wanted o (yielded ops ts) = true) (hd : noDefer o.op = true) :
  stepG P true { frame := b.at ts ds (.inRegion ops (i :: rest) :: k), callers := cs, status := .running, dying := none } w =
   stepG.apply P true (b.at ts ds (.inRegion ops (i :: rest) :: k)) cs none (execOp (ev ts) o) w := by
 have he := FB.eval_at b ts ds (.inRegion ops (i :: rest) :: k)
 simp only [FB.at] at he
 cases hr : b.roundOf with
 | none => simp [hr] at he; simp [stepG, stepG.exec, stepG.oper, Frame.oper?, FB.at, ho, hw, he, hr]
 | some l =>
  simp [hr] at he
  cases hop : o.op <;> simp [hop, noDefer] at hd <;> simp [stepG, stepG.exec, stepG.oper, Frame.oper?, FB.at, ho, hw, he, hr, hop]
/-- An operation that comes to a value. -/
theorem st_op_value {ops : Array Oper} {i : Nat} {rest : List Nat} {o : Oper} {v : Value} {w' : World} (ho : ops[i]? = some o) (hw : Region.wanted o (yielded ops ts) = true) (hd : noDefer o.op = true)
  (hr : (execOp (ev ts) o).run P w = .ok (.value v) w') :
  step P (lone (b.at ts ds (.inRegion ops (i :: rest) :: k)) cs w) = .next (lone (b.at (put ts o.dst v) ds (.inRegion ops rest :: k)) cs w') := by
 refine step_lone_go ?_
 rw [stG_op ho hw hd]
 have : put ts o.dst v = put ts ((ops[i]?).bind (·.dst)) v := by rw [ho]; rfl
 rw [this, ← FB.finish_at]
 simp [stepG.apply, hr]
theorem st_op_none {ops : Array Oper} {i : Nat} {rest : List Nat} {o : Oper} {w' : World} (ho : ops[i]? = some o) (hw : Region.wanted o (yielded ops ts) = true) (hd : noDefer o.op = true)
  (hr : (execOp (ev ts) o).run P w = .ok .skip w') :
  step P (lone (b.at ts ds (.inRegion ops (i :: rest) :: k)) cs w) = .next (lone (b.at (put ts o.dst undef) ds (.inRegion ops rest :: k)) cs w') := by
 refine step_lone_go ?_
 rw [stG_op ho hw hd]
 have : put ts o.dst undef = put ts ((ops[i]?).bind (·.dst)) undef := by rw [ho]; rfl
 rw [this, ← FB.finish_at]
 simp [stepG.apply, hr]
theorem st_op_enter {ops : Array Oper} {i : Nat} {rest : List Nat} {o : Oper} {f : FuncId} {args : Array Value} {w' : World} (ho : ops[i]? = some o) (hw : Region.wanted o (yielded ops ts) = true) (hd : noDefer o.op = true)
  (hr : (execOp (ev ts) o).run P w = .ok (.enter f args) w') :
  step P (lone (b.at ts ds (.inRegion ops (i :: rest) :: k)) cs w) = .next (lone (Frame.enter P f args .normal) (b.at ts ds (.inRegion ops (i :: rest) :: k) :: cs) w') := by
 refine step_lone_go ?_
 rw [stG_op ho hw hd]
 simp [stepG.apply, hr, FB.at]
theorem st_op_round {ops : Array Oper} {i : Nat} {rest : List Nat} {o : Oper} {l : Nat} {f : FuncId} {tmps : Array Value} {as bd : Code} {w' : World} (ho : ops[i]? = some o) (hw : Region.wanted o (yielded ops ts) = true) (hd : noDefer o.op = true)
  (hr : (execOp (ev ts) o).run P w = .ok (.round l f tmps as bd) w') :
  step P (lone (b.at ts ds (.inRegion ops (i :: rest) :: k)) cs w) = .next (lone (Frame.round l f tmps as bd .normal) (b.at ts ds (.inRegion ops (i :: rest) :: k) :: cs) w') := by
 refine step_lone_go ?_
 rw [stG_op ho hw hd]
 simp [stepG.apply, hr, FB.at]
end steps
end Go.AM

/-! A1 -/
namespace Go.AM
inductive AExit where
  | normal
  | exit (id : Nat)
  | ret
  deriving DecidableEq, Repr
def AExit.jump : AExit → Option Code
  | .normal => none
  | .exit id => some (.exit id)
  | .ret => some .ret
def Arr (P : Program) (m0 : Machine) (b : FB) (k : List Item) (cs : List Frame) : AExit → Array Value → List Deferred → World → Prop
  | .normal, ts, ds, w => Steps P m0 (lone (b.at ts ds k) cs w)
  | .exit id, ts, ds, w => ∃ kk, exitTo id kk = exitTo id k ∧ Steps P m0 (lone (b.at ts ds (.code (.exit id) :: kk)) cs w)
  | .ret, ts, ds, w => ∃ kk, Steps P m0 (lone (b.at ts ds (.code .ret :: kk)) cs w)
theorem Arr.of_steps {P : Program} {m0 m1 : Machine} {b : FB} {k : List Item} {cs : List Frame} {e : AExit} {ts : Array Value} {ds : List Deferred} {w : World}
  (h : Steps P m0 m1) (h' : Arr P m1 b k cs e ts ds w) : Arr P m0 b k cs e ts ds w := by
 cases e with
 | normal => exact h.trans h'
 | exit id => obtain ⟨kk, e, s⟩ := h'; exact ⟨kk, e, h.trans s⟩
 | ret => obtain ⟨kk, s⟩ := h'; exact ⟨kk, h.trans s⟩
def CR (P : Program) (b : FB) (c : Code) (Q : AExit → Array Value → List Deferred → World → Prop) (ts : Array Value) (ds : List Deferred) (w : World) : Prop :=
  ∀ k cs, ∃ e ts' ds' w', Q e ts' ds' w' ∧ Arr P (lone (b.at ts ds (.code c :: k)) cs w) b k cs e ts' ds' w'
theorem CR.mono {P : Program} {b : FB} {c : Code} {Q Q' : AExit → Array Value → List Deferred → World → Prop} {ts : Array Value} {ds : List Deferred} {w : World}
  (h : CR P b c Q ts ds w) (hq : ∀ e ts ds w, Q e ts ds w → Q' e ts ds w) : CR P b c Q' ts ds w := by
 intro k cs
 obtain ⟨e, ts', ds', w', q, a⟩ := h k cs
 exact ⟨e, ts', ds', w', hq _ _ _ _ q, a⟩
section
variable {P : Program} {b : FB} {Q : AExit → Array Value → List Deferred → World → Prop} {ts : Array Value} {ds : List Deferred} {w : World}
theorem CR.skip (h : Q .normal ts ds w) : CR P b .skip Q ts ds w :=
 fun k cs => ⟨.normal, ts, ds, w, h, .one st_skip⟩
theorem CR.label {l : Nat} (h : Q .normal ts ds w) : CR P b (.label l) Q ts ds w :=
 fun k cs => ⟨.normal, ts, ds, w, h, .one st_label⟩
theorem CR.exit {id : Nat} (h : Q (.exit id) ts ds w) : CR P b (.exit id) Q ts ds w :=
 fun k cs => ⟨.exit id, ts, ds, w, h, k, rfl, .refl _ _⟩
theorem CR.ret (h : Q .ret ts ds w) : CR P b .ret Q ts ds w :=
 fun k cs => ⟨.ret, ts, ds, w, h, k, .refl _ _⟩
theorem CR.cond {c : Operand} {x y : Code} {t : Bool} (hc : ev ts c = .bool t) (h : CR P b (if t then x else y) Q ts ds w) : CR P b (.cond c x y) Q ts ds w := by
 intro k cs
 obtain ⟨e, ts', ds', w', q, a⟩ := h k cs
 exact ⟨e, ts', ds', w', q, .of_steps (.one (st_cond hc)) a⟩
/-- An item that is passed by: the exits behind it are those ahead of it. -/
theorem CR.seq {x y : Code} (h : CR P b x (fun e ts ds w => match e with | .normal => CR P b y Q ts ds w | e => Q e ts ds w) ts ds w) : CR P b (.seq x y) Q ts ds w := by
 intro k cs
 obtain ⟨e, ts', ds', w', q, a⟩ := h (.code y :: k) cs
 cases e with
 | normal =>
  obtain ⟨e2, ts2, ds2, w2, q2, a2⟩ := q k cs
  exact ⟨e2, ts2, ds2, w2, q2, .of_steps (.one st_seq) (.of_steps a a2)⟩
 | exit id =>
  obtain ⟨kk, e1, s⟩ := a
  refine ⟨.exit id, ts', ds', w', q, kk, ?_, (Steps.one st_seq).trans s⟩
  rw [e1]; rfl
 | ret => obtain ⟨kk, s⟩ := a; exact ⟨.ret, ts', ds', w', q, kk, (Steps.one st_seq).trans s⟩
theorem CR.block {id : Nat} {c : Code} (h : CR P b c (fun e ts ds w => match e with | .normal => Q .normal ts ds w | .exit j => if j = id then Q .normal ts ds w else Q (.exit j) ts ds w | .ret => Q .ret ts ds w) ts ds w) : CR P b (.block id c) Q ts ds w := by
 intro k cs
 obtain ⟨e, ts', ds', w', q, a⟩ := h (.inBlock id :: k) cs
 cases e with
 | normal => exact ⟨.normal, ts', ds', w', q, (Steps.one st_block).trans (Steps.trans a (.one st_inBlock))⟩
 | exit j =>
  obtain ⟨kk, e1, s⟩ := a
  by_cases hj : j = id
  ·subst hj
   simp only [if_true] at q
   refine ⟨.normal, ts', ds', w', q, (Steps.one st_block).trans (s.trans (.one (st_exit ?_)))⟩
   rw [e1]; simp [exitTo]
  ·simp only [hj, if_false] at q
   refine ⟨.exit j, ts', ds', w', q, kk, ?_, (Steps.one st_block).trans s⟩
   rw [e1]
   have : ¬ id = j := fun h => hj h.symm
   simp [exitTo, this]
 | ret => obtain ⟨kk, s⟩ := a; exact ⟨.ret, ts', ds', w', q, kk, (Steps.one st_block).trans s⟩
theorem CR.scope {c : Code} (h : CR P b c Q ts ds w) : CR P b (.scope c) Q ts ds w := by
 intro k cs
 obtain ⟨e, ts', ds', w', q, a⟩ := h (.inScope c :: k) cs
 cases e with
 | normal => exact ⟨.normal, ts', ds', w', q, (Steps.one st_scope).trans (Steps.trans a (.one st_inScope))⟩
 | exit j =>
  obtain ⟨kk, e1, s⟩ := a
  refine ⟨.exit j, ts', ds', w', q, kk, ?_, (Steps.one st_scope).trans s⟩
  rw [e1]; rfl
 | ret => obtain ⟨kk, s⟩ := a; exact ⟨.ret, ts', ds', w', q, kk, (Steps.one st_scope).trans s⟩
theorem steps_shift {m0 m0' m' : Machine} (he : step P m0 = step P m0') (hne : m0 ≠ m') (h : Steps P m0 m') : Steps P m0' m' := by
 obtain ⟨n, hn⟩ := h
 cases n with
 | zero => simp [runN] at hn; exact absurd hn hne
 | succ n =>
  refine ⟨n + 1, ?_⟩
  simp only [runN] at hn ⊢
  rw [← he]; exact hn
theorem at_todo_ne {b : FB} {ts ts' : Array Value} {ds ds' : List Deferred} {k k' : List Item} {cs : List Frame} {w w' : World} (h : k ≠ k') :
  lone (b.at ts ds k) cs w ≠ lone (b.at ts' ds' k') cs w' := by
 intro e
 apply h
 have h1 := congrArg (fun m : Machine => (m.gs[0]?).map (·.frame.todo)) e
 simpa [lone, FB.at] using h1
theorem CR.loop {c : Code} (h : CR P b c (fun e ts ds w => match e with | .normal => CR P b (.loop c) Q ts ds w | e => Q e ts ds w) ts ds w) : CR P b (.loop c) Q ts ds w := by
 intro k cs
 obtain ⟨e, ts', ds', w', q, a⟩ := h (.inLoop c :: k) cs
 cases e with
 | normal =>
  obtain ⟨e2, ts2, ds2, w2, q2, a2⟩ := q k cs
  refine ⟨e2, ts2, ds2, w2, q2, .of_steps ((Steps.one st_loop).trans a) ?_⟩
  have he : step P (lone (b.at ts' ds' (.code (.loop c) :: k)) cs w') = step P (lone (b.at ts' ds' (.inLoop c :: k)) cs w') := by rw [st_loop, st_inLoop]
  cases e2 with
  | normal =>
   refine steps_shift he (at_todo_ne ?_) a2
   intro hk
   have := congrArg List.length hk
   simp at this
  | exit id =>
   obtain ⟨kk, e1, s⟩ := a2
   exact ⟨kk, e1, steps_shift he (at_todo_ne (by intro hk; injection hk with h1 _; injection h1 with h1; exact Code.noConfusion h1)) s⟩
  | ret =>
   obtain ⟨kk, s⟩ := a2
   exact ⟨kk, steps_shift he (at_todo_ne (by intro hk; injection hk with h1 _; injection h1 with h1; exact Code.noConfusion h1)) s⟩
 | exit id =>
  obtain ⟨kk, e1, s⟩ := a
  refine ⟨.exit id, ts', ds', w', q, kk, ?_, (Steps.one st_loop).trans s⟩
  rw [e1]; rfl
 | ret => obtain ⟨kk, s⟩ := a; exact ⟨.ret, ts', ds', w', q, kk, (Steps.one st_loop).trans s⟩
end
/-- What a frame that is entered comes to, for whoever entered it. -/
def Runs (P : Program) (fr : Frame) (w : World) (R : Value → World → Prop) : Prop :=
  ∀ c cs, ∃ v w', R v w' ∧ Steps P (lone fr (c :: cs) w) (lone (c.finish v) cs w')
theorem Runs.mono {P : Program} {fr : Frame} {w : World} {R R' : Value → World → Prop} (h : Runs P fr w R) (hr : ∀ v w, R v w → R' v w) : Runs P fr w R' := by
 intro c cs
 obtain ⟨v, w', r, s⟩ := h c cs
 exact ⟨v, w', hr _ _ r, s⟩
/-- A call's contract in the kit's words serves as well. -/
theorem Runs.of_calls {P : Program} {f : FuncId} {args : Array Value} {w : World} {R : Value → World → Prop}
  (h : Calls P f args w fun e w' => ∃ v, e = .returned v ∧ R v w') : Runs P (Frame.enter P f args .normal) w R := by
 intro c cs
 obtain ⟨e, w', fr, ⟨v, rfl, hR⟩, hc, _, hl⟩ := h (c :: cs)
 exact ⟨v, w', hR, hc.trans (.one (step_leave_returned hl))⟩
/-- What an operation in a region comes to. -/
def OR (P : Program) (b : FB) (ts : Array Value) (ds : List Deferred) (w : World) (o : Oper) (R : Value → World → Prop) : Prop :=
  ∀ ops i rest k cs, ops[i]? = some o → Region.wanted o (yielded ops ts) = true →
    ∃ v w', R v w' ∧ Steps P (lone (b.at ts ds (.inRegion ops (i :: rest) :: k)) cs w) (lone (b.at (put ts o.dst v) ds (.inRegion ops rest :: k)) cs w')
section
variable {P : Program} {b : FB} {ts : Array Value} {ds : List Deferred} {w : World} {o : Oper} {R : Value → World → Prop}
theorem OR.value {v : Value} {w' : World} (hd : noDefer o.op = true) (hr : (execOp (ev ts) o).run P w = .ok (.value v) w') (h : R v w') : OR P b ts ds w o R :=
 fun ops i rest k cs ho hw => ⟨v, w', h, .one (st_op_value ho hw hd hr)⟩
theorem OR.none {w' : World} (hd : noDefer o.op = true) (hr : (execOp (ev ts) o).run P w = .ok .skip w') (h : R undef w') : OR P b ts ds w o R :=
 fun ops i rest k cs ho hw => ⟨undef, w', h, .one (st_op_none ho hw hd hr)⟩
theorem OR.enter {f : FuncId} {args : Array Value} {w' : World} (hd : noDefer o.op = true) (hr : (execOp (ev ts) o).run P w = .ok (.enter f args) w') (h : Runs P (Frame.enter P f args .normal) w' R) : OR P b ts ds w o R := by
 intro ops i rest k cs ho hw
 obtain ⟨v, w2, r, s⟩ := h (b.at ts ds (.inRegion ops (i :: rest) :: k)) cs
 refine ⟨v, w2, r, (Steps.one (st_op_enter ho hw hd hr)).trans ?_⟩
 have : put ts o.dst v = put ts ((ops[i]?).bind (·.dst)) v := by rw [ho]; rfl
 rw [this, ← FB.finish_at]; exact s
theorem OR.round {l : Nat} {f : FuncId} {tmps : Array Value} {as bd : Code} {w' : World} (hd : noDefer o.op = true) (hr : (execOp (ev ts) o).run P w = .ok (.round l f tmps as bd) w') (h : Runs P (Frame.round l f tmps as bd .normal) w' R) : OR P b ts ds w o R := by
 intro ops i rest k cs ho hw
 obtain ⟨v, w2, r, s⟩ := h (b.at ts ds (.inRegion ops (i :: rest) :: k)) cs
 refine ⟨v, w2, r, (Steps.one (st_op_round ho hw hd hr)).trans ?_⟩
 have : put ts o.dst v = put ts ((ops[i]?).bind (·.dst)) v := by rw [ho]; rfl
 rw [this, ← FB.finish_at]; exact s
end
/-- A row of operations, one after the other. -/
def RR (P : Program) (b : FB) (ops : Array Oper) (ds : List Deferred) (Q : Array Value → World → Prop) : List Nat → Array Value → World → Prop
  | [], ts, w => Q ts w
  | i :: rest, ts, w =>
    match ops[i]? with
    | none => RR P b ops ds Q rest ts w
    | some o => if Region.wanted o (yielded ops ts) = true then OR P b ts ds w o (fun v w' => RR P b ops ds Q rest (put ts o.dst v) w')
      else RR P b ops ds Q rest (put ts o.dst undef) w
theorem RR.steps {P : Program} {b : FB} {ops : Array Oper} {ds : List Deferred} {Q : Array Value → World → Prop} :
  ∀ (l : List Nat) (ts : Array Value) (w : World), RR P b ops ds Q l ts w → ∀ k cs, ∃ ts' w', Q ts' w' ∧ Steps P (lone (b.at ts ds (.inRegion ops l :: k)) cs w) (lone (b.at ts' ds k) cs w')
 | [], ts, w, h, k, cs => ⟨ts, w, h, .one st_region_end⟩
 | i :: rest, ts, w, h, k, cs => by
  simp only [RR] at h
  cases ho : ops[i]? with
  | none =>
   rw [ho] at h
   obtain ⟨ts', w', q, s⟩ := RR.steps rest ts w h k cs
   refine ⟨ts', w', q, (Steps.one ?_).trans s⟩
   have := st_op_skip (P := P) (b := b) (ts := ts) (ds := ds) (k := k) (cs := cs) (w := w) (ops := ops) (i := i) (rest := rest) (by simp [ho])
   simpa [ho, put] using this
  | some o =>
   rw [ho] at h
   by_cases hw : Region.wanted o (yielded ops ts) = true
   ·simp only [hw, if_true] at h
    obtain ⟨v, w1, hr, s1⟩ := h ops i rest k cs ho hw
    obtain ⟨ts', w', q, s⟩ := RR.steps rest _ w1 hr k cs
    exact ⟨ts', w', q, s1.trans s⟩
   ·simp only [hw, if_false] at h
    obtain ⟨ts', w', q, s⟩ := RR.steps rest _ w h k cs
    refine ⟨ts', w', q, (Steps.one ?_).trans s⟩
    have := st_op_skip (P := P) (b := b) (ts := ts) (ds := ds) (k := k) (cs := cs) (w := w) (ops := ops) (i := i) (rest := rest) (by simp [ho]; simpa using hw)
    simpa [ho] using this
theorem CR.region {P : Program} {b : FB} {id : Nat} {ops : Array Oper} {Q : AExit → Array Value → List Deferred → World → Prop} {ts : Array Value} {ds : List Deferred} {w : World}
  (h : RR P b ops ds (fun ts w => Q .normal ts ds w) (List.range ops.size) ts w) : CR P b (.region id ops false) Q ts ds w := by
 intro k cs
 obtain ⟨ts', w', q, s⟩ := RR.steps _ ts w h k cs
 exact ⟨.normal, ts', ds, w', q, (Steps.one st_region).trans s⟩
end Go.AM

/-! A2 -/
namespace Go.AM
/-- The marks that loops over functions leave among a frame's deferred calls. -/
def Marks (ds : List Deferred) (w : World) : Prop :=
  ∃ rs : List Nat, ds = rs.map (fun r => { target := .collected r, args := #[] }) ∧ rs.Nodup ∧ ∀ r ∈ rs, w.heap[r]? = some (.deferred (some []))
theorem Marks.nil (w : World) : Marks [] w := ⟨[], rfl, by simp, by simp⟩
def World.putObj (w : World) (r : Nat) (o : Obj) : World := { w with heap := w.heap.setIfInBounds r o }
theorem run_takeDeferred {P : Program} {w : World} {r : Nat} (h : w.heap[r]? = some (.deferred (some []))) :
  (Instr.takeDeferred r).run P w = .ok [] (World.putObj w r (.deferred none)) := by
 simp [Instr.takeDeferred, getObj, setObj, bind, Sem.bind, pure, Sem.run, h, World.putObj]
/-- Popping the marks. -/
def popped (rs : List Nat) (w : World) : World := rs.foldl (fun w r => World.putObj w r (.deferred none)) w
theorem step_mark {P : Program} {fr : Frame} {cs : List Frame} {w : World} {r : Nat} {ds : List Deferred}
  (hm : fr.mode = .returning) (hd : fr.defers = { target := .collected r, args := #[] } :: ds) (h : w.heap[r]? = some (.deferred (some []))) :
  step P (lone fr cs w) = .next (lone { fr with defers := ds } cs (World.putObj w r (.deferred none))) := by
 refine step_lone_go ?_
 simp [stepG, unwind, hm, hd, Sem.runT_eq, run_takeDeferred h]
theorem steps_marks {P : Program} {cs : List Frame} : ∀ (rs : List Nat) (fr : Frame) (w : World), fr.mode = .returning →
  fr.defers = rs.map (fun r => { target := .collected r, args := #[] }) → rs.Nodup → (∀ r ∈ rs, w.heap[r]? = some (.deferred (some []))) →
  Steps P (lone fr cs w) (lone { fr with defers := [] } cs (popped rs w))
 | [], fr, w, hm, hd, _, _ => by
  have : { fr with defers := [] } = fr := by cases fr; simp at hd; simp [hd]
  rw [this]; exact .refl _ _
 | r :: rs, fr, w, hm, hd, hn, h => by
  have h1 := step_mark (P := P) (cs := cs) (ds := rs.map (fun r => { target := .collected r, args := #[] })) hm hd (h r (by simp))
  have h2 := steps_marks (P := P) (cs := cs) rs { fr with defers := rs.map (fun r => { target := .collected r, args := #[] }) } (World.putObj w r (.deferred none)) hm rfl (List.nodup_cons.1 hn).2 (by
   intro x hx
   have hne : r ≠ x := fun e => (List.nodup_cons.1 hn).1 (e ▸ hx)
   simp only [World.putObj]
   rw [Array.getElem?_setIfInBounds_ne hne]
   exact h x (by simp [hx]))
  exact (Steps.one h1).trans h2
theorem st_ret {P : Program} {b : FB} {ts : Array Value} {ds : List Deferred} {k : List Item} {cs : List Frame} {w : World} (hb : b.roundOf = none) :
  step P (lone (b.at ts ds (.code .ret :: k)) cs w) = .next (lone { b.at ts ds (.code .ret :: k) with mode := .returning } cs w) :=
 step_lone_go (by simp [stepG, stepG.exec, FB.at, hb])
theorem st_end {P : Program} {b : FB} {ts : Array Value} {ds : List Deferred} {cs : List Frame} {w : World} (hb : b.roundOf = none) :
  step P (lone (b.at ts ds []) cs w) = .next (lone { b.at ts ds [] with mode := .returning } cs w) :=
 step_lone_go (by simp [stepG, stepG.exec, FB.at, hb])
/-- What a function's body has to come to. -/
def Ends (P : Program) (fn : Func) (R : Value → World → Prop) : AExit → Array Value → List Deferred → World → Prop
  | .exit _, _, _, _ => False
  | _, ts, ds, w => ∃ rs : List Nat, ds = rs.map (fun r => { target := .collected r, args := #[] }) ∧ rs.Nodup ∧ (∀ r ∈ rs, w.heap[r]? = some (.deferred (some []))) ∧
      ∃ v, (results fn ts).run P (popped rs w) = .ok v (popped rs w) ∧ R v (popped rs w)
theorem calls_of_CR {P : Program} {f : FuncId} {fn : Func} {c : Code} {args : Array Value} {w : World} {R : Value → World → Prop}
  (hf : P.funcs[f]? = some fn) (hb : fn.body = some c)
  (h : CR P ⟨f, .normal, none⟩ c (Ends P fn R) (args ++ Array.replicate (fn.ntmps - args.size) undef) [] w) :
  Calls P f args w fun e w' => ∃ v, e = .returned v ∧ R v w' := by
 intro cs
 have henter : Frame.enter P f args .normal = FB.at ⟨f, .normal, none⟩ (args ++ Array.replicate (fn.ntmps - args.size) undef) [] [.code c] := by
  simp [Frame.enter, FB.at, hf, hb]
 obtain ⟨e, ts', ds', w', hq, harr⟩ := h [] cs
 rw [← henter] at harr
 cases e with
 | exit id => exact hq.elim
 | normal =>
  obtain ⟨rs, hds, hn, hm, v, hr, hR⟩ := hq
  refine ⟨.returned v, popped rs w', { FB.at ⟨f, .normal, none⟩ ts' [] [] with mode := .returning }, ⟨v, rfl, hR⟩, ?_, rfl, rfl, rfl, rfl, fn, hf, hr⟩
  exact Steps.trans harr (Steps.trans (.one (st_end rfl)) (by
   have := steps_marks (P := P) (cs := cs) rs { FB.at ⟨f, .normal, none⟩ ts' ds' [] with mode := .returning } w' rfl hds hn hm
   exact this))
 | ret =>
  obtain ⟨rs, hds, hn, hm, v, hr, hR⟩ := hq
  obtain ⟨kk, hs⟩ := harr
  refine ⟨.returned v, popped rs w', { FB.at ⟨f, .normal, none⟩ ts' [] (.code .ret :: kk) with mode := .returning }, ⟨v, rfl, hR⟩, ?_, rfl, rfl, rfl, rfl, fn, hf, hr⟩
  exact Steps.trans hs (Steps.trans (.one (st_ret rfl)) (by
   have := steps_marks (P := P) (cs := cs) rs { FB.at ⟨f, .normal, none⟩ ts' ds' (.code .ret :: kk) with mode := .returning } w' rfl hds hn hm
   exact this))
/-! ### Rounds -/
def roundEnd (l : Nat) (r : Loop) (jump : Option Code) (w : World) : World :=
  World.putObj w l (.loop { r with state := if jump.isNone then .ready else .done, pending := jump })
theorem run_endRound {P : Program} {w : World} {l : Nat} {r : Loop} (h : w.heap[l]? = some (.loop r)) (jump : Option Code) :
  (Instr.endRound l jump).run P w = .ok (.bool jump.isNone) (roundEnd l r jump w) := by
 simp [Instr.endRound, Instr.getLoop, getObj, setObj, bind, Sem.bind, pure, Sem.run, h, World.putObj, roundEnd]
theorem run_beginRound {P : Program} {w : World} {l : Nat} {r : Loop} (h : w.heap[l]? = some (.loop r)) (hr : r.state = .ready) :
  (Instr.beginRound l).run P w = .ok () (World.putObj w l (.loop { r with state := .busy })) := by
 simp [Instr.beginRound, Instr.getLoop, getObj, setObj, bind, Sem.bind, pure, Sem.run, h, hr, World.putObj]
theorem st_beginRound {P : Program} {b : FB} {ts : Array Value} {ds : List Deferred} {k : List Item} {cs : List Frame} {w : World} {l : Nat} {r : Loop}
  (hb : b.roundOf = some l) (h : w.heap[l]? = some (.loop r)) (hr : r.state = .ready) :
  step P (lone (b.at ts ds (.beginRound :: k)) cs w) = .next (lone (b.at ts ds k) cs (World.putObj w l (.loop { r with state := .busy }))) := by
 refine step_lone_go ?_
 have h1 := run_beginRound (P := P) h hr
 have h2 : ((do Instr.beginRound l; pure Next.skip : Sem Next)).run P w = .ok .skip (World.putObj w l (.loop { r with state := .busy })) := by
  simp [Instr.beginRound, Instr.getLoop, getObj, setObj, bind, Sem.bind, pure, Sem.run, h, hr, World.putObj]
 simp only [bind] at h2
 simp [stepG, stepG.exec, stepG.apply, FB.at, hb, Frame.finish, bind, h2]
theorem step_round_end {P : Program} {b : FB} {ts : Array Value} {k : List Item} {c : Frame} {cs : List Frame} {w : World} {l : Nat} {r : Loop}
  (hb : b.roundOf = some l) (hk : b.kind = .normal) (h : w.heap[l]? = some (.loop r)) :
  step P (lone (b.at ts [] []) (c :: cs) w) = .next (lone (c.finish (.bool true)) cs (roundEnd l r none w)) := by
 refine step_lone_go ?_
 simp [stepG, stepG.exec, FB.at, hb, hk, Sem.runT_eq, run_endRound h, doReturn]
theorem step_round_ret {P : Program} {b : FB} {ts : Array Value} {k : List Item} {c : Frame} {cs : List Frame} {w : World} {l : Nat} {r : Loop}
  (hb : b.roundOf = some l) (hk : b.kind = .normal) (h : w.heap[l]? = some (.loop r)) :
  step P (lone (b.at ts [] (.code .ret :: k)) (c :: cs) w) = .next (lone (c.finish (.bool false)) cs (roundEnd l r (some .ret) w)) := by
 refine step_lone_go ?_
 simp [stepG, stepG.exec, FB.at, hb, hk, Sem.runT_eq, run_endRound h, doReturn]
theorem step_round_exit {P : Program} {b : FB} {ts : Array Value} {k : List Item} {c : Frame} {cs : List Frame} {w : World} {l : Nat} {r : Loop} {id : Nat}
  (hb : b.roundOf = some l) (hk : b.kind = .normal) (h : w.heap[l]? = some (.loop r)) (hx : exitTo id k = none) :
  step P (lone (b.at ts [] (.code (.exit id) :: k)) (c :: cs) w) = .next (lone (c.finish (.bool false)) cs (roundEnd l r (some (.exit id)) w)) := by
 refine step_lone_go ?_
 simp [stepG, stepG.exec, FB.at, hb, hk, Sem.runT_eq, run_endRound h, doReturn, hx]
theorem runs_round {P : Program} {l fn : Nat} {tmps : Array Value} {as bd : Code} {w : World} {R : Value → World → Prop}
  (h : CR P ⟨fn, .normal, some l⟩ as (fun e ts ds w => e = .normal ∧ ds = [] ∧ ∃ r, w.heap[l]? = some (.loop r) ∧ r.state = .ready ∧
   CR P ⟨fn, .normal, some l⟩ bd (fun e ts ds w => ds = [] ∧ ∃ r, w.heap[l]? = some (.loop r) ∧ R (.bool e.jump.isNone) (roundEnd l r e.jump w)) ts [] (World.putObj w l (.loop { r with state := .busy }))) tmps [] w) :
  Runs P (Frame.round l fn tmps as bd .normal) w R := by
 intro c cs
 obtain ⟨e, ts, ds, w1, ⟨rfl, rfl, r, hr, hst, h2⟩, a⟩ := h [.beginRound, .code bd] (c :: cs)
 obtain ⟨e, ts2, ds2, w2, ⟨rfl, r2, hr2, hR⟩, a2⟩ := h2 [] (c :: cs)
 have hs : Steps P (lone (Frame.round l fn tmps as bd .normal) (c :: cs) w) (lone (FB.at ⟨fn, .normal, some l⟩ ts [] [.code bd]) (c :: cs) (World.putObj w1 l (.loop { r with state := .busy }))) :=
  Steps.trans (show Steps P (lone (Frame.round l fn tmps as bd .normal) (c :: cs) w) _ from a) (.one (st_beginRound rfl hr hst))
 cases e with
 | normal => exact ⟨_, _, hR, hs.trans (Steps.trans a2 (.one (step_round_end (k := []) rfl rfl hr2)))⟩
 | ret => obtain ⟨kk, s⟩ := a2; exact ⟨_, _, hR, hs.trans (s.trans (.one (step_round_ret rfl rfl hr2)))⟩
 | exit id => obtain ⟨kk, e1, s⟩ := a2; exact ⟨_, _, hR, hs.trans (s.trans (.one (step_round_exit rfl rfl hr2 (by rw [e1]; rfl))))⟩
/-! ### Ranging over a function -/
theorem run_enterLoop {P : Program} {w : World} (fn : FuncId) (ts : Array Value) (params : Array Tmp) (as bd : Code) (around : Option Nat)
  (ha : ∀ l, around = some l → ∃ r, w.heap[l]? = some (.loop r)) :
  ∃ D mark w1, (Instr.enterLoop fn ts params as bd around).run P w = .ok (w1.heap.size, mark) { w1 with heap := w1.heap.push (.loop { state := .ready, pending := none, fn, tmps := ts, params, assign := as, body := bd, defers := D }) } ∧
   ((around = none ∧ mark = [{ target := .collected w.heap.size, args := #[] }] ∧ w1 = { w with heap := w.heap.push (.deferred (some [])) }) ∨ (around ≠ none ∧ mark = [] ∧ w1 = w)) := by
 cases around with
 | none => exact ⟨w.heap.size, _, _, by simp [Instr.enterLoop, newObj, bind, Sem.bind, pure, Sem.run], .inl ⟨rfl, rfl, rfl⟩⟩
 | some l =>
  obtain ⟨r, hr⟩ := ha l rfl
  exact ⟨r.defers, _, _, by simp [Instr.enterLoop, Instr.getLoop, newObj, getObj, bind, Sem.bind, pure, Sem.run, hr], .inr ⟨by simp, rfl, rfl⟩⟩
/-- The call that the statement makes. -/
def callYield (f : Value) (l : Nat) : Sem Next := do
  let d ← Deferred.ofValue f #[.func (.yield l) #[] #[]]
  invoke d.target d.args
theorem st_rangeFunc {P : Program} {b : FB} {ts : Array Value} {ds : List Deferred} {k : List Item} {cs : List Frame} {w w1 w2 : World} {f : Operand} {params : Array Tmp} {as bd : Code} {l : Nat} {mark : List Deferred} {g : FuncId} {args : Array Value}
  (he : (Instr.enterLoop b.fn ts params as bd b.roundOf).run P w = .ok (l, mark) w1)
  (hi : (callYield (ev ts f) l).run P w1 = .ok (.enter g args) w2) :
  step P (lone (b.at ts ds (.code (.rangeFunc f params as bd) :: k)) cs w) =
   .next (lone (Frame.enter P g args .normal) (b.at ts (mark ++ ds) (.inRangeFunc l :: k) :: cs) w2) := by
 refine step_lone_go ?_
 have hev := FB.eval_at b ts (mark ++ ds) (.inRangeFunc l :: k)
 simp only [FB.at] at hev
 have hi' : (do let d ← resolve (ev ts) { callee := .value f, args := #[.const (.func (.yield l) #[] #[])], argTypes := #[] } 0; invoke d.target d.args : Sem Next).run P w1 = .ok (.enter g args) w2 := by
  rw [← hi]; simp [callYield, resolve, ev]
 simp [stepG, stepG.exec, FB.at, Sem.runT_eq, he, stepG.apply, hev, hi']
theorem finish_inRangeFunc {b : FB} {ts : Array Value} {ds : List Deferred} {k : List Item} {l : Nat} {v : Value} :
  (b.at ts ds (.inRangeFunc l :: k)).finish v = b.at ts ds (.endRangeFunc l :: k) := rfl
theorem run_endLoop {P : Program} {w : World} {l : Nat} {r : Loop} (h : w.heap[l]? = some (.loop r)) (hs : r.state ≠ .busy) :
  (Instr.endLoop l).run P w = .ok r.pending (World.putObj w l (.loop { r with state := .exhausted })) := by
 have : (r.state == LoopState.busy) = false := by simpa using hs
 simp [Instr.endLoop, Instr.getLoop, getObj, setObj, bind, Sem.bind, pure, Sem.run, h, hs, World.putObj]
theorem st_endRangeFunc {P : Program} {b : FB} {ts : Array Value} {ds : List Deferred} {k : List Item} {cs : List Frame} {w : World} {l : Nat} {r : Loop}
  (h : w.heap[l]? = some (.loop r)) (hs : r.state ≠ .busy) :
  step P (lone (b.at ts ds (.endRangeFunc l :: k)) cs w) = .next (lone (b.at ts ds ((r.pending.map Item.code).toList ++ k)) cs (World.putObj w l (.loop { r with state := .exhausted }))) := by
 refine step_lone_go ?_
 simp [stepG, stepG.exec, FB.at, Sem.runT_eq, run_endLoop h hs]
/-- The whole statement. -/
theorem CR.rangeFunc {P : Program} {b : FB} {f : Operand} {params : Array Tmp} {as bd : Code} {Q : AExit → Array Value → List Deferred → World → Prop} {ts : Array Value} {ds : List Deferred} {w w1 w2 : World}
  {l : Nat} {mark : List Deferred} {g : FuncId} {args : Array Value}
  (he : (Instr.enterLoop b.fn ts params as bd b.roundOf).run P w = .ok (l, mark) w1)
  (hi : (callYield (ev ts f) l).run P w1 = .ok (.enter g args) w2)
  (hr : Runs P (Frame.enter P g args .normal) w2 (fun _ w3 => ∃ r e, w3.heap[l]? = some (.loop r) ∧ r.state ≠ .busy ∧ r.pending = AExit.jump e ∧ Q e ts (mark ++ ds) (World.putObj w3 l (.loop { r with state := .exhausted })))) :
  CR P b (.rangeFunc f params as bd) Q ts ds w := by
 intro k cs
 obtain ⟨v, w3, ⟨r, e, h3, hs, hp, q⟩, s⟩ := hr (b.at ts (mark ++ ds) (.inRangeFunc l :: k)) cs
 rw [finish_inRangeFunc] at s
 refine ⟨e, ts, mark ++ ds, _, q, ?_⟩
 have hall := (Steps.one (st_rangeFunc (ds := ds) (k := k) (cs := cs) he hi)).trans (s.trans (.one (st_endRangeFunc h3 hs)))
 cases e with
 | normal =>
  have hq : (Option.map Item.code r.pending).toList ++ k = k := by rw [hp]; rfl
  rw [hq] at hall; exact hall
 | ret =>
  have hq : (Option.map Item.code r.pending).toList ++ k = .code .ret :: k := by rw [hp]; rfl
  rw [hq] at hall; exact ⟨k, hall⟩
 | exit id =>
  have hq : (Option.map Item.code r.pending).toList ++ k = .code (.exit id) :: k := by rw [hp]; rfl
  rw [hq] at hall; exact ⟨k, rfl, hall⟩
end Go.AM

/-! A3 -/
namespace Go.AM
/-- Where an abstract block lies: the machine's block, from which cell on, how many cells that block has. -/
structure Beta where
  blk : Nat → Nat
  sh : Nat → Nat
  cap : Nat → Nat
inductive VRel (β : Beta) (N : Nat) : Value → Value → Prop
  | bool (b : Bool) : VRel β N (.bool b) (.bool b)
  | int (k : IntKind) (n : Int) : VRel β N (.int k n) (.int k n)
  | string (s : ByteArray) : VRel β N (.string s) (.string s)
  | ptrNil : VRel β N (.pointer none) (.pointer none)
  | ptr (b o : Nat) (h : b < N) : VRel β N (.pointer (some ⟨b, o, none⟩)) (.pointer (some ⟨β.blk b, β.sh b + o, none⟩))
  | sliceNil : VRel β N (.slice none 0 0) (.slice none 0 0)
  | slice (b o sz len cap cap' : Nat) (h : b < N) (hz : 0 < sz) (hl : len ≤ cap) (hc : cap ≤ cap') (hb : β.sh b + o + cap' * sz ≤ β.cap b) (hm : cap' < 9223372036854775808) :
      VRel β N (.slice (some ⟨b, o, some sz⟩) len cap) (.slice (some ⟨β.blk b, β.sh b + o, none⟩) len cap')
  | lost (b : Nat) (a' : Addr) (cap' : Nat) (h : True) : VRel β N (.slice (some ⟨b, 0, none⟩) 0 0) (.slice (some a') 0 cap')
  | empty (b : Nat) (a' : Addr) (h : True) : VRel β N (.slice (some ⟨b, 1, none⟩) 0 0) (.slice (some a') 0 0)
  | gone (a' : Option Addr) (l' c' : Nat) : VRel β N (.complex default default default) (.slice a' l' c')
  | goneP (a' : Option Addr) : VRel β N (.complex default default default) (.pointer a')
  | mapNil : VRel β N (.map none) (.map none)
  | map (r : Nat) (h : r < N) : VRel β N (.map (some r)) (.map (some (β.blk r)))
  | func (f : FuncId) (a a' c c' : Array Value) (h1 : a.size = a'.size) (h2 : ∀ (i : Nat) v v', a[i]? = some v → a'[i]? = some v' → VRel β N v v')
      (h3 : c.size = c'.size) (h4 : ∀ (i : Nat) v v', c[i]? = some v → c'[i]? = some v' → VRel β N v v') : VRel β N (.func (.func f) a c) (.func (.func f) a' c')
  | yield (l : Nat) (h : l < N) : VRel β N (.func (.yield l) #[] #[]) (.func (.yield (β.blk l)) #[] #[])
  | nilFunc : VRel β N .nilFunc .nilFunc
  | nilIface : VRel β N .nilIface .nilIface
  | iface (t : TypeId) (v v' : Value) (h : VRel β N v v') : VRel β N (.iface t v) (.iface t v')
  | agg (c c' : Array Value) (h1 : c.size = c'.size) (h2 : ∀ (i : Nat) v v', c[i]? = some v → c'[i]? = some v' → VRel β N v v') : VRel β N (.agg c) (.agg c')
  | tuple (c c' : Array Value) (h1 : c.size = c'.size) (h2 : ∀ (i : Nat) v v', c[i]? = some v → c'[i]? = some v' → VRel β N v v') : VRel β N (.tuple c) (.tuple c')
def ARel (β : Beta) (N : Nat) (c c' : Array Value) : Prop := c.size = c'.size ∧ ∀ (i : Nat) v v', c[i]? = some v → c'[i]? = some v' → VRel β N v v'
structure Beta.Agree (β β' : Beta) (N : Nat) : Prop where
  blk : ∀ b, b < N → β'.blk b = β.blk b
  sh : ∀ b, b < N → β'.sh b = β.sh b
  cap : ∀ b, b < N → β'.cap b = β.cap b
theorem Beta.Agree.refl (β : Beta) (N : Nat) : β.Agree β N := ⟨fun _ _ => rfl, fun _ _ => rfl, fun _ _ => rfl⟩
theorem Beta.Agree.trans {β β' β'' : Beta} {N N' : Nat} (h : β.Agree β' N) (h' : β'.Agree β'' N') (hN : N ≤ N') : β.Agree β'' N :=
 ⟨fun b hb => (h'.blk b (by omega)).trans (h.blk b hb), fun b hb => (h'.sh b (by omega)).trans (h.sh b hb), fun b hb => (h'.cap b (by omega)).trans (h.cap b hb)⟩
theorem VRel.mono {β β' : Beta} {N N' : Nat} {v v' : Value} (h : VRel β N v v') (ha : β.Agree β' N) (hN : N ≤ N') : VRel β' N' v v' := by
 induction h with
 | bool b => exact .bool b
 | int k n => exact .int k n
 | string s => exact .string s
 | ptrNil => exact .ptrNil
 | ptr b o h => rw [← ha.blk b h, ← ha.sh b h]; exact .ptr b o (by omega)
 | sliceNil => exact .sliceNil
 | slice b o sz len cap cap' h hz hl hc hb hm =>
  rw [← ha.blk b h, ← ha.sh b h]
  exact .slice b o sz len cap cap' (by omega) hz hl hc (by rw [ha.sh b h, ha.cap b h]; exact hb) hm
 | lost b a' cap' h => exact .lost b a' cap' h
 | empty b a' h => exact .empty b a' h
 | gone a' l' c' => exact .gone a' l' c'
 | goneP a' => exact .goneP a'
 | mapNil => exact .mapNil
 | map r h => rw [← ha.blk r h]; exact .map r (by omega)
 | func f a a' c c' h1 h2 h3 h4 ih2 ih4 => exact .func f a a' c c' h1 (fun i v v' e e' => ih2 i v v' e e') h3 (fun i v v' e e' => ih4 i v v' e e')
 | yield l h => rw [← ha.blk l h]; exact .yield l (by omega)
 | nilFunc => exact .nilFunc
 | nilIface => exact .nilIface
 | iface t v v' h ih => exact .iface t v v' ih
 | agg c c' h1 h2 ih => exact .agg c c' h1 (fun i v v' e e' => ih i v v' e e')
 | tuple c c' h1 h2 ih => exact .tuple c c' h1 (fun i v v' e e' => ih i v v' e e')
theorem ARel.mono {β β' : Beta} {N N' : Nat} {c c' : Array Value} (h : ARel β N c c') (ha : β.Agree β' N) (hN : N ≤ N') : ARel β' N' c c' :=
 ⟨h.1, fun i v v' e e' => (h.2 i v v' e e').mono ha hN⟩
theorem ARel.nil (β : Beta) (N : Nat) : ARel β N #[] #[] := ⟨rfl, fun i v v' e => by simp at e⟩
theorem VRel.undef (β : Beta) (N : Nat) : VRel β N Go.undef Go.undef := .tuple _ _ rfl (fun i v v' e => by simp at e)
theorem ARel.get {β : Beta} {N : Nat} {c c' : Array Value} (h : ARel β N c c') {i : Nat} {v : Value} (e : c[i]? = some v) : ∃ v', c'[i]? = some v' ∧ VRel β N v v' := by
 have hi : i < c.size := (Array.getElem?_eq_some_iff.1 e).1
 have hi' : i < c'.size := h.1 ▸ hi
 exact ⟨c'[i], Array.getElem?_eq_getElem hi', h.2 i v _ e (Array.getElem?_eq_getElem hi')⟩
theorem ARel.getD {β : Beta} {N : Nat} {c c' : Array Value} (h : ARel β N c c') (i : Nat) : VRel β N (c.getD i Go.undef) (c'.getD i Go.undef) := by
 rw [Array.getD_eq_getD_getElem?, Array.getD_eq_getD_getElem?]
 cases e : c[i]? with
 | some v => obtain ⟨v', e', r⟩ := h.get e; simp [e', r]
 | none =>
  have hi : c.size ≤ i := Array.getElem?_eq_none_iff.1 e
  have : c'[i]? = none := Array.getElem?_eq_none_iff.2 (h.1 ▸ hi)
  simp [this]; exact .undef β N
theorem ARel.set {β : Beta} {N : Nat} {c c' : Array Value} (h : ARel β N c c') (i : Nat) {v v' : Value} (hv : VRel β N v v') : ARel β N (c.setIfInBounds i v) (c'.setIfInBounds i v') := by
 refine ⟨by simp [h.1], fun j x x' e e' => ?_⟩
 rw [Array.getElem?_setIfInBounds] at e e'
 by_cases hj : i = j
 ·subst hj
  by_cases hi : i < c.size
  ·have hi' : i < c'.size := h.1 ▸ hi
   simp [hi] at e; simp [hi'] at e'
   subst e; subst e'; exact hv
  ·simp [hi] at e
 ·simp [hj] at e e'
  exact h.2 j x x' e e'
theorem ARel.put {β : Beta} {N : Nat} {c c' : Array Value} (h : ARel β N c c') (d : Option Tmp) {v v' : Value} (hv : VRel β N v v') : ARel β N (put c d v) (put c' d v') := by
 cases d with
 | none => exact h
 | some d => exact h.set d hv
theorem ARel.append {β : Beta} {N : Nat} {c c' d d' : Array Value} (h : ARel β N c c') (g : ARel β N d d') : ARel β N (c ++ d) (c' ++ d') := by
 refine ⟨by simp [h.1, g.1], fun j x x' e e' => ?_⟩
 by_cases hj : j < c.size
 ·have hj' : j < c'.size := h.1 ▸ hj
  rw [Array.getElem?_append_left hj] at e
  rw [Array.getElem?_append_left hj'] at e'
  exact h.2 j x x' e e'
 ·have hj' : ¬ j < c'.size := h.1 ▸ hj
  rw [Array.getElem?_append_right (by omega)] at e
  rw [Array.getElem?_append_right (by omega)] at e'
  rw [← h.1] at e'; exact g.2 _ x x' e e'
theorem ARel.replicate {β : Beta} {N : Nat} (n : Nat) {v v' : Value} (hv : VRel β N v v') : ARel β N (Array.replicate n v) (Array.replicate n v') := by
 refine ⟨by simp, fun j x x' e e' => ?_⟩
 rw [Array.getElem?_replicate] at e e'
 by_cases hj : j < n
 ·simp [hj] at e e'; subst e; subst e'; exact hv
 ·simp [hj] at e
theorem ARel.extract {β : Beta} {N : Nat} {c c' : Array Value} (h : ARel β N c c') (i j : Nat) : ARel β N (c.extract i j) (c'.extract i j) := by
 refine ⟨by simp [h.1], fun k x x' e e' => ?_⟩
 rw [Array.getElem?_extract] at e e'
 rw [h.1] at e
 split at e
 ·rename_i hk; simp [hk] at e'; exact h.2 _ x x' e e'
 ·simp at e
theorem ARel.map {β : Beta} {N : Nat} {α : Type} (l : Array α) (f g : α → Value) (h : ∀ x, x ∈ l → VRel β N (f x) (g x)) : ARel β N (l.map f) (l.map g) := by
 refine ⟨by simp, fun k x x' e e' => ?_⟩
 rw [Array.getElem?_map] at e e'
 cases hl : l[k]? with
 | none => simp [hl] at e
 | some y =>
  simp [hl] at e e'; subst e; subst e'
  exact h y (Array.mem_of_getElem? hl)
theorem ARel.cells {β : Beta} {N : Nat} {v v' : Value} (h : VRel β N v v') : ARel β N v.cells v'.cells := by
 have one : ∀ {x x' : Value}, VRel β N x x' → ARel β N #[x] #[x'] := by
  intro x x' hx
  refine ⟨rfl, fun i y y' e e' => ?_⟩
  cases i with
  | zero => simp at e e'; subst e; subst e'; exact hx
  | succ i => simp at e
 cases h with
 | agg c c' h1 h2 => exact ⟨h1, h2⟩
 | _ => exact one (by constructor <;> assumption)
/-! ### Memory -/
structure ALoop where
  state : LoopState
  pending : Option Code
  tmps : Array Value
  params : Array Tmp
  assign : Code
  body : Code
inductive AObj where
  | dead
  | cells (rw : Bool) (c : Array Value)
  | map (rw : Bool) (es : List (Value × Value))
  | loop (l : ALoop)
  | grow (c : Array Value)
abbrev Mem := Array AObj
def Mem.get (m : Mem) (b : Nat) : AObj := m.getD b .dead
def AObj.rw : AObj → Bool
  | .cells r _ => r
  | .map r _ => r
  | .loop _ => true
  | .grow _ => true
  | .dead => false
def AObj.live : AObj → Bool
  | .dead => false
  | _ => true
/-- No two entries of a map have the same stamp, and the next one's is a new one. -/
def Stamped (es : Array MapEntry) (clk : Nat) : Prop := (∀ (i : Nat) e, es[i]? = some e → e.born < clk) ∧ ∀ (i j : Nat) e e', es[i]? = some e → es[j]? = some e' → e.born = e'.born → i = j
theorem Stamped.nil (clk : Nat) : Stamped #[] clk := ⟨fun i e h => by simp at h, fun i j e e' h => by simp at h⟩
theorem Stamped.modify {es : Array MapEntry} {clk i : Nat} {f : MapEntry → MapEntry} (h : Stamped es clk) (hf : ∀ e, (f e).born = e.born) : Stamped (es.modify i f) clk := by
 have key : ∀ (j : Nat) e, (es.modify i f)[j]? = some e → ∃ e0, es[j]? = some e0 ∧ e.born = e0.born := by
  intro j e he
  rw [Array.getElem?_modify] at he
  split at he
  ·cases hq : es[j]? with
   | none => rw [hq] at he; cases he
   | some e0 => rw [hq] at he; injection he with he; subst he; exact ⟨e0, rfl, hf e0⟩
  ·exact ⟨e, he, rfl⟩
 refine ⟨fun j e he => ?_, fun j k e e' he he' hb => ?_⟩
 ·obtain ⟨e0, h1, h2⟩ := key j e he
  rw [h2]; exact h.1 j e0 h1
 ·obtain ⟨e0, h1, h2⟩ := key j e he
  obtain ⟨e1, h3, h4⟩ := key k e' he'
  exact h.2 j k e0 e1 h1 h3 (by rw [← h2, ← h4]; exact hb)
theorem Stamped.push {es : Array MapEntry} {clk : Nat} {k v : Value} (h : Stamped es clk) : Stamped (es.push { key := k, val := v, born := clk }) (clk + 1) := by
 have key : ∀ (j : Nat) e, (es.push { key := k, val := v, born := clk })[j]? = some e → (j = es.size ∧ e.born = clk) ∨ (es[j]? = some e ∧ e.born < clk) := by
  intro j e he
  rw [Array.getElem?_push] at he
  split at he
  ·rename_i hj; injection he with he; subst he; exact .inl ⟨hj, rfl⟩
  ·exact .inr ⟨he, h.1 j e he⟩
 refine ⟨fun j e he => ?_, fun i j e e' he he' hb => ?_⟩
 ·rcases key j e he with ⟨_, h1⟩ | ⟨_, h1⟩ <;> omega
 ·rcases key i e he with ⟨h1, h2⟩ | ⟨h1, h2⟩ <;> rcases key j e' he' with ⟨h3, h4⟩ | ⟨h3, h4⟩
  ·omega
  ·omega
  ·omega
  ·exact h.2 i j e e' h1 h3 hb
/-- What an abstract block says of the machine's. -/
def ObjRel (β : Beta) (N b : Nat) : AObj → Obj → Prop
  | .dead, _ => True
  | .cells r c, O => ∃ c' e fz, O = .cells c' e fz ∧ β.sh b + c.size ≤ β.cap b ∧
      (∀ (i : Nat) v, c[i]? = some v → ∃ v', c'[β.sh b + i]? = some v' ∧ VRel β N v v') ∧
      (r = true → β.sh b = 0 ∧ c'.size = β.cap b ∧ ∀ i : Nat, ¬ (fz.1 ≤ i ∧ i < fz.2))
  | .map r es, O => ∃ es' clk, O = .map es' clk ∧ es'.size = es.length ∧
      (∀ (i : Nat) x e', es[i]? = some x → es'[i]? = some e' → VRel β N x.1 e'.key ∧ VRel β N x.2 e'.val) ∧ (r = true → Stamped es' clk)
  | .grow c, O => ∃ c' e fz, O = .cells c' e fz ∧ β.sh b + c.size ≤ β.cap b ∧
      (∀ (i : Nat) v, c[i]? = some v → ∃ v', c'[β.sh b + i]? = some v' ∧ VRel β N v v') ∧
      (true = true → β.sh b = 0 ∧ c'.size = β.cap b ∧ ∀ i : Nat, ¬ (fz.1 ≤ i ∧ i < fz.2))
  | .loop L, O => ∃ r, O = .loop r ∧ r.state = L.state ∧ r.pending = L.pending ∧ r.params = L.params ∧ r.assign = L.assign ∧ r.body = L.body ∧ ARel β N L.tmps r.tmps
theorem ObjRel.mono {β β' : Beta} {N N' b : Nat} {o : AObj} {O : Obj} (h : ObjRel β N b o O) (ha : β.Agree β' N) (hN : N ≤ N') (hb : b < N) : ObjRel β' N' b o O := by
 cases o with
 | dead => trivial
 | cells r c =>
  obtain ⟨c', e, fz, h1, h2, h3, h4⟩ := h
  refine ⟨c', e, fz, h1, ?_, fun i v hi => ?_, fun hr => ?_⟩
  ·rw [ha.sh b hb, ha.cap b hb]; exact h2
  ·obtain ⟨v', e', hv⟩ := h3 i v hi
   exact ⟨v', by rw [ha.sh b hb]; exact e', hv.mono ha hN⟩
  ·rw [ha.sh b hb, ha.cap b hb]; exact h4 hr
 | map r es =>
  obtain ⟨es', clk, h1, h2, h3, h4⟩ := h
  exact ⟨es', clk, h1, h2, fun i x e' e1 e2 => ⟨(h3 i x e' e1 e2).1.mono ha hN, (h3 i x e' e1 e2).2.mono ha hN⟩, h4⟩
 | grow c =>
  obtain ⟨c', e, fz, h1, h2, h3, h4⟩ := h
  refine ⟨c', e, fz, h1, ?_, fun i v hi => ?_, fun hr => ?_⟩
  ·rw [ha.sh b hb, ha.cap b hb]; exact h2
  ·obtain ⟨v', e', hv⟩ := h3 i v hi
   exact ⟨v', by rw [ha.sh b hb]; exact e', hv.mono ha hN⟩
  ·rw [ha.sh b hb, ha.cap b hb]; exact h4 hr
 | loop L =>
  obtain ⟨r, h1, h2, h3, h4, h5, h6, h7⟩ := h
  exact ⟨r, h1, h2, h3, h4, h5, h6, h7.mono ha hN⟩
/-- A row that was there before another one went on growing in its place. -/
def Alias (β : Beta) (m : Mem) (b1 b2 : Nat) : Prop := ∃ c c2, Mem.get m b1 = .grow c ∧ Mem.get m b2 = .cells false c2 ∧ β.sh b2 + c2.size ≤ c.size
structure Rel (P : Program) (β : Beta) (m : Mem) (w : World) : Prop where
  gsz : P.globals.size ≤ m.size
  glob : ∀ g, g < P.globals.size → β.blk g = g ∧ β.sh g = 0
  obj : ∀ b, (Mem.get m b).live = true → ∃ O, w.heap[β.blk b]? = some O ∧ ObjRel β m.size b (Mem.get m b) O
  inj : ∀ b1 b2, b1 ≠ b2 → (Mem.get m b1).rw = true → (Mem.get m b2).live = true → β.blk b1 ≠ β.blk b2 ∨ Alias β m b1 b2
theorem Mem.lt_of_live {m : Mem} {b : Nat} (h : (Mem.get m b).live = true) : b < m.size := by
 rcases Nat.lt_or_ge b m.size with h1 | h1
 ·exact h1
 ·unfold Mem.get at h
  rw [Array.getD_eq_getD_getElem?, Array.getElem?_eq_none_iff.2 h1] at h
  cases h
theorem AObj.live_of_rw {o : AObj} (h : o.rw = true) : o.live = true := by cases o <;> first | rfl | cases h
theorem Rel.cells {P : Program} {β : Beta} {m : Mem} {w : World} (h : Rel P β m w) (b : Nat) (r : Bool) (c : Array Value) (e : Mem.get m b = .cells r c) : ∃ c' e fz, w.heap[β.blk b]? = some (.cells c' e fz) ∧ β.sh b + c.size ≤ β.cap b ∧
  (∀ (i : Nat) v, c[i]? = some v → ∃ v', c'[β.sh b + i]? = some v' ∧ VRel β m.size v v') ∧
  (r = true → β.sh b = 0 ∧ c'.size = β.cap b ∧ ∀ i : Nat, ¬ (fz.1 ≤ i ∧ i < fz.2)) := by
 obtain ⟨O, h1, h2⟩ := h.obj b (by rw [e]; rfl)
 rw [e] at h2
 obtain ⟨c', e', fz, rfl, h3⟩ := h2
 exact ⟨c', e', fz, h1, h3⟩
theorem Rel.growing {P : Program} {β : Beta} {m : Mem} {w : World} (h : Rel P β m w) (b : Nat) (c : Array Value) (e : Mem.get m b = .grow c) : ∃ c' e fz, w.heap[β.blk b]? = some (.cells c' e fz) ∧ β.sh b + c.size ≤ β.cap b ∧
  (∀ (i : Nat) v, c[i]? = some v → ∃ v', c'[β.sh b + i]? = some v' ∧ VRel β m.size v v') ∧
  (β.sh b = 0 ∧ c'.size = β.cap b ∧ ∀ i : Nat, ¬ (fz.1 ≤ i ∧ i < fz.2)) := by
 obtain ⟨O, h1, h2⟩ := h.obj b (by rw [e]; rfl)
 rw [e] at h2
 obtain ⟨c', e', fz, rfl, h3, h4, h5⟩ := h2
 exact ⟨c', e', fz, h1, h3, h4, h5 rfl⟩
theorem Rel.map {P : Program} {β : Beta} {m : Mem} {w : World} (h : Rel P β m w) (b : Nat) (r : Bool) (es : List (Value × Value)) (e : Mem.get m b = .map r es) : ∃ es' clk, w.heap[β.blk b]? = some (.map es' clk) ∧ es'.size = es.length ∧
  ∀ (i : Nat) x e', es[i]? = some x → es'[i]? = some e' → VRel β m.size x.1 e'.key ∧ VRel β m.size x.2 e'.val := by
 obtain ⟨O, h1, h2⟩ := h.obj b (by rw [e]; rfl)
 rw [e] at h2
 obtain ⟨es', clk, rfl, h3, h4, _⟩ := h2
 exact ⟨es', clk, h1, h3, h4⟩
theorem Rel.mapS {P : Program} {β : Beta} {m : Mem} {w : World} (h : Rel P β m w) (b : Nat) (es : List (Value × Value)) (e : Mem.get m b = .map true es) : ∃ es' clk, w.heap[β.blk b]? = some (.map es' clk) ∧ es'.size = es.length ∧
  (∀ (i : Nat) x e', es[i]? = some x → es'[i]? = some e' → VRel β m.size x.1 e'.key ∧ VRel β m.size x.2 e'.val) ∧ Stamped es' clk := by
 obtain ⟨O, h1, h2⟩ := h.obj b (by rw [e]; rfl)
 rw [e] at h2
 obtain ⟨es', clk, rfl, h3, h4, h5⟩ := h2
 exact ⟨es', clk, h1, h3, h4, h5 rfl⟩
theorem Rel.loop {P : Program} {β : Beta} {m : Mem} {w : World} (h : Rel P β m w) (b : Nat) (L : ALoop) (e : Mem.get m b = .loop L) : ∃ r, w.heap[β.blk b]? = some (.loop r) ∧ r.state = L.state ∧ r.pending = L.pending ∧ r.params = L.params ∧ r.assign = L.assign ∧ r.body = L.body ∧
  ARel β m.size L.tmps r.tmps := by
 obtain ⟨O, h1, h2⟩ := h.obj b (by rw [e]; rfl)
 rw [e] at h2
 obtain ⟨r, rfl, h3⟩ := h2
 exact ⟨r, h1, h3⟩
structure Stp (β : Beta) (m : Mem) (w : World) (β' : Beta) (m' : Mem) (w' : World) : Prop where
  msz : m.size ≤ m'.size
  wsz : w.heap.size ≤ w'.heap.size
  agree : β.Agree β' m.size
  fresh : ∀ b, (Mem.get m' b).rw = true → w.heap.size ≤ β'.blk b ∨ ∃ b0, (Mem.get m b0).rw = true ∧ β'.blk b = β.blk b0
  keep : ∀ i, i < w.heap.size → (∀ b, (Mem.get m b).rw = true → β.blk b ≠ i) → w'.heap[i]? = w.heap[i]?
  os : w'.os = w.os
  tape : w'.tape = w.tape
  output : w'.output = w.output
  freshL : ∀ b, (Mem.get m' b).live = true → w.heap.size ≤ β'.blk b ∨ ∃ b0, (Mem.get m b0).live = true ∧ β'.blk b = β.blk b0
theorem Stp.refl (β : Beta) (m : Mem) (w : World) : Stp β m w β m w :=
 ⟨Nat.le_refl _, Nat.le_refl _, .refl _ _, fun b h => .inr ⟨b, h, rfl⟩, fun _ _ _ => rfl, rfl, rfl, rfl, fun b h => .inr ⟨b, h, rfl⟩⟩
theorem Stp.trans {β β' β'' : Beta} {m m' m'' : Mem} {w w' w'' : World} (h : Stp β m w β' m' w') (h' : Stp β' m' w' β'' m'' w'') : Stp β m w β'' m'' w'' where
 msz := Nat.le_trans h.msz h'.msz
 wsz := Nat.le_trans h.wsz h'.wsz
 agree := h.agree.trans h'.agree h.msz
 fresh b hb := by
  rcases h'.fresh b hb with h1 | ⟨b0, hr, e⟩
  ·exact .inl (Nat.le_trans h.wsz h1)
  ·rcases h.fresh b0 hr with h2 | ⟨b1, hr1, e1⟩
   ·exact .inl (by omega)
   ·exact .inr ⟨b1, hr1, by omega⟩
 keep i hi hn := by
  rw [h'.keep i (Nat.lt_of_lt_of_le hi h.wsz) ?_]
  ·exact h.keep i hi hn
  ·intro b hb e
   rcases h.fresh b hb with h2 | ⟨b1, hr1, e1⟩
   ·omega
   ·exact hn b1 hr1 (by omega)
 os := h'.os.trans h.os
 tape := h'.tape.trans h.tape
 output := h'.output.trans h.output
 freshL b hb := by
  rcases h'.freshL b hb with h1 | ⟨b0, hr, e⟩
  ·exact .inl (Nat.le_trans h.wsz h1)
  ·rcases h.freshL b0 hr with h2 | ⟨b1, hr1, e1⟩
   ·exact .inl (by omega)
   ·exact .inr ⟨b1, hr1, by omega⟩
/-- An order has been drawn, or another answer of the tape. -/
theorem Rel.drew {P : Program} {β : Beta} {m : Mem} {w w' : World} (h : Rel P β m w) (hh : w'.heap = w.heap) : Rel P β m w' where
 gsz := h.gsz
 glob := h.glob
 obj b e := by rw [hh]; exact h.obj b e
 inj := h.inj
theorem Stp.drew {β : Beta} {m : Mem} {w w' : World} (hh : w'.heap = w.heap) (h1 : w'.os = w.os) (h2 : w'.tape = w.tape) (h3 : w'.output = w.output) : Stp β m w β m w' :=
 ⟨Nat.le_refl _, by rw [hh]; exact Nat.le_refl _, .refl _ _, fun b h => .inr ⟨b, h, rfl⟩, fun _ _ _ => by rw [hh], h1, h2, h3, fun b h => .inr ⟨b, h, rfl⟩⟩
/-! ### Operands -/
def flat0 : Value → Bool
  | .bool _ | .int _ _ | .string _ | .pointer none | .slice none 0 0 | .map none | .nilFunc | .nilIface => true
  | .func (.func _) a c => a.size == 0 && c.size == 0
  | _ => false
def flat : Value → Bool
  | .agg c => c.all flat0
  | .tuple c => c.all flat0
  | v => flat0 v
theorem VRel.flat0 {β : Beta} {N : Nat} {v : Value} (h : AM.flat0 v = true) : VRel β N v v := by
 unfold AM.flat0 at h
 split at h
 ·exact .bool _
 ·exact .int _ _
 ·exact .string _
 ·exact .ptrNil
 ·exact .sliceNil
 ·exact .mapNil
 ·exact .nilFunc
 ·exact .nilIface
 ·rename_i f a c
  simp at h
  obtain ⟨rfl, rfl⟩ := h
  exact .func f _ _ _ _ rfl (fun i v v' e => by simp at e) rfl (fun i v v' e => by simp at e)
 ·simp at h
theorem ARel.flat {β : Beta} {N : Nat} {c : Array Value} (h : c.all flat0 = true) : ARel β N c c := by
 refine ⟨rfl, fun i v v' e e' => ?_⟩
 rw [e] at e'; injection e' with e'; subst e'
 rw [Array.all_eq_true] at h
 obtain ⟨hi, he⟩ := Array.getElem?_eq_some_iff.1 e
 exact .flat0 (he ▸ h i hi)
theorem VRel.flat {β : Beta} {N : Nat} {v : Value} (h : AM.flat v = true) : VRel β N v v := by
 unfold AM.flat at h
 split at h
 ·exact .agg _ _ rfl (ARel.flat h).2
 ·exact .tuple _ _ rfl (ARel.flat h).2
 ·exact .flat0 h
def okOper (G : Nat) : Operand → Bool
  | .tmp _ => true
  | .const v => flat v
  | .global g => decide (g < G)
  | .func _ => true
theorem ev_rel {P : Program} {β : Beta} {m : Mem} {w : World} {t ts : Array Value} (hR : Rel P β m w) (hT : ARel β m.size t ts) {x : Operand} (h : okOper P.globals.size x = true) :
  VRel β m.size (ev t x) (ev ts x) := by
 cases x with
 | tmp i => exact hT.getD i
 | const v => exact .flat h
 | global g =>
  simp [okOper] at h
  obtain ⟨h1, h2⟩ := hR.glob g h
  have := VRel.ptr (β := β) (N := m.size) g 0 (Nat.lt_of_lt_of_le h hR.gsz)
  rw [h1, h2] at this
  exact this
 | func f => exact .func f _ _ _ _ rfl (fun i v v' e => by simp at e) rfl (fun i v v' e => by simp at e)
end Go.AM

/-! A4 -/
namespace Go.AM
section runs
variable {P : Program} {w : World}
/-- A type's row, off the list (quicker in the kernel than off the array). -/
def infoF (P : Program) (t : TypeId) : Option TypeInfo := P.types.toList[t]?
theorem infoF_spec {t : TypeId} {i : TypeInfo} (h : infoF P t = some i) : P.info? t = some i := by
 unfold infoF at h
 rw [Array.getElem?_toList] at h
 have hlt := (Array.getElem?_eq_some_iff.1 h).1
 unfold Tables.info?
 rw [if_pos hlt]; exact h
def undOf (P : Program) (t : TypeId) : Option TypeDesc :=
  match infoF P t with
  | some i => (match i.desc with
    | .named _ u => (infoF P u).map (·.desc)
    | d => some d)
  | none => none
theorem undOf_spec {t : TypeId} {d : TypeDesc} (h : undOf P t = some d) : P.underlying t = some d := by
 unfold undOf at h
 cases e : infoF P t with
 | none => rw [e] at h; cases h
 | some i =>
  rw [e] at h
  have hi := infoF_spec e
  unfold Program.underlying
  rw [hi]
  obtain ⟨desc, str, size, bytes, hp, al, fal, zero, cmp, ms⟩ := i
  cases desc with
  | named n u =>
   simp only at h ⊢
   cases e2 : infoF P u with
   | none => rw [e2] at h; cases h
   | some j => rw [e2] at h; rw [infoF_spec e2]; exact h
  | _ => exact h
theorem run_underlying {t : TypeId} {d : TypeDesc} (h : undOf P t = some d) : (underlying t).run P w = .ok d w := by simp [underlying, undOf_spec h]
theorem run_typeInfo {t : TypeId} {i : TypeInfo} (h : P.info? t = some i) : (typeInfo t).run P w = .ok i w := by simp [typeInfo, h]
def szOf (P : Program) (t : TypeId) : Option Nat := (infoF P t).map (·.size)
theorem run_sizeOf {t : TypeId} {n : Nat} (h : szOf P t = some n) : (sizeOf t).run P w = .ok n w := by
 unfold szOf at h
 cases e : infoF P t with
 | none => simp [e] at h
 | some i => simp [e] at h; subst h; simp [sizeOf, run_typeInfo (infoF_spec e)]
def isAggT (P : Program) (t : TypeId) : Option Bool :=
  match undOf P t with
  | some (.struct _) => some true
  | some (.array _ _) => some true
  | some _ => some false
  | none => none
theorem run_isAgg {t : TypeId} {b : Bool} (h : isAggT P t = some b) : (isAgg t).run P w = .ok b w := by
 unfold isAggT at h
 split at h
 ·rename_i e; simp at h; subst h; simp [isAgg, run_underlying e]
 ·rename_i e; simp at h; subst h; simp [isAgg, run_underlying e]
 ·rename_i d h1 h2 e
  simp at h; subst h
  simp only [isAgg, Sem.run_bind, run_underlying e, Result.andThen_ok]
  cases d <;> first | rfl | (exact absurd rfl (h1 _)) | (exact absurd rfl (h2 _ _))
 ·simp at h
def zeroOf (P : Program) (t : TypeId) : Option Value := (infoF P t).bind (·.zero)
theorem run_zeroValue {t : TypeId} {z : Value} (h : zeroOf P t = some z) : (zeroValue t).run P w = .ok z w := by
 unfold zeroOf at h
 cases e : infoF P t with
 | none => simp [e] at h
 | some i => simp [e] at h; simp [zeroValue, run_typeInfo (infoF_spec e), h]
end runs
def aPart (P : Program) (t : TypeId) (cs : Array Value) (off : Nat) : Option Value :=
  match isAggT P t, szOf P t with
  | some true, some s => some (.agg (cs.extract off (off + s)))
  | some false, _ => cs[off]?
  | _, _ => none
theorem run_part {P : Program} {β : Beta} {N : Nat} {w : World} {t : TypeId} {cs cs' : Array Value} {off : Nat} {v : Value} (hc : ARel β N cs cs') (h : aPart P t cs off = some v) :
  ∃ v', (part t cs' off).run P w = .ok v' w ∧ VRel β N v v' := by
 unfold aPart at h
 split at h
 ·rename_i s e1 e2
  injection h with h; subst h
  have hx := hc.extract off (off + s)
  exact ⟨_, by simp [part, run_isAgg e1, run_sizeOf e2], .agg _ _ hx.1 hx.2⟩
 ·rename_i e1
  obtain ⟨v', e', r⟩ := hc.get h
  exact ⟨v', by simp [part, run_isAgg e1, e'], r⟩
 ·simp at h
/-! ### Numbers, strings, bools -/
def aInt (op : BinOp) (k : IntKind) (a b : Int) : Option Value :=
  match op with
  | .add => some (.int k (k.wrap (a + b)))
  | .sub => some (.int k (k.wrap (a - b)))
  | .mul => some (.int k (k.wrap (a * b)))
  | .quo => if b = 0 then none else some (.int k (k.wrap (a.tdiv b)))
  | .rem => if b = 0 then none else some (.int k (a.tmod b))
  | .and => some (.int k (k.wrap (BitVec.ofInt k.bits a &&& BitVec.ofInt k.bits b).toNat))
  | .or => some (.int k (k.wrap (BitVec.ofInt k.bits a ||| BitVec.ofInt k.bits b).toNat))
  | .xor => some (.int k (k.wrap (BitVec.ofInt k.bits a ^^^ BitVec.ofInt k.bits b).toNat))
  | .andNot => some (.int k (k.wrap (BitVec.ofInt k.bits a &&& ~~~ BitVec.ofInt k.bits b).toNat))
  | .shl => if b < 0 then none else some (.int k (k.wrap (a * 2 ^ min b.toNat k.bits)))
  | .shr => if b < 0 then none else some (.int k (a.fdiv (2 ^ min b.toNat k.bits)))
  | .eql => some (.bool (a == b))
  | .neq => some (.bool (a != b))
  | .lss => some (.bool (a < b))
  | .leq => some (.bool (a ≤ b))
  | .gtr => some (.bool (a > b))
  | .geq => some (.bool (a ≥ b))
def aStr (op : BinOp) (x y : ByteArray) : Option Value :=
  match op with
  | .add => if x.size + y.size ≤ 4611686018427387904 then some (.string (x ++ y)) else none
  | .eql => some (.bool (x.toList == y.toList))
  | .neq => some (.bool !(x.toList == y.toList))
  | .lss => some (.bool (Op.bytesLess x.toList y.toList))
  | .leq => some (.bool (Op.bytesLess x.toList y.toList || x.toList == y.toList))
  | .gtr => some (.bool !(Op.bytesLess x.toList y.toList || x.toList == y.toList))
  | .geq => some (.bool !(Op.bytesLess x.toList y.toList))
  | _ => none
/-- '==' of two values, neither of which is made of parts. -/
def aEq0 (d : TypeDesc) (x y : Value) : Option Bool :=
  match d, x, y with
  | .bool, .bool a, .bool b => some (a == b)
  | .int _, .int k a, .int k' b => if k = k' then some (a == b) else none
  | .string, .string a, .string b => some (a == b)
  | .pointer _, .pointer none, .pointer b => some b.isNone
  | .pointer _, .pointer (some _), .pointer none => some false
  | .slice _, .slice none _ _, .slice b _ _ => some b.isNone
  | .slice _, .slice (some _) _ _, .slice none _ _ => some false
  | .map _ _, .map none, .map b => some b.isNone
  | .map _ _, .map (some _), .map none => some false
  | .func _ _ _, .nilFunc, .nilFunc => some true
  | .func _ _ _, .nilFunc, .func _ _ _ => some false
  | .func _ _ _, .func _ _ _, .nilFunc => some false
  | _, _, _ => none
def aEqFields (E : TypeId → Value → Value → Option Bool) (P : Program) : List Field → Array Value → Array Value → Option Bool
  | [], _, _ => some true
  | f :: fs, xs, ys =>
    if f.name ≠ "_" then
      match aPart P f.type xs f.offset, aPart P f.type ys f.offset with
      | some a, some b =>
        match E f.type a b with
        | some true => aEqFields E P fs xs ys
        | some false => some false
        | none => none
      | _, _ => none
    else aEqFields E P fs xs ys
def aEqElems (E : TypeId → Value → Value → Option Bool) (P : Program) (elem : TypeId) (n : Nat) : Nat → Nat → Array Value → Array Value → Option Bool
  | 0, _, _, _ => some true
  | k + 1, i, xs, ys =>
    match aPart P elem xs (i * n), aPart P elem ys (i * n) with
    | some a, some b =>
      match E elem a b with
      | some true => aEqElems E P elem n k (i + 1) xs ys
      | some false => some false
      | none => none
    | _, _ => none
/-- '==' as the model has it, part by part. -/
def aEq (P : Program) : Nat → TypeId → Value → Value → Option Bool
  | 0, _, _, _ => none
  | d + 1, t, x, y =>
    match undOf P t, x, y with
    | some (.struct fields), .agg xs, .agg ys => if P.stoodInHeld t then none else aEqFields (aEq P d) P fields.toList xs ys
    | some (.array len elem), .agg xs, .agg ys =>
      match szOf P elem with
      | some n => aEqElems (aEq P d) P elem n len 0 xs ys
      | none => none
    | some u, x, y => aEq0 u x y
    | none, _, _ => none
theorem aEq0_sound {P : Program} {β : Beta} {N : Nat} {w : World} {d : Nat} {t : TypeId} {u : TypeDesc} {x y x' y' : Value} {b : Bool}
    (hu : undOf P t = some u) (hx : VRel β N x x') (hy : VRel β N y y') (h : aEq0 u x y = some b) : (Op.equalIn (d + 1) t x' y').run P w = .ok b w := by
  have go : ∀ f : TypeDesc → Sem Bool, Op.equalIn (d + 1) t x' y' = underlying t >>= f → (Op.equalIn (d + 1) t x' y').run P w = (f u).run P w := by
    intro f e
    rw [e, Sem.run_bind, run_underlying hu]; rfl
  have g := go _ rfl
  rw [g]; clear g go
  unfold aEq0 at h
  split at h <;> first
    | (cases h; done)
    | (injection h with h; subst h; cases hx <;> cases hy <;> rfl)
    | (split at h
       · injection h with h; subst h; cases hx; cases hy; simp_all
       · cases h)
theorem range_forIn {β : Type} (n : Nat) (i : β) (body : Nat → β → Sem (ForInStep β)) : (forIn [:n] i body : Sem β) = forIn (List.range' 0 n 1) i body := by
 rw [Std.Legacy.Range.forIn_eq_forIn_range']; simp [Std.Legacy.Range.size]
def EqOk (P : Program) (w : World) (d : Nat) : Prop := ∀ (β : Beta) (N : Nat) t x y x' y' b, VRel β N x x' → VRel β N y y' → aEq P d t x y = some b → ∀ D, d ≤ D → (Op.equalIn D t x' y').run P w = .ok b w
theorem aEqFields_sound {P : Program} {w : World} {d D : Nat} (ih : EqOk P w d) (hD : d ≤ D) {β : Beta} {N : Nat} {xs ys xs' ys' : Array Value} (hx : ARel β N xs xs') (hy : ARel β N ys ys')
  (body : Field → Option Bool × Unit → Sem (ForInStep (Option Bool × Unit)))
  (hb : ∀ f, body f (none, ()) = if f.name ≠ "_" then (do
    let a ← part f.type xs' f.offset
    let c ← part f.type ys' f.offset
    let e ← Op.equalIn D f.type a c
    if (!e) = true then pure (ForInStep.done (some false, ())) else pure (ForInStep.yield (none, ()))) else pure (ForInStep.yield (none, ()))) :
  ∀ (fs : List Field) (b : Bool), aEqFields (aEq P d) P fs xs ys = some b → (forIn fs (none, ()) body : Sem (Option Bool × Unit)).run P w = .ok (if b then none else some false, ()) w
 | [], b, h => by simp [aEqFields] at h; subst h; rfl
 | f :: fs, b, h => by
  rw [List.forIn_cons, Sem.run_bind, hb f]
  unfold aEqFields at h
  by_cases hn : f.name ≠ "_"
  ·rw [if_pos hn] at h ⊢
   cases e1 : aPart P f.type xs f.offset with
   | none => simp [e1] at h
   | some a =>
    cases e2 : aPart P f.type ys f.offset with
    | none => simp [e1, e2] at h
    | some c =>
     obtain ⟨a', ra, va⟩ := run_part (P := P) (w := w) hx e1
     obtain ⟨c', rc, vc⟩ := run_part (P := P) (w := w) hy e2
     cases e3 : aEq P d f.type a c with
     | none => simp [e1, e2, e3] at h
     | some q =>
      have hq := ih _ _ _ _ _ _ _ _ va vc e3 D hD
      cases q with
      | true =>
       simp only [e1, e2, e3] at h
       simp [ra, rc, hq]
       exact aEqFields_sound ih hD hx hy body hb fs b h
      | false =>
       simp only [e1, e2, e3] at h
       injection h with h; subst h
       simp [ra, rc, hq]
  ·rw [if_neg hn] at h ⊢
   simp only [Sem.run_pure, Result.andThen_ok]
   exact aEqFields_sound ih hD hx hy body hb fs b h
theorem aEqElems_sound {P : Program} {w : World} {d D : Nat} (ih : EqOk P w d) (hD : d ≤ D) {β : Beta} {N : Nat} {xs ys xs' ys' : Array Value} (hx : ARel β N xs xs') (hy : ARel β N ys ys') {elem : TypeId} {n : Nat}
  (body : Nat → Option Bool × Unit → Sem (ForInStep (Option Bool × Unit)))
  (hb : ∀ i, body i (none, ()) = (do
    let a ← part elem xs' (i * n)
    let c ← part elem ys' (i * n)
    let e ← Op.equalIn D elem a c
    if (!e) = true then pure (ForInStep.done (some false, ())) else pure (ForInStep.yield (none, ())))) :
  ∀ (k i : Nat) (b : Bool), aEqElems (aEq P d) P elem n k i xs ys = some b → (forIn (List.range' i k 1) (none, ()) body : Sem (Option Bool × Unit)).run P w = .ok (if b then none else some false, ()) w
 | 0, i, b, h => by simp [aEqElems] at h; subst h; rfl
 | k + 1, i, b, h => by
  rw [List.range'_succ, List.forIn_cons, Sem.run_bind, hb i]
  unfold aEqElems at h
  cases e1 : aPart P elem xs (i * n) with
  | none => simp [e1] at h
  | some a =>
   cases e2 : aPart P elem ys (i * n) with
   | none => simp [e1, e2] at h
   | some c =>
    obtain ⟨a', ra, va⟩ := run_part (P := P) (w := w) hx e1
    obtain ⟨c', rc, vc⟩ := run_part (P := P) (w := w) hy e2
    cases e3 : aEq P d elem a c with
    | none => simp [e1, e2, e3] at h
    | some q =>
     have hq := ih _ _ _ _ _ _ _ _ va vc e3 D hD
     cases q with
     | true =>
      simp only [e1, e2, e3] at h
      simp [ra, rc, hq]
      exact aEqElems_sound ih hD hx hy body hb k (i + 1) b h
     | false =>
      simp only [e1, e2, e3] at h
      injection h with h; subst h
      simp [ra, rc, hq]
theorem aEq_sound {P : Program} {w : World} : ∀ d, EqOk P w d
 | 0 => fun β N t x y x' y' b _ _ h => by simp [aEq] at h
 | d + 1 => fun β N t x y x' y' b hx hy h D hD => by
  have ih := aEq_sound (P := P) (w := w) d
  obtain ⟨D, rfl⟩ : ∃ k, D = k + 1 := ⟨D - 1, by omega⟩
  unfold aEq at h
  split at h
  ·rename_i u fields xs ys hu
   cases hx with
   | agg _ xs' h1 h2 => cases hy with
    | agg _ ys' h3 h4 =>
     split at h
     ·cases h
     ·rename_i hst
      have hst : P.stoodInHeld t = false := by simpa using hst
      have go : ∀ f : TypeDesc → Sem Bool, Op.equalIn (D + 1) t (.agg xs') (.agg ys') = underlying t >>= f → (Op.equalIn (D + 1) t (.agg xs') (.agg ys')).run P w = (f (.struct fields)).run P w := by
       intro f e
       rw [e, Sem.run_bind, run_underlying hu]; rfl
      have g := go _ rfl
      rw [g]; clear g go
      simp only [Sem.run_bind, run_program, Result.andThen_ok, hst, Bool.false_eq_true, if_false]
      rw [← Array.forIn_toList, aEqFields_sound ih (by omega) ⟨h1, h2⟩ ⟨h3, h4⟩ _ (fun f => rfl) fields.toList b h]
      cases b <;> rfl
  ·rename_i u len elem xs ys hu
   cases hx with
   | agg _ xs' h1 h2 => cases hy with
    | agg _ ys' h3 h4 =>
     split at h
     ·rename_i n hn
      have go : ∀ f : TypeDesc → Sem Bool, Op.equalIn (D + 1) t (.agg xs') (.agg ys') = underlying t >>= f → (Op.equalIn (D + 1) t (.agg xs') (.agg ys')).run P w = (f (.array len elem)).run P w := by
       intro f e
       rw [e, Sem.run_bind, run_underlying hu]; rfl
      have g := go _ rfl
      rw [g]; clear g go
      simp only [Sem.run_bind, run_sizeOf hn, Result.andThen_ok]
      rw [range_forIn, aEqElems_sound ih (by omega) ⟨h1, h2⟩ ⟨h3, h4⟩ _ (fun f => rfl) len 0 b h]
      cases b <;> rfl
     ·cases h
  ·rename_i u hu _ _
   exact aEq0_sound hu hx hy h
  ·cases h
end Go.AM

/-! A5 -/
namespace Go.AM
def eqDepth : Nat := 6
/-- What '==' is asked of, beside numbers and strings. -/
def eqAble (P : Program) (t : TypeId) : Value → Bool
  | .int _ _ | .string _ | .float _ _ | .complex _ _ _ | .nilIface => false
  | .agg _ => !P.eqGuardType P.depth t
  | _ => true
def aBin (P : Program) (op : BinOp) (t : TypeId) (x y : Value) : Option Value :=
  match x, y with
  | .int k a, .int k' b => if op = .shl ∨ op = .shr then aInt op k a b else if k = k' then aInt op k a b else none
  | .string a, .string b => aStr op a b
  | x, y =>
    if eqAble P t x then
      match op with
      | .eql => (aEq P eqDepth t x y).map .bool
      | .neq => (aEq P eqDepth t x y).map (fun b => .bool (!b))
      | _ => none
    else none
theorem int_ops {P : Program} {w : World} {op : BinOp} {t : TypeId} {k : IntKind} {a b : Int} {v : Value} (hs : op ≠ .shl) (hr : op ≠ .shr) (h : aInt op k a b = some v) :
    (binOp op t (.int k a) (.int k b)).run P w = .ok v w := by
  cases op <;> first
    | exact absurd rfl hs
    | exact absurd rfl hr
    | (simp only [aInt] at h; injection h with h; subst h; simp [binOp, Op.intArith, Op.intBits, Op.intCmp]; done)
    | (simp only [aInt] at h; split at h
       · cases h
       · injection h with h; subst h; simp [binOp, Op.intDiv, *])
theorem shift_ops {P : Program} {w : World} {t : TypeId} {k k' : IntKind} {a b : Int} {v : Value} {op : BinOp} (ho : op = .shl ∨ op = .shr) (h : aInt op k a b = some v) :
  (binOp op t (.int k a) (.int k' b)).run P w = .ok v w := by
 rcases ho with rfl | rfl <;> simp only [aInt] at h <;> split at h <;> first
  | (cases h; done)
  | (rename_i hb; injection h with h; subst h; simp [binOp, Op.shift, hb])
theorem str_ops {P : Program} {w : World} {op : BinOp} {t : TypeId} {a b : ByteArray} {v : Value} (h : aStr op a b = some v) :
    (binOp op t (.string a) (.string b)).run P w = .ok v w := by
  cases op <;> first
    | (simp [aStr] at h; done)
    | (simp only [aStr] at h; split at h
       · rename_i hl; injection h with h; subst h
         have : ¬ (((a.size + b.size : Nat) : Int) > IntKind.i64.max) := by
           have : IntKind.i64.max = 9223372036854775807 := by decide
           omega
         simp only [binOp, Op.stringOp, this, if_false, Sem.run_pure]
       · cases h)
    | (simp only [aStr] at h; injection h with h; subst h; simp [binOp, Op.stringOp]; done)
theorem eq_ops {P : Program} {β : Beta} {N : Nat} {w : World} {t : TypeId} {x y x' y' : Value} {b : Bool} (hx : VRel β N x x') (hy : VRel β N y y') (h : aEq P eqDepth t x y = some b) :
  (Op.equal t x' y').run P w = .ok b w := aEq_sound eqDepth _ _ _ _ _ _ _ _ hx hy h Op.maxDepth (by decide)
theorem guard_none {P : Program} {w : World} {op : BinOp} {t : TypeId} {x y : Operand} {a b : Value} (h1 : a ≠ .nilIface) (h2 : ∀ c d, a = .agg c → b = .agg d → (op = .eql ∨ op = .neq) → P.eqGuardType P.depth t = false) :
  (eqGuard op t x y a b).run P w = .ok () w := by
 have key : ∀ (c d : Array Value), P.eqGuardType P.depth t = false → (eqGuard .eql t x y (.agg c) (.agg d)).run P w = .ok () w ∧ (eqGuard .neq t x y (.agg c) (.agg d)).run P w = .ok () w := by
  intro c d h
  constructor <;> simp [eqGuard, h]
 cases op <;> first
  | rfl
  | (cases a <;> first
    | exact absurd rfl h1
    | rfl
    | (cases b <;> first
      | rfl
      | exact (key _ _ (h2 _ _ rfl rfl (by simp))).1
      | exact (key _ _ (h2 _ _ rfl rfl (by simp))).2))
theorem run_binOp_eql {P : Program} {w : World} {t : TypeId} {x y : Value} {b : Bool} (hi : ∀ k n, x ≠ .int k n) (hs : ∀ s, x ≠ .string s) (hf : ∀ k n, x ≠ .float k n) (hc : ∀ k n m, x ≠ .complex k n m) (h : (Op.equal t x y).run P w = .ok b w) :
  (binOp .eql t x y).run P w = .ok (.bool b) w ∧ (binOp .neq t x y).run P w = .ok (.bool (!b)) w := by
 cases x <;> first
  | exact absurd rfl (hi _ _)
  | exact absurd rfl (hs _)
  | exact absurd rfl (hf _ _)
  | exact absurd rfl (hc _ _ _)
  | (constructor <;> cases y <;> simp [binOp, h])
theorem aBin_sound {P : Program} {β : Beta} {N : Nat} {w : World} {op : BinOp} {t : TypeId} {X Y : Operand} {x y x' y' v : Value} (hx : VRel β N x x') (hy : VRel β N y y') (h : aBin P op t x y = some v) :
    ∃ v', ((do eqGuard op t X Y x' y'; binOp op t x' y' : Sem Value)).run P w = .ok v' w ∧ VRel β N v v' := by
  have int_flat : ∀ {op : BinOp} {k : IntKind} {a b : Int} {v : Value}, aInt op k a b = some v → VRel β N v v := by
    intro op k a b v h
    cases op <;> simp only [aInt] at h <;> first
      | (injection h with h; subst h; first | exact .int _ _ | exact .bool _)
      | (split at h
         · cases h
         · injection h with h; subst h; exact .int _ _)
  have str_flat : ∀ {op : BinOp} {a b : ByteArray} {v : Value}, aStr op a b = some v → VRel β N v v := by
    intro op a b v h
    cases op <;> simp only [aStr] at h <;> first
      | (cases h; done)
      | (injection h with h; subst h; exact .bool _)
      | (split at h
         · injection h with h; subst h; exact .string _
         · cases h)
  unfold aBin at h
  split at h
  · rename_i k a k' b
    cases hx; cases hy
    split at h
    · rename_i ho
      exact ⟨v, by rw [Sem.run_bind, guard_none (by simp) (by simp)]; exact shift_ops ho h, int_flat h⟩
    · rename_i ho
      split at h
      · rename_i hk; subst hk
        exact ⟨v, by rw [Sem.run_bind, guard_none (by simp) (by simp)]; exact int_ops (fun e => ho (.inl e)) (fun e => ho (.inr e)) h, int_flat h⟩
      · cases h
  · cases hx; cases hy
    exact ⟨v, by rw [Sem.run_bind, guard_none (by simp) (by simp)]; exact str_ops h, str_flat h⟩
  · split at h
    · rename_i hg
      have h1 : x' ≠ .nilIface := by rintro rfl; cases hx; simp [eqAble] at hg
      have h2 : ∀ c d, x' = .agg c → y' = .agg d → (op = .eql ∨ op = .neq) → P.eqGuardType P.depth t = false := by
        rintro c d rfl _ _; cases hx; simpa [eqAble] using hg
      have i1 : ∀ k n, x' ≠ .int k n := by rintro k n rfl; cases hx; simp [eqAble] at hg
      have i2 : ∀ s, x' ≠ .string s := by rintro s rfl; cases hx; simp [eqAble] at hg
      have i3 : ∀ k n, x' ≠ .float k n := by rintro k n rfl; cases hx
      have i4 : ∀ k n m, x' ≠ .complex k n m := by rintro k n m rfl; cases hx
      split at h
      · cases e : aEq P eqDepth t x y with
        | none => rw [e] at h; cases h
        | some b =>
          rw [e] at h; injection h with h; subst h
          exact ⟨_, by rw [Sem.run_bind, guard_none h1 h2]; exact (run_binOp_eql i1 i2 i3 i4 (eq_ops hx hy e)).1, .bool _⟩
      · cases e : aEq P eqDepth t x y with
        | none => rw [e] at h; cases h
        | some b =>
          rw [e] at h; injection h with h; subst h
          exact ⟨_, by rw [Sem.run_bind, guard_none h1 h2]; exact (run_binOp_eql i1 i2 i3 i4 (eq_ops hx hy e)).2, .bool _⟩
      · cases h
    · cases h
def aUn (op : UnOp) (x : Value) : Option Value :=
  match op, x with
  | .neg, .int k n => aInt .sub k 0 n
  | .xor, .int k n => aInt .xor k (if k.signed then -1 else k.max) n
  | .not, .bool b => some (.bool !b)
  | _, _ => none
theorem aUn_sound {P : Program} {β : Beta} {N : Nat} {w : World} {op : UnOp} {x x' v : Value} (hx : VRel β N x x') (h : aUn op x = some v) :
  ∃ v', (Op.unary op x').run P w = .ok v' w ∧ VRel β N v v' := by
 unfold aUn at h
 split at h
 ·cases hx; simp only [aInt] at h; injection h with h; subst h
  exact ⟨_, by simp [Op.unary, Op.intArith], .int _ _⟩
 ·cases hx; simp only [aInt] at h; injection h with h; subst h
  exact ⟨_, by simp [Op.unary, Op.intBits], .int _ _⟩
 ·cases hx; injection h with h; subst h
  exact ⟨_, by simp [Op.unary], .bool _⟩
 ·cases h
def aConv (P : Program) (src dst : TypeId) (x : Value) : Option Value :=
  match undOf P src, undOf P dst, x with
  | some _, some (.int k), .int _ n => some (.int k (k.wrap n))
  | some _, some .string, .string s => some (.string s)
  | _, _, _ => none
theorem aConv_sound {P : Program} {β : Beta} {N : Nat} {w : World} {src dst : TypeId} {x x' v : Value} (hx : VRel β N x x') (h : aConv P src dst x = some v) :
  ∃ v', (convert src dst x').run P w = .ok v' w ∧ VRel β N v v' := by
 unfold aConv at h
 split at h
 ·rename_i e1 e2; cases hx; injection h with h; subst h
  exact ⟨_, by simp [convert, run_underlying e1, run_underlying e2, Conv.intToInt], .int _ _⟩
 ·rename_i e1 e2; cases hx; injection h with h; subst h
  exact ⟨_, by simp [convert, run_underlying e1, run_underlying e2], .string _⟩
 ·cases h
/-! ### Parts and places -/
def aField (P : Program) (t : TypeId) (x : Value) (f : Nat) : Option Value :=
  match undOf P t, x with
  | some (.struct fields), .agg cs => match fields[f]? with
    | some fl => aPart P fl.type cs fl.offset
    | none => none
  | _, _ => none
theorem aField_sound {P : Program} {β : Beta} {N : Nat} {w : World} {t : TypeId} {f : Nat} {x x' v : Value} (hx : VRel β N x x') (h : aField P t x f = some v) :
  ∃ v', (Instr.field t x' f).run P w = .ok v' w ∧ VRel β N v v' := by
 unfold aField at h
 split at h
 ·rename_i fields cs e1
  cases hx with
  | agg _ c' h1 h2 =>
   split at h
   ·rename_i fl e2
    obtain ⟨v', r, hv⟩ := run_part (P := P) (w := w) ⟨h1, h2⟩ h
    exact ⟨v', by simp [Instr.field, run_underlying e1, e2, asAgg, r], hv⟩
   ·cases h
 ·cases h
def aFieldAddr (P : Program) (t : TypeId) (x : Value) (f : Nat) : Option Value :=
  match undOf P t, x with
  | some (.struct fields), .pointer (some ⟨b, o, none⟩) => match fields[f]? with
    | some fl => match szOf P fl.type with
      | some 0 => none
      | some _ => some (.pointer (some ⟨b, o + fl.offset, none⟩))
      | none => none
    | none => none
  | _, _ => none
theorem add_none (b o n : Nat) : (⟨b, o, none⟩ : Addr).add n = ⟨b, o + n, none⟩ := by
 unfold Addr.add; split
 ·subst_vars; rfl
 ·rfl
theorem aFieldAddr_sound {P : Program} {β : Beta} {N : Nat} {w : World} {t : TypeId} {f : Nat} {x x' v : Value} (hx : VRel β N x x') (h : aFieldAddr P t x f = some v) :
  ∃ v', (Instr.fieldAt t x' f).run P w = .ok v' w ∧ VRel β N v v' := by
 unfold aFieldAddr at h
 split at h
 ·rename_i fields b o e1
  cases hx with
  | ptr _ _ hb =>
   split at h
   ·rename_i fl e2
    split at h
    ·cases h
    ·rename_i n h0 e3
     injection h with h; subst h
     have hn : n ≠ 0 := fun e => h0 (by rw [e])
     refine ⟨_, ?_, VRel.ptr (β := β) (N := N) b (o + fl.offset) hb⟩
     simp [Instr.fieldAt, run_underlying e1, e2, Instr.sureAddr, fieldPlace, run_sizeOf e3, hn, add_none, Nat.add_assoc]
    ·cases h
   ·cases h
 ·cases h
def aIndexAddr (P : Program) (t : TypeId) (x ix : Value) : Option Value :=
  match ix with
  | .int _ i =>
    match undOf P t, x with
    | some (.array len elem), .pointer (some ⟨b, o, none⟩) =>
      match szOf P elem with
      | some s => if 0 ≤ i ∧ i < len then some (.pointer (some ⟨b, o + i.toNat * s, none⟩)) else none
      | none => none
    | some (.slice elem), .slice (some ⟨b, o, some _⟩) len _ =>
      match szOf P elem with
      | some s => if 0 ≤ i ∧ i < len then some (.pointer (some ⟨b, o + i.toNat * s, none⟩)) else none
      | none => none
    | _, _ => none
  | _ => none
theorem aIndexAddr_sound {P : Program} {β : Beta} {N : Nat} {w : World} {t : TypeId} {x ix x' ix' v : Value} (hx : VRel β N x x') (hi : VRel β N ix ix') (h : aIndexAddr P t x ix = some v) :
  ∃ v', (Instr.indexAt t x' ix').run P w = .ok v' w ∧ VRel β N v v' := by
 unfold aIndexAddr at h
 split at h
 ·rename_i k i
  cases hi
  split at h
  ·rename_i len elem b o e1
   cases hx with
   | ptr _ _ hb =>
    split at h
    ·rename_i s e2
     split at h
     ·rename_i hr
      injection h with h; subst h
      refine ⟨_, ?_, VRel.ptr (β := β) (N := N) b (o + i.toNat * s) hb⟩
      simp [Instr.indexAt, asIntOf, run_underlying e1, Instr.sureAddr, hr.1, hr.2, run_sizeOf e2, add_none, Nat.add_assoc]
     ·cases h
    ·cases h
  ·rename_i elem b o sz len cap e1
   cases hx with
   | slice _ _ _ _ _ cap' hb hz hl hc hbd hm63 =>
    split at h
    ·rename_i s e2
     split at h
     ·rename_i hr
      injection h with h; subst h
      refine ⟨_, ?_, VRel.ptr (β := β) (N := N) b (o + i.toNat * s) hb⟩
      simp [Instr.indexAt, asIntOf, run_underlying e1, Instr.sureAddr, hr.1, hr.2, run_sizeOf e2, add_none, Nat.add_assoc]
     ·cases h
    ·cases h
  ·cases h
 ·cases h
def aIndex (P : Program) (t : TypeId) (x ix : Value) : Option Value :=
  match ix with
  | .int _ i =>
    match undOf P t, x with
    | some (.array len elem), .agg cs =>
      match szOf P elem with
      | some s => if 0 ≤ i ∧ i < len then aPart P elem cs (i.toNat * s) else none
      | none => none
    | some .string, .string s => if 0 ≤ i then (s[i.toNat]?).map (fun b => .int .u8 b.toNat) else none
    | _, _ => none
  | _ => none
theorem aIndex_sound {P : Program} {β : Beta} {N : Nat} {w : World} {t : TypeId} {x ix x' ix' v : Value} (hx : VRel β N x x') (hi : VRel β N ix ix') (h : aIndex P t x ix = some v) :
  ∃ v', (Instr.index t x' ix').run P w = .ok v' w ∧ VRel β N v v' := by
 unfold aIndex at h
 split at h
 ·rename_i k i
  cases hi
  split at h
  ·rename_i len elem cs e1
   cases hx with
   | agg _ c' h1 h2 =>
    split at h
    ·rename_i s e2
     split at h
     ·rename_i hr
      obtain ⟨v', r, hv⟩ := run_part (P := P) (w := w) ⟨h1, h2⟩ h
      exact ⟨v', by simp [Instr.index, asIntOf, run_underlying e1, hr.1, hr.2, run_sizeOf e2, r], hv⟩
     ·cases h
    ·cases h
  ·rename_i s e1
   cases hx
   split at h
   ·rename_i h0
    cases e : s[i.toNat]? with
    | none => rw [e] at h; cases h
    | some c =>
     rw [e] at h; injection h with h; subst h
     exact ⟨_, by simp [Instr.index, asIntOf, run_underlying e1, h0, e], .int _ _⟩
   ·cases h
  ·cases h
 ·cases h
end Go.AM

/-! A6 -/
namespace Go.AM
/-! ### Slice expressions -/
def aBound (x : Value) (y : Nat) : Option Nat :=
  match x with
  | .int _ i => if 0 ≤ i ∧ i ≤ y then some i.toNat else none
  | _ => none
theorem aBound_sound {P : Program} {β : Beta} {N : Nat} {w : World} {x x' : Value} {y y' n : Nat} {code : BoundsCode} (hx : VRel β N x x') (hy : y ≤ y') (h : aBound x y = some n) :
  (Instr.sliceBound x' y' code).run P w = .ok n w ∧ n ≤ y := by
 unfold aBound at h
 split at h
 ·rename_i k i
  cases hx
  split at h
  ·rename_i hr
   injection h with h; subst h
   have h1 : 0 ≤ i ∧ i ≤ (y' : Int) := ⟨hr.1, by omega⟩
   exact ⟨by simp [Instr.sliceBound, asIntOf, h1], by omega⟩
  ·cases h
 ·cases h
/-- Bounds: low, high, the capacity's end (if it is told). -/
def aBounds (len cap : Nat) (lo hi mx : Option Value) : Option (Nat × Nat × Nat) :=
  match mx with
  | none =>
    match hi with
    | none => match lo with
      | none => some (0, len, cap)
      | some l => (aBound l len).map fun l => (l, len, cap)
    | some h => match aBound h cap with
      | none => none
      | some h => match lo with
        | none => some (0, h, cap)
        | some l => (aBound l h).map fun l => (l, h, cap)
  | some m => match aBound m cap with
    | none => none
    | some m => match hi with
      | none => none
      | some h => match aBound h m with
        | none => none
        | some h => match lo with
          | none => some (0, h, m)
          | some l => (aBound l h).map fun l => (l, h, m)
def ORel (β : Beta) (N : Nat) : Option Value → Option Value → Prop
  | none, none => True
  | some x, some x' => VRel β N x x'
  | _, _ => False
theorem aBounds_sound {P : Program} {β : Beta} {N : Nat} {w : World} {len cap cap' l h m : Nat} {lo hi mx lo' hi' mx' : Option Value} {isS : Bool}
  (h1 : ORel β N lo lo') (h2 : ORel β N hi hi') (h3 : ORel β N mx mx') (hl : len ≤ cap) (hc : cap ≤ cap') (e : aBounds len cap lo hi mx = some (l, h, m)) :
  ∃ m', (Instr.sliceBounds isS len cap' lo' hi' mx').run P w = .ok (l, h, m') w ∧ l ≤ h ∧ h ≤ m ∧ m ≤ cap ∧ ((mx = none ∧ m = cap ∧ m' = cap') ∨ m' = m) := by
 unfold aBounds at e
 split at e
 ·cases mx' with
  | some _ => exact h3.elim
  | none =>
   split at e
   ·cases hi' with
    | some _ => exact h2.elim
    | none =>
     split at e
     ·cases lo' with
      | some _ => exact h1.elim
      | none =>
       injection e with e; injection e with e1 e2; injection e2 with e2 e3; subst e1 e2 e3
       exact ⟨cap', by simp [Instr.sliceBounds], by omega, hl, Nat.le_refl _, .inl ⟨rfl, rfl, rfl⟩⟩
     ·rename_i l0
      cases lo' with
      | none => exact h1.elim
      | some l0' =>
       cases e1 : aBound l0 len with
       | none => rw [e1] at e; cases e
       | some n =>
        rw [e1] at e; injection e with e; injection e with e2 e3; injection e3 with e3 e4; subst e2 e3 e4
        obtain ⟨r, hn⟩ := aBound_sound (P := P) (w := w) (code := .sliceB) h1 (Nat.le_refl _) e1
        exact ⟨cap', by simp [Instr.sliceBounds, r], hn, hl, Nat.le_refl _, .inl ⟨rfl, rfl, rfl⟩⟩
   ·rename_i h0
    cases hi' with
    | none => exact h2.elim
    | some h0' =>
     split at e
     ·cases e
     ·rename_i n en
      obtain ⟨r, hn⟩ := aBound_sound (P := P) (w := w) (code := if isS then .sliceAcap else .sliceAlen) h2 hc en
      split at e
      ·cases lo' with
       | some _ => exact h1.elim
       | none =>
        injection e with e; injection e with e1 e2; injection e2 with e2 e3; subst e1 e2 e3
        exact ⟨cap', by simp [Instr.sliceBounds, r], by omega, hn, Nat.le_refl _, .inl ⟨rfl, rfl, rfl⟩⟩
      ·rename_i l0
       cases lo' with
       | none => exact h1.elim
       | some l0' =>
        cases e1 : aBound l0 n with
        | none => rw [e1] at e; cases e
        | some q =>
         rw [e1] at e; injection e with e; injection e with e2 e3; injection e3 with e3 e4; subst e2 e3 e4
         obtain ⟨r2, hq⟩ := aBound_sound (P := P) (w := w) (code := .sliceB) h1 (Nat.le_refl _) e1
         exact ⟨cap', by simp [Instr.sliceBounds, r, r2], hq, hn, Nat.le_refl _, .inl ⟨rfl, rfl, rfl⟩⟩
 ·rename_i m0
  cases mx' with
  | none => exact h3.elim
  | some m0' =>
   split at e
   ·cases e
   ·rename_i mm em
    obtain ⟨r0, hm⟩ := aBound_sound (P := P) (w := w) (code := if isS then .slice3Acap else .slice3Alen) h3 hc em
    split at e
    ·cases e
    ·rename_i h0
     cases hi' with
     | none => exact h2.elim
     | some h0' =>
      split at e
      ·cases e
      ·rename_i n en
       obtain ⟨r, hn⟩ := aBound_sound (P := P) (w := w) (code := .slice3B) h2 (Nat.le_refl _) en
       split at e
       ·cases lo' with
        | some _ => exact h1.elim
        | none =>
         injection e with e; injection e with e1 e2; injection e2 with e2 e3; subst e1 e2 e3
         exact ⟨mm, by simp [Instr.sliceBounds, r0, r], by omega, hn, hm, .inr rfl⟩
       ·rename_i l0
        cases lo' with
        | none => exact h1.elim
        | some l0' =>
         cases e1 : aBound l0 n with
         | none => rw [e1] at e; cases e
         | some q =>
          rw [e1] at e; injection e with e; injection e with e2 e3; injection e3 with e3 e4; subst e2 e3 e4
          obtain ⟨r2, hq⟩ := aBound_sound (P := P) (w := w) (code := .slice3C) h1 (Nat.le_refl _) e1
          exact ⟨mm, by simp [Instr.sliceBounds, r0, r, r2], hq, hn, hm, .inr rfl⟩
/-- A slice of an array's cells: where it lies. -/
def cut (ex : Bool) (b o sz l h m : Nat) : Value :=
  if ex = true ∧ m = l then .slice (some ⟨0, 1, none⟩) 0 0 else
  if m = l ∧ l ≠ 0 then .slice (some ⟨0, 0, none⟩) 0 0 else .slice (some ⟨b, o + l * sz, some sz⟩) (h - l) (m - l)
def aSlice (P : Program) (m : Mem) (t : TypeId) (x : Value) (lo hi mx : Option Value) : Option Value :=
  match undOf P t, x with
  | some .string, .string s => match mx with
    | none => (aBounds s.size s.size lo hi none).map fun (l, h, _) => .string (s.extract l h)
    | some _ => none
  | some (.slice elem), .slice (some ⟨b, o, some sz⟩) len cap =>
    if szOf P elem = some sz then (aBounds len cap lo hi mx).map fun (l, h, m) => cut mx.isSome b o sz l h m else none
  | some (.slice elem), .slice none 0 0 => match szOf P elem with
    | some _ => (aBounds 0 0 lo hi mx).map fun _ => .slice none 0 0
    | none => none
  | some (.slice elem), .slice (some ⟨b, o, none⟩) 0 0 => match szOf P elem, mx with
    | some _, none => (aBounds 0 0 lo hi none).map fun _ => .slice (some ⟨0, 0, none⟩) 0 0
    | _, _ => none
  | some (.array n elem), .pointer (some ⟨b, o, none⟩) => match szOf P elem, Mem.get m b with
    | some (sz + 1), .cells _ c => if o + n * (sz + 1) ≤ c.size ∧ n ≤ 1099511627776 then (aBounds n n lo hi mx).map fun (l, h, m) => cut mx.isSome b o (sz + 1) l h m else none
    | _, _ => none
  | _, _ => none
theorem cut_rel {β : Beta} {N : Nat} {b o sz l h m m' : Nat} (ex : Bool) (hex : ex = true → m' = m) (hb : b < N) (hz : 0 < sz) (hlh : l ≤ h) (hhm : h ≤ m) (hm : m ≤ m') (hbd : β.sh b + o + m' * sz ≤ β.cap b) (h63 : m' < 9223372036854775808) :
  VRel β N (cut ex b o sz l h m) (.slice (some (if m' = l then ⟨β.blk b, β.sh b + o, none⟩ else (⟨β.blk b, β.sh b + o, none⟩ : Addr).add (l * sz))) (h - l) (m' - l)) := by
 unfold cut
 split
 ·rename_i hc
  have h0 : h - l = 0 := by omega
  have h1 : m' - l = 0 := by have := hex hc.1; omega
  rw [h0, h1]
  exact .empty 0 _ trivial
 split
 ·rename_i hc
  have : h - l = 0 := by omega
  rw [this]
  exact .lost 0 _ _ trivial
 ·rename_i hc
  have key : β.sh b + (o + l * sz) + (m' - l) * sz ≤ β.cap b := by
   have : (m' - l) * sz + l * sz = m' * sz := by rw [← Nat.add_mul]; congr 1; omega
   omega
  by_cases he : m' = l
  ·have hl : l = 0 := by
    rcases Nat.eq_zero_or_pos l with h0 | h0
    ·exact h0
    ·exact absurd ⟨by omega, by omega⟩ hc
   subst hl
   simp only [he, if_true, Nat.zero_mul, Nat.add_zero, Nat.sub_zero]
   have hh : h = 0 := by omega
   have hm0 : m = 0 := by omega
   subst hh hm0
   exact .slice b o sz 0 0 0 hb hz (Nat.le_refl _) (Nat.le_refl _) (by omega) (by omega)
  ·simp only [he, if_false, add_none, Nat.add_assoc]
   exact .slice b (o + l * sz) sz (h - l) (m - l) (m' - l) hb hz (by omega) (by omega) key (by omega)
theorem aSlice_sound {P : Program} {β : Beta} {m : Mem} {w : World} {t : TypeId} {x x' v : Value} {lo hi mx lo' hi' mx' : Option Value} (hR : Rel P β m w) (hx : VRel β m.size x x')
  (h1 : ORel β m.size lo lo') (h2 : ORel β m.size hi hi') (h3 : ORel β m.size mx mx') (h : aSlice P m t x lo hi mx = some v) :
  ∃ v', (Instr.sliceAt t x' lo' hi' mx').run P w = .ok v' w ∧ VRel β m.size v v' := by
 unfold aSlice at h
 split at h
 ·rename_i s e1
  cases hx
  split at h
  ·cases mx' with
   | some _ => exact h3.elim
   | none =>
    cases e : aBounds s.size s.size lo hi none with
    | none => rw [e] at h; cases h
    | some q =>
     obtain ⟨l, hh, mm⟩ := q
     rw [e] at h; injection h with h; subst h
     obtain ⟨m', r, _⟩ := aBounds_sound (P := P) (w := w) (isS := false) h1 h2 (show ORel β m.size none none from trivial) (Nat.le_refl _) (Nat.le_refl _) e
     exact ⟨_, by simp [Instr.sliceAt, Instr.slice, run_underlying e1, r], .string _⟩
  ·cases h
 ·rename_i elem b o sz len cap e1
  cases hx with
  | slice _ _ _ _ _ cap' hb hz hl hc hbd hm63 =>
   split at h
   ·rename_i hsz
    cases e : aBounds len cap lo hi mx with
    | none => rw [e] at h; cases h
    | some q =>
     obtain ⟨l, hh, mm⟩ := q
     rw [e] at h; injection h with h; subst h
     obtain ⟨m', r, hlh, hhm, hmc, hm'⟩ := aBounds_sound (P := P) (w := w) (isS := true) h1 h2 h3 hl hc e
     have hmm : mm ≤ m' := by rcases hm' with ⟨_, _, _⟩ | _ <;> omega
     have hmc' : m' ≤ cap' := by rcases hm' with ⟨_, _, _⟩ | _ <;> omega
     refine ⟨_, ?_, cut_rel (m' := m') mx.isSome (fun he => by rcases hm' with ⟨h0, _, _⟩ | h0; (rw [h0] at he; cases he); exact h0) hb hz hlh hhm hmm (Nat.le_trans (by have := Nat.mul_le_mul_right sz hmc'; omega) hbd) (by omega)⟩
     simp [Instr.sliceAt, Instr.slice, run_underlying e1, r, run_sizeOf hsz]
     split <;> simp_all
   ·cases h
 ·rename_i elem e1
  cases hx
  split at h
  ·rename_i s e2
   cases e : aBounds 0 0 lo hi mx with
   | none => rw [e] at h; cases h
   | some q =>
    obtain ⟨l, hh, mm⟩ := q
    rw [e] at h; injection h with h; subst h
    obtain ⟨m', r, hlh, hhm, hmc, hm'⟩ := aBounds_sound (P := P) (w := w) (isS := true) h1 h2 h3 (Nat.le_refl _) (Nat.le_refl 0) e
    have hm0 : m' = 0 := by rcases hm' with ⟨_, _, _⟩ | _ <;> omega
    have hl0 : l = 0 := by omega
    have hh0 : hh = 0 := by omega
    subst hm0 hl0 hh0
    exact ⟨_, by simp [Instr.sliceAt, Instr.slice, run_underlying e1, r, run_sizeOf e2], .sliceNil⟩
  ·cases h
 ·rename_i elem b o e1
  split at h
  ·rename_i s e2
   cases mx' with
   | some _ => exact h3.elim
   | none =>
    cases e : aBounds 0 0 lo hi none with
    | none => rw [e] at h; cases h
    | some q =>
     obtain ⟨l, hh, mm⟩ := q
     rw [e] at h; injection h with h; subst h
     cases hx with
     | lost _ a' cap' ha =>
      obtain ⟨m', r, hlh, hhm, hmc, hm'⟩ := aBounds_sound (P := P) (w := w) (isS := true) (cap' := cap') h1 h2 (show ORel β m.size none none from trivial) (Nat.le_refl _) (Nat.zero_le _) e
      have hl0 : l = 0 := by omega
      have hh0 : hh = 0 := by omega
      subst hl0 hh0
      exact ⟨.slice (some a') 0 m', by simp [Instr.sliceAt, Instr.slice, run_underlying e1, r, run_sizeOf e2, Addr.add], .lost 0 _ _ ha⟩
     | empty _ a' ha =>
      obtain ⟨m', r, hlh, hhm, hmc, hm'⟩ := aBounds_sound (P := P) (w := w) (isS := true) (cap' := 0) h1 h2 (show ORel β m.size none none from trivial) (Nat.le_refl _) (Nat.le_refl 0) e
      have hl0 : l = 0 := by omega
      have hh0 : hh = 0 := by omega
      subst hl0 hh0
      exact ⟨.slice (some a') 0 m', by simp [Instr.sliceAt, Instr.slice, run_underlying e1, r, run_sizeOf e2, Addr.add], .lost 0 _ _ ha⟩
  ·cases h
 ·rename_i n elem b o e1
  cases hx with
  | ptr _ _ hb =>
   split at h
   ·rename_i sz rr c e2 e3
    split at h
    ·rename_i hle
     cases e : aBounds n n lo hi mx with
     | none => rw [e] at h; cases h
     | some q =>
      obtain ⟨l, hh, mm⟩ := q
      rw [e] at h; injection h with h; subst h
      obtain ⟨m', r, hlh, hhm, hmc, hm'⟩ := aBounds_sound (P := P) (w := w) (isS := false) h1 h2 h3 (Nat.le_refl _) (Nat.le_refl _) e
      have hmm : m' = mm := by rcases hm' with ⟨_, _, _⟩ | _ <;> omega
      subst hmm
      obtain ⟨c', e', fz, _, hcap, _⟩ := hR.cells b rr c e3
      refine ⟨_, ?_, cut_rel (m' := m') mx.isSome (fun _ => rfl) hb (Nat.succ_pos _) hlh hhm (Nat.le_refl _) (by have := Nat.mul_le_mul_right (sz + 1) hmc; omega) (by omega)⟩
      simp [Instr.sliceAt, Instr.sureAddr, run_underlying e1, r, run_sizeOf e2]
      try (split <;> simp_all)
    ·cases h
   ·cases h
 ·cases h
end Go.AM

/-! A7 -/
namespace Go.AM
theorem run_mapM {P : Program} {w : World} {α γ : Type} (g : α → Sem γ) (g0 : α → γ) : ∀ (l : List α), (∀ x ∈ l, (g x).run P w = .ok (g0 x) w) → (l.mapM g).run P w = .ok (l.map g0) w
 | [], _ => rfl
 | x :: l, h => by
  rw [List.mapM_cons, Sem.run_bind, h x (by simp)]
  simp only [Result.andThen_ok, Sem.run_bind]
  rw [run_mapM g g0 l (fun y hy => h y (by simp [hy]))]
  rfl
theorem run_mapM_arr {P : Program} {w : World} {α γ : Type} (g : α → Sem γ) (g0 : α → γ) (l : Array α) (h : ∀ x ∈ l.toList, (g x).run P w = .ok (g0 x) w) : (l.mapM g).run P w = .ok (l.map g0) w := by
 rw [Array.mapM_eq_mapM_toList, Sem.run_map, run_mapM g g0 l.toList h]
 have : (List.map g0 l.toList).toArray = Array.map g0 l := by apply Array.ext'; rw [Array.toList_map]
 rw [← this]; rfl
/-- Values of parts, on both sides. -/
def PRel (β : Beta) (N : Nat) : List (Nat × Value) → List (Nat × Value) → Prop
  | [], [] => True
  | p :: l, p' :: l' => p.1 = p'.1 ∧ VRel β N p.2 p'.2 ∧ PRel β N l l'
  | _, _ => False
theorem ARel.foldl {β : Beta} {N : Nat} (off : Nat) : ∀ (l l' : List Value) (k : Nat) (acc acc' : Array Value), l.length = l'.length →
  (∀ (i : Nat) v v', l[i]? = some v → l'[i]? = some v' → VRel β N v v') → ARel β N acc acc' →
  ARel β N ((l.zipIdx k).foldl (fun cs (c, j) => cs.setIfInBounds (off + j) c) acc) ((l'.zipIdx k).foldl (fun cs (c, j) => cs.setIfInBounds (off + j) c) acc')
 | [], [], k, acc, acc', _, _, h => h
 | x :: l, x' :: l', k, acc, acc', hl, hr, h => by
  simp only [List.zipIdx_cons, List.foldl_cons]
  exact ARel.foldl off l l' (k + 1) _ _ (by simpa using hl) (fun i v v' e e' => hr (i + 1) v v' (by simpa using e) (by simpa using e')) (h.set _ (hr 0 x x' rfl rfl))
 | [], _ :: _, _, _, _, hl, _, _ => by simp at hl
 | _ :: _, [], _, _, _, hl, _, _ => by simp at hl
theorem ARel.lay {β : Beta} {N : Nat} (off : Nat) {d d' acc acc' : Array Value} (hd : ARel β N d d') (h : ARel β N acc acc') :
  ARel β N (d.zipIdx.foldl (fun cs (c, j) => cs.setIfInBounds (off + j) c) acc) (d'.zipIdx.foldl (fun cs (c, j) => cs.setIfInBounds (off + j) c) acc') := by
 rw [← Array.foldl_toList, ← Array.foldl_toList, Array.toList_zipIdx, Array.toList_zipIdx]
 exact ARel.foldl off d.toList d'.toList 0 acc acc' (by simpa using hd.1) (fun i v v' e e' => hd.2 i v v' (by simpa using e) (by simpa using e')) h
theorem fill_rel {β : Beta} {N : Nat} (place : Nat → Option (Nat × Nat)) : ∀ (ps ps' : List (Nat × Value)) (c c' r : Array Value), PRel β N ps ps' → ARel β N c c' → Instr.fill place c ps = some r →
  ∃ r', Instr.fill place c' ps' = some r' ∧ ARel β N r r'
 | [], [], c, c', r, _, hc, h => by simp [Instr.fill] at h; subst h; exact ⟨c', rfl, hc⟩
 | (i, v) :: ps, (i', v') :: ps', c, c', r, hp, hc, h => by
  obtain ⟨e, hv, hp⟩ := hp
  simp at e; subst e
  have hvc := ARel.cells hv
  unfold Instr.fill at h ⊢
  cases e : place i with
  | none => simp [e] at h
  | some os =>
   obtain ⟨off, size⟩ := os
   simp only [e] at h ⊢
   have e1 : v'.cells.size = v.cells.size := hvc.1.symm
   have e2 : c'.size = c.size := hc.1.symm
   rw [e1, e2]
   split at h
   ·cases h
   ·rename_i hcond
    rw [if_neg hcond]
    exact fill_rel place ps ps' _ _ r hp (ARel.lay off hvc hc) h
 | [], _ :: _, _, _, _, hp, _, _ => hp.elim
 | _ :: _, [], _, _, _, hp, _, _ => hp.elim
def aBuild (P : Program) (t : TypeId) (ps : List (Nat × Value)) : Option Value :=
  match zeroOf P t, undOf P t with
  | some z, some (.struct fields) =>
    if z.cells.all flat0 && fields.toList.all (fun f => (szOf P f.type).isSome) then
      (Instr.fill (fun i => (fields.map (fun f => (f.offset, (szOf P f.type).getD 0)))[i]?) z.cells ps).map .agg
    else none
  | some z, some (.array _ elem) =>
    match szOf P elem with
    | some s => if z.cells.all flat0 then (Instr.fill (fun i => some (i * s, s)) z.cells ps).map .agg else none
    | none => none
  | _, _ => none
theorem aBuild_sound {P : Program} {β : Beta} {N : Nat} {w : World} {t : TypeId} {ps : List (Nat × Value)} {ps' : Array (Nat × Value)} {v : Value} (hp : PRel β N ps ps'.toList) (h : aBuild P t ps = some v) :
  ∃ v', (Instr.build t ps').run P w = .ok v' w ∧ VRel β N v v' := by
 unfold aBuild at h
 split at h
 ·rename_i z fields e1 e2
  split at h
  ·rename_i hc
   simp only [Bool.and_eq_true, List.all_eq_true] at hc
   cases e : Instr.fill (fun i => (fields.map (fun f => (f.offset, (szOf P f.type).getD 0)))[i]?) z.cells ps with
   | none => rw [e] at h; cases h
   | some r =>
    rw [e] at h; injection h with h; subst h
    obtain ⟨r', er, hr⟩ := fill_rel _ ps ps'.toList z.cells z.cells r hp (ARel.flat hc.1) e
    refine ⟨.agg r', ?_, .agg _ _ hr.1 hr.2⟩
    have hm : (fields.mapM fun f => (do pure (f.offset, ← sizeOf f.type) : Sem (Nat × Nat))).run P w = .ok (fields.map (fun f => (f.offset, (szOf P f.type).getD 0))) w := by
     refine run_mapM_arr _ _ fields (fun f hf => ?_)
     have := hc.2 f hf
     cases es : szOf P f.type with
     | none => rw [es] at this; cases this
     | some s => simp [run_sizeOf es]
    simp only [Instr.build, Sem.run_bind, run_zeroValue e1, Result.andThen_ok, run_underlying e2, hm, er, Sem.run_pure]
  ·cases h
 ·rename_i z n elem e1 e2
  split at h
  ·rename_i s es
   split at h
   ·rename_i hz
    cases e : Instr.fill (fun i => some (i * s, s)) z.cells ps with
    | none => rw [e] at h; cases h
    | some r =>
     rw [e] at h; injection h with h; subst h
     obtain ⟨r', er, hr⟩ := fill_rel _ ps ps'.toList z.cells z.cells r hp (ARel.flat hz) e
     refine ⟨.agg r', ?_, .agg _ _ hr.1 hr.2⟩
     simp only [Instr.build, Sem.run_bind, run_zeroValue e1, Result.andThen_ok, run_underlying e2, run_sizeOf es, er, Sem.run_pure]
   ·cases h
  ·cases h
 ·cases h
/-! ### Builtins that only compute -/
def aLen (P : Program) (t : TypeId) (x : Value) : Option Value :=
  match undOf P t, x with
  | some .string, .string s => some (.int .i64 s.size)
  | some (.array n _), _ => some (.int .i64 n)
  | some (.slice _), .slice _ n _ => some (.int .i64 n)
  | some (.map _ _), .map none => some (.int .i64 0)
  | some (.pointer a), _ => match undOf P a with
    | some (.array n _) => some (.int .i64 n)
    | _ => none
  | _, _ => none
theorem aLen_sound {P : Program} {β : Beta} {N : Nat} {w : World} {t rt : TypeId} {x x' v : Value} (hx : VRel β N x x') (h : aLen P t x = some v) :
  ∃ v', (Builtin.len_ #[t] rt #[x']).run P w = .ok v' w ∧ VRel β N v v' := by
 unfold aLen at h
 split at h
 ·rename_i s e; cases hx; injection h with h; subst h
  exact ⟨_, by simp [Builtin.len_, run_underlying e, goInt], .int _ _⟩
 ·rename_i n el e; injection h with h; subst h
  exact ⟨_, by simp [Builtin.len_, run_underlying e, goInt], .int _ _⟩
 ·rename_i el a n c e; injection h with h; subst h
  cases hx <;> exact ⟨_, by simp [Builtin.len_, run_underlying e, goInt], .int _ _⟩
 ·rename_i a b e; cases hx; injection h with h; subst h
  exact ⟨_, by simp [Builtin.len_, run_underlying e, goInt], .int _ _⟩
 ·rename_i a e
  split at h
  ·rename_i n el e2
   injection h with h; subst h
   exact ⟨_, by simp [Builtin.len_, run_underlying e, run_underlying e2, goInt], .int _ _⟩
  ·cases h
 ·cases h
def aMax2 : Value → Value → Option Value
  | .int k x, .int k' y => if k = k' then some (.int k (if y > x then y else x)) else none
  | _, _ => none
def aMin2 : Value → Value → Option Value
  | .int k x, .int k' y => if k = k' then some (.int k (if y < x then y else x)) else none
  | _, _ => none
def aFold (f : Value → Value → Option Value) : Value → List Value → Option Value
  | x, [] => some x
  | x, y :: l => match f x y with
    | some z => aFold f z l
    | none => none
theorem aFold_sound {P : Program} {β : Beta} {N : Nat} {w : World} (f : Value → Value → Option Value) (F : Value → Value → Sem Value)
  (hF : ∀ x y z x' y', VRel β N x x' → VRel β N y y' → f x y = some z → ∃ z', (F x' y').run P w = .ok z' w ∧ VRel β N z z') :
  ∀ (l l' : List Value) (x x' v : Value), l.length = l'.length → (∀ (i : Nat) v v', l[i]? = some v → l'[i]? = some v' → VRel β N v v') → VRel β N x x' → aFold f x l = some v →
   ∃ v', (l'.foldlM F x').run P w = .ok v' w ∧ VRel β N v v'
 | [], [], x, x', v, _, _, hx, h => by simp [aFold] at h; subst h; exact ⟨x', rfl, hx⟩
 | y :: l, y' :: l', x, x', v, hl, hr, hx, h => by
  unfold aFold at h
  cases e : f x y with
  | none => rw [e] at h; cases h
  | some z =>
   rw [e] at h
   obtain ⟨z', rz, hz⟩ := hF x y z x' y' hx (hr 0 y y' rfl rfl) e
   obtain ⟨v', rv, hv⟩ := aFold_sound f F hF l l' z z' v (by simpa using hl) (fun i v v' e e' => hr (i + 1) v v' (by simpa using e) (by simpa using e')) hz h
   exact ⟨v', by rw [List.foldlM_cons, Sem.run_bind, rz]; exact rv, hv⟩
 | [], _ :: _, _, _, _, hl, _, _, _ => by simp at hl
 | _ :: _, [], _, _, _, hl, _, _, _ => by simp at hl
theorem aMax2_sound {P : Program} {β : Beta} {N : Nat} {w : World} (x y z x' y' : Value) (hx : VRel β N x x') (hy : VRel β N y y') (h : aMax2 x y = some z) : ∃ z', (Builtin.max2 x' y').run P w = .ok z' w ∧ VRel β N z z' := by
 unfold aMax2 at h
 split at h
 ·cases hx; cases hy
  split at h
  ·injection h with h; subst h; exact ⟨_, rfl, .int _ _⟩
  ·cases h
 ·cases h
theorem aMin2_sound {P : Program} {β : Beta} {N : Nat} {w : World} (x y z x' y' : Value) (hx : VRel β N x x') (hy : VRel β N y y') (h : aMin2 x y = some z) : ∃ z', (Builtin.min2 x' y').run P w = .ok z' w ∧ VRel β N z z' := by
 unfold aMin2 at h
 split at h
 ·cases hx; cases hy
  split at h
  ·injection h with h; subst h; exact ⟨_, rfl, .int _ _⟩
  ·cases h
 ·cases h
end Go.AM

/-! A8 -/
namespace Go.AM
/-! ### Reading -/
theorem cell_of {w : World} {b off : Nat} {c : Array Value} {e : TypeId} {fz : Nat × Nat} (h : w.heap[b]? = some (.cells c e fz)) : w.cell? ⟨b, off, none⟩ = c[off]? := by
 simp [World.cell?, h]
theorem run_loadCells {P : Program} {w : World} {b off : Nat} {c : Array Value} {e : TypeId} {fz : Nat × Nat} (h : w.heap[b]? = some (.cells c e fz)) :
  ∀ (n i : Nat) (acc : Array Value), off + i + n ≤ c.size → (loadCellsFrom ⟨b, off, none⟩ i n acc).run P w = .ok (acc ++ c.extract (off + i) (off + i + n)) w
 | 0, i, acc, _ => by simp [loadCellsFrom]; omega
 | n + 1, i, acc, hn => by
  unfold loadCellsFrom
  have hc : w.cell? ((⟨b, off, none⟩ : Addr).add i) = some (c[off + i]'(by omega)) := by
   rw [add_none, cell_of h]; exact Array.getElem?_eq_getElem (by omega)
  rw [Sem.run_bind, run_load, hc]
  simp only [Result.andThen_ok]
  rw [run_loadCells h n (i + 1) _ (by omega)]
  congr 1
  apply Array.ext'
  simp only [Array.toList_append, Array.toList_push, Array.toList_extract, List.append_assoc]
  congr 1
  rw [List.extract_eq_take_drop, List.extract_eq_take_drop]
  have e1 : off + i + (n + 1) - (off + i) = n + 1 := by omega
  have e2 : off + (i + 1) + n - (off + (i + 1)) = n := by omega
  rw [e1, e2]
  have e3 : c.toList.drop (off + i) = c[off + i]'(by omega) :: c.toList.drop (off + i + 1) := by
   rw [List.drop_eq_getElem_cons (by simpa using (by omega : off + i < c.size))]; rfl
  rw [e3, List.take_succ_cons]
  have e4 : off + (i + 1) = off + i + 1 := by omega
  rw [e4]; rfl
def aLoad (P : Program) (m : Mem) (t : TypeId) (a : Value) : Option Value :=
  match a with
  | .pointer (some ⟨b, o, none⟩) =>
    match Mem.get m b with
    | .cells _ c =>
      match isAggT P t, szOf P t with
      | some true, some s => if o + s ≤ c.size then some (.agg (c.extract o (o + s))) else none
      | some false, _ => c[o]?
      | _, _ => none
    | .grow c => match isAggT P t with
      | some false => c[o]?
      | _ => none
    | _ => none
  | _ => none
/-- The cells of a block from one place on, on both sides. -/
theorem ARel.block {β : Beta} {N : Nat} {c c' : Array Value} {sh o n : Nat} (h : ∀ (i : Nat) v, c[i]? = some v → ∃ v', c'[sh + i]? = some v' ∧ VRel β N v v') (hn : o + n ≤ c.size) :
  ARel β N (c.extract o (o + n)) (c'.extract (sh + o) (sh + o + n)) ∧ sh + o + n ≤ c'.size ∨ n = 0 := by
 rcases Nat.eq_zero_or_pos n with h0 | h0
 ·exact .inr h0
 ·refine .inl ?_
  have hs : sh + o + n ≤ c'.size := by
   obtain ⟨v', e', _⟩ := h (o + n - 1) (c[o + n - 1]'(by omega)) (Array.getElem?_eq_getElem _)
   have := (Array.getElem?_eq_some_iff.1 e').1
   omega
  refine ⟨⟨by simp; omega, fun i v v' e e' => ?_⟩, hs⟩
  rw [Array.getElem?_extract] at e e'
  split at e
  ·split at e'
   ·obtain ⟨u, eu, hu⟩ := h (o + i) v e
    have : sh + o + i = sh + (o + i) := by omega
    rw [this, eu] at e'; injection e' with e'; subst e'; exact hu
   ·cases e'
  ·cases e
theorem aLoad_sound {P : Program} {β : Beta} {m : Mem} {w : World} {t : TypeId} {a a' v : Value} (hR : Rel P β m w) (ha : VRel β m.size a a') (h : aLoad P m t a = some v) :
  ∃ v', (Instr.loadAt t a').run P w = .ok v' w ∧ VRel β m.size v v' := by
 unfold aLoad at h
 split at h
 ·rename_i b o
  cases ha with
  | ptr _ _ hb =>
   split at h
   ·rename_i rr c e1
    obtain ⟨c', e', fz, hw, hcap, hcs, _⟩ := hR.cells b rr c e1
    split at h
    ·rename_i s e2 e3
     split at h
     ·rename_i hs
      injection h with h; subst h
      rcases ARel.block (β := β) (N := m.size) hcs hs with ⟨hA, hlen⟩ | h0
      ·refine ⟨_, ?_, .agg _ _ hA.1 hA.2⟩
       simp only [Instr.loadAt, Instr.sureAddr, loadVar, Sem.run_bind, Sem.run_pure, Result.andThen_ok, run_isAgg e2, if_true, run_sizeOf e3, loadCells]
       rw [run_loadCells hw s 0 #[] (by omega)]
       simp
      ·subst h0
       refine ⟨.agg #[], ?_, ?_⟩
       ·simp only [Instr.loadAt, Instr.sureAddr, loadVar, Sem.run_bind, Sem.run_pure, Result.andThen_ok, run_isAgg e2, if_true, run_sizeOf e3, loadCells, loadCellsFrom]
       ·have : c.extract o (o + 0) = #[] := by simp; omega
        rw [this]; exact .agg _ _ rfl (ARel.nil _ _).2
     ·cases h
    ·rename_i e2
     obtain ⟨v', ev', hv⟩ := hcs o v h
     refine ⟨v', ?_, hv⟩
     have hc : w.cell? ⟨β.blk b, β.sh b + o, none⟩ = some v' := by rw [cell_of hw]; exact ev'
     simp only [Instr.loadAt, Instr.sureAddr, loadVar, Sem.run_bind, Sem.run_pure, Result.andThen_ok, run_isAgg e2, Bool.false_eq_true, if_false, run_load, hc]
    ·cases h
   ·rename_i c e1
    obtain ⟨c', e', fz, hw, hcap, hcs, _⟩ := hR.growing b c e1
    split at h
    ·rename_i e2
     obtain ⟨v', ev', hv⟩ := hcs o v h
     refine ⟨v', ?_, hv⟩
     have hc : w.cell? ⟨β.blk b, β.sh b + o, none⟩ = some v' := by rw [cell_of hw]; exact ev'
     simp only [Instr.loadAt, Instr.sureAddr, loadVar, Sem.run_bind, Sem.run_pure, Result.andThen_ok, run_isAgg e2, Bool.false_eq_true, if_false, run_load, hc]
    ·cases h
   ·cases h
 ·cases h
/-! ### Maps that are looked into -/
def aFindNow (kind : TypeDesc) (k : Value) : List (Value × Value) → Nat → Option (Option (Nat × Value))
  | [], _ => some none
  | e :: es, i =>
    match Instr.sameNow kind k e.1 with
    | some true => some (some (i, e.2))
    | some false => aFindNow kind k es (i + 1)
    | none => none
theorem sameNow_rel {β : Beta} {N : Nat} {kind : TypeDesc} {k k' e e' : Value} {b : Bool} (hk : VRel β N k k') (he : VRel β N e e') (h : Instr.sameNow kind k e = some b) : Instr.sameNow kind k' e' = some b := by
 unfold Instr.sameNow at h
 split at h <;> first
  | (cases h; done)
  | (cases hk; cases he; exact h)
theorem aFindNow_rel {β : Beta} {N : Nat} {kind : TypeDesc} {k k' : Value} (hk : VRel β N k k') : ∀ (es : List (Value × Value)) (es' : List MapEntry) (i : Nat) (r : Option (Nat × Value)), es.length = es'.length →
  (∀ (i : Nat) x e', es[i]? = some x → es'[i]? = some e' → VRel β N x.1 e'.key ∧ VRel β N x.2 e'.val) → aFindNow kind k es i = some r →
  ∃ r', Instr.findNow kind k' es' i = some r' ∧ (match r, r' with | none, none => True | some (j, v), some (j', v') => j = j' ∧ VRel β N v v' ∧ i ≤ j ∧ j < i + es.length | _, _ => False)
 | [], [], i, r, _, _, h => by simp [aFindNow] at h; subst h; exact ⟨none, rfl, trivial⟩
 | e :: es, e' :: es', i, r, hl, hr, h => by
  obtain ⟨h1, h2⟩ := hr 0 e e' rfl rfl
  unfold aFindNow at h
  cases hs : Instr.sameNow kind k e.1 with
  | none => rw [hs] at h; cases h
  | some b =>
   have hs' := sameNow_rel hk h1 hs
   rw [hs] at h
   cases b with
   | true =>
    injection h with h; subst h
    exact ⟨some (i, e'.val), by simp [Instr.findNow, hs'], rfl, h2, Nat.le_refl _, by simp⟩
   | false =>
    obtain ⟨r', e1, e2⟩ := aFindNow_rel hk es es' (i + 1) r (by simpa using hl) (fun j x y e3 e4 => hr (j + 1) x y (by simpa using e3) (by simpa using e4)) h
    refine ⟨r', by simp [Instr.findNow, hs', e1], ?_⟩
    cases r with
    | none => cases r' with
     | none => trivial
     | some q => exact e2
    | some p => cases r' with
     | none => exact e2
     | some q => exact ⟨e2.1, e2.2.1, by have := e2.2.2.1; omega, by have := e2.2.2.2; simp; omega⟩
 | [], _ :: _, _, _, hl, _, _ => by simp at hl
 | _ :: _, [], _, _, hl, _, _ => by simp at hl
def plainKey : TypeDesc → Bool
  | .int _ | .string | .bool => true
  | _ => false
theorem run_checkKey {P : Program} {w : World} {t : TypeId} {u : TypeDesc} {k : Value} (b : Bool) (hu : undOf P t = some u) (hp : plainKey u = true) : (Instr.checkKey b 10000 t k).run P w = .ok () w := by
 have go : ∀ f : TypeDesc → Sem Unit, Instr.checkKey b (9999 + 1) t k = underlying t >>= f → (Instr.checkKey b 10000 t k).run P w = (f u).run P w := by
  intro f e
  show (Instr.checkKey b (9999 + 1) t k).run P w = _
  rw [e, Sem.run_bind, run_underlying hu]; rfl
 rw [go _ rfl]
 cases u <;> first
  | (simp [plainKey] at hp; done)
  | rfl
theorem run_findKey {P : Program} {w : World} {t : TypeId} {u : TypeDesc} {k : Value} {es : List MapEntry} {r : Option (Nat × Value)} (hu : undOf P t = some u) (h : Instr.findNow u k es 0 = some r) : (Instr.findKey t k es).run P w = .ok r w := by
 simp [Instr.findKey, run_underlying hu, h]
/-! Keys that are arrays or structs -/
def eqDep : Nat := 100
def FindR (β : Beta) (N i n : Nat) : Option (Nat × Value) → Option (Nat × Value) → Prop
  | none, none => True
  | some (j, v), some (j', v') => j = j' ∧ VRel β N v v' ∧ i ≤ j ∧ j < i + n
  | _, _ => False
def aFindAsk (P : Program) (kt : TypeId) (k : Value) : List (Value × Value) → Nat → Option (Option (Nat × Value))
  | [], _ => some none
  | e :: es, i =>
    match aEq P eqDep kt k e.1 with
    | some true => some (some (i, e.2))
    | some false => aFindAsk P kt k es (i + 1)
    | none => none
def aggKey : TypeDesc → Bool
  | .array _ _ | .struct _ => true
  | _ => false
def aKeyOk (P : Program) : Nat → TypeId → Value → Bool
  | 0, _, _ => false
  | d + 1, t, v => match undOf P t, v with
    | some (.array len elem), .agg cs => match szOf P elem with
      | some n => (List.range' 0 len 1).all fun i => match aPart P elem cs (i * n) with
        | some a => aKeyOk P d elem a
        | none => false
      | none => false
    | some (.struct fs), .agg cs => fs.toList.all fun f => f.name == "_" || (match aPart P f.type cs f.offset with
        | some a => aKeyOk P d f.type a
        | none => false)
    | some u, _ => plainKey u
    | none, _ => false
theorem aFindAsk_rel {P : Program} {w : World} {β : Beta} {N : Nat} {kt : TypeId} {k k' : Value} (hk : VRel β N k k') : ∀ (es : List (Value × Value)) (es' : List MapEntry) (i : Nat) (r : Option (Nat × Value)), es.length = es'.length →
  (∀ (i : Nat) x e', es[i]? = some x → es'[i]? = some e' → VRel β N x.1 e'.key ∧ VRel β N x.2 e'.val) → aFindAsk P kt k es i = some r →
  ∃ r', (Instr.findAsking kt k' es' i).run P w = .ok r' w ∧ FindR β N i es.length r r'
 | [], [], i, r, _, _, h => by simp [aFindAsk] at h; subst h; exact ⟨none, rfl, trivial⟩
 | e :: es, e' :: es', i, r, hl, hr, h => by
  obtain ⟨h1, h2⟩ := hr 0 e e' rfl rfl
  unfold aFindAsk at h
  cases hs : aEq P eqDep kt k e.1 with
  | none => rw [hs] at h; cases h
  | some b =>
   have hs' : (Op.equal kt k' e'.key).run P w = .ok b w := aEq_sound (P := P) (w := w) eqDep _ _ _ _ _ _ _ _ hk h1 hs _ (by decide)
   rw [hs] at h
   cases b with
   | true =>
    injection h with h; subst h
    exact ⟨some (i, e'.val), by simp [Instr.findAsking, hs'], rfl, h2, Nat.le_refl _, by simp⟩
   | false =>
    obtain ⟨r', e1, e2⟩ := aFindAsk_rel (w := w) hk es es' (i + 1) r (by simpa using hl) (fun j x y e3 e4 => hr (j + 1) x y (by simpa using e3) (by simpa using e4)) h
    refine ⟨r', by simp [Instr.findAsking, hs', e1], ?_⟩
    cases r with
    | none => cases r' with
     | none => trivial
     | some q => exact e2
    | some p => cases r' with
     | none => exact e2
     | some q => exact ⟨e2.1, e2.2.1, by have := e2.2.2.1; omega, by have := e2.2.2.2; simp; omega⟩
 | [], _ :: _, _, _, hl, _, _ => by simp at hl
 | _ :: _, [], _, _, hl, _, _ => by simp at hl
theorem run_findKeyA {P : Program} {w : World} {β : Beta} {N : Nat} {kt : TypeId} {u : TypeDesc} {k k' : Value} {es : List (Value × Value)} {es' : List MapEntry} {r : Option (Nat × Value)} (hu : undOf P kt = some u) (ha : aggKey u = true) (hk : VRel β N k k') (hl : es.length = es'.length)
  (hr : ∀ (i : Nat) x e', es[i]? = some x → es'[i]? = some e' → VRel β N x.1 e'.key ∧ VRel β N x.2 e'.val) (h : aFindAsk P kt k es 0 = some r) :
  ∃ r', (Instr.findKey kt k' es').run P w = .ok r' w ∧ FindR β N 0 es.length r r' := by
 obtain ⟨r', h1, h2⟩ := aFindAsk_rel (w := w) hk es es' 0 r hl hr h
 refine ⟨r', ?_, h2⟩
 have hn : es' ≠ [] → Instr.findNow u k' es' 0 = none := by
  intro hne
  cases es' with
  | nil => exact absurd rfl hne
  | cons e l =>
   have : Instr.sameNow u k' e.key = none := by cases u <;> first | rfl | (simp [aggKey] at ha; done)
   simp [Instr.findNow, this]
 by_cases hne : es' = []
 ·subst hne
  have : r' = none := by simpa [Instr.findAsking] using h1.symm
  subst this
  simp [Instr.findKey, run_underlying hu, Instr.findNow]
 ·simp only [Instr.findKey, Sem.run_bind, run_underlying hu, Result.andThen_ok, hn hne]
  exact h1
theorem aKeyOk_sound {P : Program} {w : World} {β : Beta} {N : Nat} (b : Bool) : ∀ (d : Nat) (t : TypeId) (k k' : Value), VRel β N k k' → aKeyOk P d t k = true → ∀ D, d ≤ D → (Instr.checkKey b D t k').run P w = .ok () w
 | 0, t, k, k', _, h => by simp [aKeyOk] at h
 | d + 1, t, k, k', hk, h => by
  intro D hD
  obtain ⟨D, rfl⟩ : ∃ q, D = q + 1 := ⟨D - 1, by omega⟩
  have ih := aKeyOk_sound (P := P) (w := w) (β := β) (N := N) b d
  unfold aKeyOk at h
  split at h
  ·rename_i len elem cs hu
   cases hk with
   | agg _ cs' h1 h2 =>
    split at h
    ·rename_i n hn
     have go : ∀ f : TypeDesc → Sem Unit, Instr.checkKey b (D + 1) t (.agg cs') = underlying t >>= f → (Instr.checkKey b (D + 1) t (.agg cs')).run P w = (f (.array len elem)).run P w := by
      intro f e
      rw [e, Sem.run_bind, run_underlying hu]; rfl
     have g := go _ rfl
     rw [g]; clear g go
     simp only []
     rw [range_forIn]
     rw [List.all_eq_true] at h
     have key : ∀ (body : Nat → PUnit → Sem (ForInStep PUnit)), (∀ i, body i ⟨⟩ = (do
       let sz ← sizeOf elem
       let a ← part elem cs' (i * sz)
       Instr.checkKey b D elem a
       pure (ForInStep.yield ⟨⟩))) → ∀ (l : List Nat), (∀ i ∈ l, (match aPart P elem cs (i * n) with | some a => aKeyOk P d elem a | none => false) = true) → (forIn l PUnit.unit body : Sem PUnit).run P w = .ok ⟨⟩ w := by
      intro body hb l
      induction l with
      | nil => intro _; rfl
      | cons i l ihl =>
       intro hl
       rw [List.forIn_cons, Sem.run_bind, hb i]
       have hi := hl i (by simp)
       cases e1 : aPart P elem cs (i * n) with
       | none => rw [e1] at hi; cases hi
       | some a =>
        rw [e1] at hi
        obtain ⟨a', ra, va⟩ := run_part (P := P) (w := w) ⟨h1, h2⟩ e1
        have hq := ih elem a a' va hi D (by omega)
        simp only [Sem.run_bind, run_sizeOf hn, Result.andThen_ok, ra, hq, Sem.run_pure]
        exact ihl fun j hj => hl j (by simp [hj])
     first
      | exact key _ (fun i => rfl) (List.range' 0 len 1) h
      | (rw [Sem.run_bind, key _ (fun i => rfl) (List.range' 0 len 1) h]; rfl)
    ·cases h
  ·rename_i fs cs hu
   cases hk with
   | agg _ cs' h1 h2 =>
    have go : ∀ f : TypeDesc → Sem Unit, Instr.checkKey b (D + 1) t (.agg cs') = underlying t >>= f → (Instr.checkKey b (D + 1) t (.agg cs')).run P w = (f (.struct fs)).run P w := by
     intro f e
     rw [e, Sem.run_bind, run_underlying hu]; rfl
    have g := go _ rfl
    rw [g]; clear g go
    simp only []
    rw [← Array.forIn_toList]
    rw [List.all_eq_true] at h
    have key : ∀ (body : Field → PUnit → Sem (ForInStep PUnit)), (∀ f, body f ⟨⟩ = if f.name ≠ "_" then (do
      let a ← part f.type cs' f.offset
      Instr.checkKey b D f.type a
      pure (ForInStep.yield ⟨⟩)) else pure (ForInStep.yield ⟨⟩)) → ∀ (l : List Field), (∀ f ∈ l, (f.name == "_" || (match aPart P f.type cs f.offset with | some a => aKeyOk P d f.type a | none => false)) = true) → (forIn l PUnit.unit body : Sem PUnit).run P w = .ok ⟨⟩ w := by
     intro body hb l
     induction l with
     | nil => intro _; rfl
     | cons f l ihl =>
      intro hl
      rw [List.forIn_cons, Sem.run_bind, hb f]
      have hf := hl f (by simp)
      by_cases hn : f.name ≠ "_"
      ·rw [if_pos hn]
       have hn' : (f.name == "_") = false := by simpa using hn
       rw [hn', Bool.false_or] at hf
       cases e1 : aPart P f.type cs f.offset with
       | none => rw [e1] at hf; cases hf
       | some a =>
        rw [e1] at hf
        obtain ⟨a', ra, va⟩ := run_part (P := P) (w := w) ⟨h1, h2⟩ e1
        have hq := ih f.type a a' va hf D (by omega)
        simp only [Sem.run_bind, Result.andThen_ok, ra, hq, Sem.run_pure]
        exact ihl fun j hj => hl j (by simp [hj])
      ·rw [if_neg hn]
       simp only [Sem.run_pure, Result.andThen_ok]
       exact ihl fun j hj => hl j (by simp [hj])
    first
     | exact key _ (fun f => rfl) fs.toList h
     | (rw [Sem.run_bind, key _ (fun f => rfl) fs.toList h]; rfl)
  ·rename_i u hu _ _
   have go : ∀ f : TypeDesc → Sem Unit, Instr.checkKey b (D + 1) t k' = underlying t >>= f → (Instr.checkKey b (D + 1) t k').run P w = (f u).run P w := by
    intro f e
    rw [e, Sem.run_bind, run_underlying hu]; rfl
   rw [go _ rfl]
   cases u <;> first
    | (simp [plainKey] at h; done)
    | rfl
  ·cases h
def aLookupA (P : Program) (m : Mem) (kt : TypeId) (u : TypeDesc) (z x k : Value) (commaOk : Bool) : Option Value :=
  if flat z && aggKey u && aKeyOk P eqDep kt k then
    match x with
    | .map none => some (if commaOk then .tuple #[z, .bool false] else z)
    | .map (some r) => match Mem.get m r with
      | .map _ es => match aFindAsk P kt k es 0 with
        | some (some (_, v)) => some (if commaOk then .tuple #[v, .bool true] else v)
        | some none => some (if commaOk then .tuple #[z, .bool false] else z)
        | none => none
      | _ => none
    | _ => none
  else none
def aLookup (P : Program) (m : Mem) (t : TypeId) (x k : Value) (commaOk : Bool) : Option Value :=
  match undOf P t with
  | some (.map kt et) =>
    match undOf P kt, zeroOf P et with
    | some u, some z =>
      if plainKey u && flat z then
        match x with
        | .map none => some (if commaOk then .tuple #[z, .bool false] else z)
        | .map (some r) => match Mem.get m r with
          | .map _ es => match aFindNow u k es 0 with
            | some (some (_, v)) => some (if commaOk then .tuple #[v, .bool true] else v)
            | some none => some (if commaOk then .tuple #[z, .bool false] else z)
            | none => none
          | _ => none
        | _ => none
      else aLookupA P m kt u z x k commaOk
    | _, _ => none
  | _ => none
theorem VRel.pair {β : Beta} {N : Nat} {v v' u u' : Value} (h : VRel β N v v') (g : VRel β N u u') : VRel β N (.tuple #[v, u]) (.tuple #[v', u']) := by
 refine .tuple _ _ rfl (fun i x x' e e' => ?_)
 match i with
 | 0 => simp at e e'; subst e; subst e'; exact h
 | 1 => simp at e e'; subst e; subst e'; exact g
 | n + 2 => simp at e
theorem aLookupA_sound {P : Program} {β : Beta} {m : Mem} {w : World} {t kt et : TypeId} {u : TypeDesc} {z x x' k k' v : Value} {ok : Bool} (e1 : undOf P t = some (.map kt et)) (e2 : undOf P kt = some u) (e3 : zeroOf P et = some z) (hR : Rel P β m w) (hx : VRel β m.size x x') (hk : VRel β m.size k k')
  (h : aLookupA P m kt u z x k ok = some v) : ∃ v', (Instr.lookup t x' k' ok).run P w = .ok v' w ∧ VRel β m.size v v' := by
 unfold aLookupA at h
 split at h
 ·rename_i hc
  simp only [Bool.and_eq_true] at hc
  have hz : VRel β m.size z z := .flat hc.1.1
  have hck : ∀ b, (Instr.checkKey b 10000 kt k').run P w = .ok () w := fun b => aKeyOk_sound b eqDep kt k k' hk hc.2 10000 (by decide)
  split at h
  ·cases hx
   injection h with h; subst h
   cases ok with
   | true => exact ⟨_, by simp [Instr.lookup, run_underlying e1, hck, Instr.findKey, run_underlying e2, Instr.findNow, run_zeroValue e3], .pair hz (.bool _)⟩
   | false => exact ⟨_, by simp [Instr.lookup, run_underlying e1, hck, Instr.findKey, run_underlying e2, Instr.findNow, run_zeroValue e3], hz⟩
  ·rename_i r
   cases hx with
   | map _ hr =>
    split at h
    ·rename_i rw_ es e4
     obtain ⟨es', clk, hw, hs, hes⟩ := hR.map r rw_ es e4
     have hg : (getObj (β.blk r)).run P w = .ok (.map es' clk) w := by simp [getObj, Sem.run, hw]
     split at h
     ·rename_i i v0 e5
      injection h with h; subst h
      obtain ⟨r', hf, hrr⟩ := run_findKeyA (w := w) e2 hc.1.2 hk (es' := es'.toList) (by simpa using hs.symm) (fun i x y a b => hes i x y a (by simpa using b)) e5
      cases r' with
      | none => exact hrr.elim
      | some q =>
       obtain ⟨j, v1⟩ := q
       have hv := hrr.2.1
       cases ok with
       | true => exact ⟨_, by simp [Instr.lookup, run_underlying e1, hg, hck, hf], .pair hv (.bool _)⟩
       | false => exact ⟨_, by simp [Instr.lookup, run_underlying e1, hg, hck, hf], hv⟩
     ·rename_i e5
      injection h with h; subst h
      obtain ⟨r', hf, hrr⟩ := run_findKeyA (w := w) e2 hc.1.2 hk (es' := es'.toList) (by simpa using hs.symm) (fun i x y a b => hes i x y a (by simpa using b)) e5
      cases r' with
      | some q => exact hrr.elim
      | none =>
       cases ok with
       | true => exact ⟨_, by simp [Instr.lookup, run_underlying e1, hg, hck, hf, run_zeroValue e3], .pair hz (.bool _)⟩
       | false => exact ⟨_, by simp [Instr.lookup, run_underlying e1, hg, hck, hf, run_zeroValue e3], hz⟩
     ·cases h
    ·cases h
  ·cases h
 ·cases h
theorem aLookup_sound {P : Program} {β : Beta} {m : Mem} {w : World} {t : TypeId} {x x' k k' v : Value} {ok : Bool} (hR : Rel P β m w) (hx : VRel β m.size x x') (hk : VRel β m.size k k') (h : aLookup P m t x k ok = some v) :
  ∃ v', (Instr.lookup t x' k' ok).run P w = .ok v' w ∧ VRel β m.size v v' := by
 unfold aLookup at h
 split at h
 ·rename_i kt et e1
  split at h
  ·rename_i u z e2 e3
   split at h
   ·rename_i hc
    simp only [Bool.and_eq_true] at hc
    have hz : VRel β m.size z z := .flat hc.2
    split at h
    ·cases hx
     injection h with h; subst h
     cases ok with
     | true => exact ⟨_, by simp [Instr.lookup, run_underlying e1, run_checkKey _ e2 hc.1, Instr.findKey, run_underlying e2, Instr.findNow, run_zeroValue e3], .pair hz (.bool _)⟩
     | false => exact ⟨_, by simp [Instr.lookup, run_underlying e1, run_checkKey _ e2 hc.1, Instr.findKey, run_underlying e2, Instr.findNow, run_zeroValue e3], hz⟩
    ·rename_i r
     cases hx with
     | map _ hr =>
      split at h
      ·rename_i rw_ es e4
       obtain ⟨es', clk, hw, hs, hes⟩ := hR.map r rw_ es e4
       have hg : (getObj (β.blk r)).run P w = .ok (.map es' clk) w := by simp [getObj, Sem.run, hw]
       split at h
       ·rename_i i v0 e5
        injection h with h; subst h
        obtain ⟨r', er, hrr⟩ := aFindNow_rel hk es es'.toList 0 _ (by simpa using hs.symm) (fun i x y a b => hes i x y a (by simpa using b)) e5
        cases r' with
        | none => exact hrr.elim
        | some q =>
         obtain ⟨j, v1⟩ := q
         have hv := hrr.2.1
         have hf := run_findKey (P := P) (w := w) e2 er
         cases ok with
         | true => exact ⟨_, by simp [Instr.lookup, run_underlying e1, hg, run_checkKey _ e2 hc.1, hf], .pair hv (.bool _)⟩
         | false => exact ⟨_, by simp [Instr.lookup, run_underlying e1, hg, run_checkKey _ e2 hc.1, hf], hv⟩
       ·rename_i e5
        injection h with h; subst h
        obtain ⟨r', er, hrr⟩ := aFindNow_rel hk es es'.toList 0 _ (by simpa using hs.symm) (fun i x y a b => hes i x y a (by simpa using b)) e5
        cases r' with
        | some q => exact hrr.elim
        | none =>
         have hf := run_findKey (P := P) (w := w) e2 er
         cases ok with
         | true => exact ⟨_, by simp [Instr.lookup, run_underlying e1, hg, run_checkKey _ e2 hc.1, hf, run_zeroValue e3], .pair hz (.bool _)⟩
         | false => exact ⟨_, by simp [Instr.lookup, run_underlying e1, hg, run_checkKey _ e2 hc.1, hf, run_zeroValue e3], hz⟩
       ·cases h
      ·cases h
    ·cases h
   ·exact aLookupA_sound e1 e2 e3 hR hx hk h
  ·cases h
 ·cases h
end Go.AM

/-! A9 -/
namespace Go.AM
theorem get_push (m : Mem) (o : AObj) (b : Nat) : Mem.get (m.push o) b = if b = m.size then o else Mem.get m b := by
 unfold Mem.get
 rw [Array.getD_eq_getD_getElem?, Array.getD_eq_getD_getElem?, Array.getElem?_push]
 split <;> rfl
theorem get_set (m : Mem) (o : AObj) (b i : Nat) : Mem.get (m.setIfInBounds i o) b = if i = b ∧ b < m.size then o else Mem.get m b := by
 unfold Mem.get
 rw [Array.getD_eq_getD_getElem?, Array.getD_eq_getD_getElem?, Array.getElem?_setIfInBounds]
 by_cases h : i = b
 ·subst h
  by_cases h2 : i < m.size
  ·simp [h2]
  ·simp [h2]
 ·simp [h]
def Beta.ext (β : Beta) (N blk cap : Nat) : Beta where
  blk b := if b = N then blk else β.blk b
  sh b := if b = N then 0 else β.sh b
  cap b := if b = N then cap else β.cap b
theorem Beta.ext_agree (β : Beta) (N blk cap : Nat) : β.Agree (β.ext N blk cap) N :=
 ⟨fun b h => by simp [Beta.ext]; omega, fun b h => by simp [Beta.ext]; omega, fun b h => by simp [Beta.ext]; omega⟩
def World.pushObj (w : World) (O : Obj) : World := { w with heap := w.heap.push O }
theorem Rel.blk_lt {P : Program} {β : Beta} {m : Mem} {w : World} (h : Rel P β m w) {b : Nat} (hb : (Mem.get m b).live = true) : β.blk b < w.heap.size := by
 obtain ⟨O, h1, _⟩ := h.obj b hb
 exact (Array.getElem?_eq_some_iff.1 h1).1
theorem Rel.push {P : Program} {β : Beta} {m : Mem} {w : World} (h : Rel P β m w) {o : AObj} {O : Obj} {cap : Nat} (ho : ObjRel (β.ext m.size w.heap.size cap) (m.size + 1) m.size o O) :
  Rel P (β.ext m.size w.heap.size cap) (m.push o) (World.pushObj w O) ∧ Stp β m w (β.ext m.size w.heap.size cap) (m.push o) (World.pushObj w O) := by
 have hag := Beta.ext_agree β m.size w.heap.size cap
 have heq : ∀ b, b ≠ m.size → (β.ext m.size w.heap.size cap).blk b = β.blk b := fun b hb => by simp [Beta.ext, hb]
 have hnew : (β.ext m.size w.heap.size cap).blk m.size = w.heap.size := by simp [Beta.ext]
 constructor
 ·refine ⟨by have := h.gsz; simp; omega, fun g hg => ?_, fun b hb => ?_, fun b1 b2 hne h1 h2 => ?_⟩
  ·have hlt : g < m.size := Nat.lt_of_lt_of_le hg h.gsz
   rw [hag.blk g hlt, hag.sh g hlt]; exact h.glob g hg
  ·rw [get_push] at hb ⊢
   by_cases he : b = m.size
   ·subst he
    simp only [if_true, World.pushObj, hnew, Array.size_push] at *
    exact ⟨O, by simp, ho⟩
   ·simp only [he, if_false] at hb ⊢
    obtain ⟨O', e1, e2⟩ := h.obj b hb
    refine ⟨O', ?_, ?_⟩
    ·rw [heq b he]
     have hlt := (Array.getElem?_eq_some_iff.1 e1).1
     simp only [World.pushObj]
     rw [Array.getElem?_push_lt hlt, ← e1, Array.getElem?_eq_getElem hlt]
    ·exact e2.mono hag (by simp) (Mem.lt_of_live hb)
  ·rw [get_push] at h1 h2
   by_cases e1 : b1 = m.size
   ·by_cases e2 : b2 = m.size
    ·exact absurd (e1.trans e2.symm) hne
    ·simp only [e2, if_false] at h2
     have := h.blk_lt h2
     rw [heq b2 e2, e1, hnew]; exact .inl (by omega)
   ·simp only [e1, if_false] at h1
    by_cases e2 : b2 = m.size
    ·have := h.blk_lt (AObj.live_of_rw h1)
     rw [heq b1 e1, e2, hnew]; omega
    ·simp only [e2, if_false] at h2
     rw [heq b1 e1, heq b2 e2]
     rcases h.inj b1 b2 hne h1 h2 with hi | ⟨c, c2, a1, a2, a3⟩
     ·exact .inl hi
     ·refine .inr ⟨c, c2, by rw [get_push, if_neg e1]; exact a1, by rw [get_push, if_neg e2]; exact a2, ?_⟩
      rw [hag.sh b2 (Mem.lt_of_live h2)]; exact a3
 ·refine ⟨by simp, by simp [World.pushObj], hag, fun b hb => ?_, fun i hi _ => ?_, rfl, rfl, rfl, fun b hb => ?_⟩
  rotate_right
  ·rw [get_push] at hb
   by_cases he : b = m.size
   ·subst he; rw [hnew]; exact .inl (Nat.le_refl _)
   ·rw [if_neg he] at hb; exact .inr ⟨b, hb, heq b he⟩
  ·rw [get_push] at hb
   by_cases he : b = m.size
   ·subst he; rw [hnew]; exact .inl (Nat.le_refl _)
   ·simp only [he, if_false] at hb
    exact .inr ⟨b, hb, heq b he⟩
  ·simp only [World.pushObj]
   rw [Array.getElem?_push_lt hi, Array.getElem?_eq_getElem hi]
/-- A row that does not grow lies alone. -/
theorem Rel.inj_ne {P : Program} {β : Beta} {m : Mem} {w : World} (h : Rel P β m w) {b b' : Nat} (he : b ≠ b') (hb : (Mem.get m b).rw = true) (hng : ∀ c, Mem.get m b ≠ .grow c) (hb' : (Mem.get m b').live = true) : β.blk b ≠ β.blk b' := by
 rcases h.inj b b' he hb hb' with hi | ⟨c, c2, a1, _⟩
 ·exact hi
 ·exact absurd a1 (hng c)
theorem Rel.inj_ne' {P : Program} {β : Beta} {m : Mem} {w : World} (h : Rel P β m w) {b b' : Nat} (he : b ≠ b') (hb : (Mem.get m b).rw = true) (hb' : (Mem.get m b').rw = true) : β.blk b ≠ β.blk b' := by
 rcases h.inj b b' he hb (AObj.live_of_rw hb') with hi | ⟨c, c2, _, a2, _⟩
 ·exact hi
 ·rw [a2] at hb'; cases hb'
theorem Rel.upd {P : Program} {β : Beta} {m : Mem} {w : World} (h : Rel P β m w) {b : Nat} (hb : (Mem.get m b).rw = true) (hng : ∀ c, Mem.get m b ≠ .grow c) {o : AObj} {O : Obj} (ho : ObjRel β m.size b o O) :
  Rel P β (m.setIfInBounds b o) (World.putObj w (β.blk b) O) ∧ Stp β m w β (m.setIfInBounds b o) (World.putObj w (β.blk b) O) := by
 have hlt := Mem.lt_of_live (AObj.live_of_rw hb)
 have hw := h.blk_lt (AObj.live_of_rw hb)
 constructor
 ·refine ⟨by have := h.gsz; simpa using this, h.glob, fun b' hb' => ?_, fun b1 b2 hne h1 h2 => ?_⟩
  ·rw [get_set] at hb' ⊢
   by_cases he : b = b'
   ·subst he
    simp only [true_and, hlt, if_true] at *
    refine ⟨O, ?_, by simpa using ho⟩
    simp only [World.putObj]
    rw [Array.getElem?_setIfInBounds_self_of_lt hw]
   ·simp only [he, false_and, if_false] at hb' ⊢
    obtain ⟨O', e1, e2⟩ := h.obj b' hb'
    refine ⟨O', ?_, by simpa using e2⟩
    simp only [World.putObj]
    rw [Array.getElem?_setIfInBounds_ne (h.inj_ne he hb hng hb')]
    exact e1
  ·have l1 : (Mem.get m b1).rw = true := by
    rw [get_set] at h1
    by_cases he : b = b1
    ·subst he; exact hb
    ·simp only [he, false_and, if_false] at h1; exact h1
   have l2 : (Mem.get m b2).live = true := by
    rw [get_set] at h2
    by_cases he : b = b2
    ·subst he; exact AObj.live_of_rw hb
    ·simp only [he, false_and, if_false] at h2; exact h2
   rcases h.inj b1 b2 hne l1 l2 with hi | ⟨c, c2, a1, a2, a3⟩
   ·exact .inl hi
   ·have n1 : b ≠ b1 := fun e => hng c (e ▸ a1)
    have n2 : b ≠ b2 := fun e => by subst e; rw [a2] at hb; cases hb
    exact .inr ⟨c, c2, by rw [get_set, if_neg (fun h => n1 h.1)]; exact a1, by rw [get_set, if_neg (fun h => n2 h.1)]; exact a2, a3⟩
 ·refine ⟨by simp, by simp [World.putObj], .refl _ _, fun b' hb' => ?_, fun i hi hn => ?_, rfl, rfl, rfl, fun b' hb' => ?_⟩
  rotate_right
  ·rw [get_set] at hb'
   by_cases he : b = b'
   ·subst he; exact .inr ⟨b, AObj.live_of_rw hb, rfl⟩
   ·simp only [he, false_and, if_false] at hb'; exact .inr ⟨b', hb', rfl⟩
  ·rw [get_set] at hb'
   by_cases he : b = b'
   ·subst he; exact .inr ⟨b, hb, rfl⟩
   ·simp only [he, false_and, if_false] at hb'; exact .inr ⟨b', hb', rfl⟩
  ·simp only [World.putObj]
   rw [Array.getElem?_setIfInBounds_ne (hn b hb)]
/-- A block is given up. -/
theorem Rel.kill {P : Program} {β : Beta} {m : Mem} {w : World} (h : Rel P β m w) (b : Nat) :
  Rel P β (m.setIfInBounds b .dead) w ∧ Stp β m w β (m.setIfInBounds b .dead) w := by
 have hl : ∀ b', (Mem.get (m.setIfInBounds b .dead) b').live = true → Mem.get (m.setIfInBounds b .dead) b' = Mem.get m b' := by
  intro b' h1
  rw [get_set] at h1 ⊢
  split at h1
  ·cases h1
  ·rename_i hc; rw [if_neg hc]
 constructor
 ·refine ⟨by have := h.gsz; simpa using this, h.glob, fun b' hb' => ?_, fun b1 b2 hne h1 h2 => ?_⟩
  ·have e := hl b' hb'
   rw [e] at hb' ⊢
   simpa using h.obj b' hb'
  ·have k1 := hl b1 (AObj.live_of_rw h1)
   rw [k1] at h1
   have k2 := hl b2 h2
   rw [k2] at h2
   rcases h.inj b1 b2 hne h1 h2 with hi | ⟨c, c2, a1, a2, a3⟩
   ·exact .inl hi
   ·exact .inr ⟨c, c2, by rw [k1]; exact a1, by rw [k2]; exact a2, a3⟩
 ·refine ⟨by simp, Nat.le_refl _, .refl _ _, fun b' hb' => ?_, fun _ _ _ => rfl, rfl, rfl, rfl, fun b' hb' => by rw [hl b' hb'] at hb'; exact .inr ⟨b', hb', rfl⟩⟩
  rw [hl b' (AObj.live_of_rw hb')] at hb'
  exact .inr ⟨b', hb', rfl⟩
/-- A block of the call's own is written, and goes on under a new name. -/
theorem Rel.alias {P : Program} {β : Beta} {m : Mem} {w : World} (h : Rel P β m w) {b : Nat} (hb : (Mem.get m b).rw = true) (hng : ∀ c, Mem.get m b ≠ .grow c) {o : AObj} {O : Obj}
  (ho : ObjRel (β.ext m.size (β.blk b) (β.cap b)) (m.size + 1) m.size o O) :
  Rel P (β.ext m.size (β.blk b) (β.cap b)) ((m.setIfInBounds b .dead).push o) (World.putObj w (β.blk b) O) ∧
   Stp β m w (β.ext m.size (β.blk b) (β.cap b)) ((m.setIfInBounds b .dead).push o) (World.putObj w (β.blk b) O) := by
 have hlt := Mem.lt_of_live (AObj.live_of_rw hb)
 have hw := h.blk_lt (AObj.live_of_rw hb)
 have hag := Beta.ext_agree β m.size (β.blk b) (β.cap b)
 have heq : ∀ x, x ≠ m.size → (β.ext m.size (β.blk b) (β.cap b)).blk x = β.blk x := fun x hx => by simp [Beta.ext, hx]
 have hnew : (β.ext m.size (β.blk b) (β.cap b)).blk m.size = β.blk b := by simp [Beta.ext]
 have hsz : (m.setIfInBounds b AObj.dead).size = m.size := by simp
 have hl : ∀ b', b' ≠ m.size → (Mem.get ((m.setIfInBounds b .dead).push o) b').live = true → b' ≠ b ∧ Mem.get ((m.setIfInBounds b .dead).push o) b' = Mem.get m b' := by
  intro b' hne h1
  rw [get_push, hsz] at h1 ⊢
  simp only [hne, if_false] at h1 ⊢
  rw [get_set] at h1 ⊢
  split at h1
  ·cases h1
  ·rename_i hc
   rw [if_neg hc]
   refine ⟨fun e => hc ⟨e.symm, e ▸ hlt⟩, rfl⟩
 have hself : Mem.get ((m.setIfInBounds b .dead).push o) m.size = o := by rw [get_push, hsz]; simp
 constructor
 ·refine ⟨by have := h.gsz; simp; omega, fun g hg => ?_, fun b' hb' => ?_, fun b1 b2 hne h1 h2 => ?_⟩
  ·have hg' : g < m.size := Nat.lt_of_lt_of_le hg h.gsz
   rw [hag.blk g hg', hag.sh g hg']; exact h.glob g hg
  ·by_cases he : b' = m.size
   ·subst he
    refine ⟨O, ?_, by rw [hself]; simpa using ho⟩
    rw [hnew]; simp only [World.putObj]
    rw [Array.getElem?_setIfInBounds_self_of_lt hw]
   ·obtain ⟨hnb, e⟩ := hl b' he hb'
    rw [e] at hb' ⊢
    obtain ⟨O', e1, e2⟩ := h.obj b' hb'
    refine ⟨O', ?_, ?_⟩
    ·rw [heq b' he]; simp only [World.putObj]
     rw [Array.getElem?_setIfInBounds_ne (h.inj_ne (fun e => hnb e.symm) hb hng hb')]
     exact e1
    ·exact e2.mono hag (by simp) (Mem.lt_of_live hb')
  ·by_cases e1 : b1 = m.size
   ·by_cases e2 : b2 = m.size
    ·exact absurd (e1.trans e2.symm) hne
    ·obtain ⟨hnb, e⟩ := hl b2 e2 h2
     rw [e] at h2
     rw [e1, hnew, heq b2 e2]
     exact .inl (h.inj_ne (fun e => hnb e.symm) hb hng h2)
   ·obtain ⟨hnb1, e⟩ := hl b1 e1 (AObj.live_of_rw h1)
    rw [e] at h1
    by_cases e2 : b2 = m.size
    ·rw [heq b1 e1, e2, hnew]
     exact .inl (h.inj_ne' hnb1 h1 hb)
    ·obtain ⟨hnb2, e'⟩ := hl b2 e2 h2
     have k2 := h2
     rw [e'] at h2
     rw [heq b1 e1, heq b2 e2]
     rcases h.inj b1 b2 hne h1 h2 with hi | ⟨c, c2, a1, a2, a3⟩
     ·exact .inl hi
     ·exact .inr ⟨c, c2, by rw [e]; exact a1, by rw [e']; exact a2, by rw [hag.sh b2 (Mem.lt_of_live h2)]; exact a3⟩
 ·refine ⟨by simp, by simp [World.putObj], hag, fun b' hb' => ?_, fun i hi hn => ?_, rfl, rfl, rfl, fun b' hb' => ?_⟩
  rotate_right
  ·by_cases he : b' = m.size
   ·subst he; rw [hnew]; exact .inr ⟨b, AObj.live_of_rw hb, rfl⟩
   ·obtain ⟨hnb, e⟩ := hl b' he hb'
    rw [e] at hb'
    exact .inr ⟨b', hb', heq b' he⟩
  ·by_cases he : b' = m.size
   ·subst he; rw [hnew]; exact .inr ⟨b, hb, rfl⟩
   ·obtain ⟨hnb, e⟩ := hl b' he (AObj.live_of_rw hb')
    rw [e] at hb'
    exact .inr ⟨b', hb', heq b' he⟩
  ·simp only [World.putObj]
   rw [Array.getElem?_setIfInBounds_ne (hn b hb)]
/-! ### Cells that are written -/
def lay (c : Array Value) (o : Nat) (d : Array Value) : Array Value := d.zipIdx.foldl (fun cs (x, j) => cs.setIfInBounds (o + j) x) c
theorem putObj_putObj (w : World) (b : Nat) (O O' : Obj) : World.putObj (World.putObj w b O) b O' = World.putObj w b O' := by
 simp [World.putObj]
theorem setCell_eq {w : World} {b o : Nat} {c : Array Value} {e : TypeId} {fz : Nat × Nat} (h : w.heap[b]? = some (.cells c e fz)) (v : Value) :
  w.setCell ⟨b, o, none⟩ v = World.putObj w b (.cells (c.setIfInBounds o v) e fz) := by
 unfold World.setCell World.putObj
 congr 1
 obtain ⟨hlt, he⟩ := Array.getElem?_eq_some_iff.1 h
 apply Array.ext
 ·simp
 ·intro i h1 h2
  rw [Array.getElem_modify, Array.getElem_setIfInBounds]
  ·by_cases hi : b = i
   ·subst hi; simp [he]
   ·simp [hi]
  ·simpa using h1
theorem run_storeCells {P : Program} {b off : Nat} {e : TypeId} {fz : Nat × Nat} : ∀ (l : List Value) (i : Nat) (w : World) (c : Array Value), w.heap[b]? = some (.cells c e fz) →
  (∀ v ∈ l, v.oneCell' = true) → off + i + l.length ≤ c.size → (∀ j, j < c.size → ¬ (fz.1 ≤ j ∧ j < fz.2)) →
  (storeCells ⟨b, off, none⟩ l i).run P w = .ok () (if l = [] then w else World.putObj w b (.cells ((l.zipIdx i).foldl (fun cs (x, j) => cs.setIfInBounds (off + j) x) c) e fz))
 | [], i, w, c, _, _, _, _ => rfl
 | v :: l, i, w, c, h, h1, hlen, hf => by
  unfold storeCells
  simp only [List.length_cons] at hlen
  have hcell : w.cell? ((⟨b, off, none⟩ : Addr).add i) = some (c[off + i]'(by omega)) := by
   rw [add_none, cell_of h]; exact Array.getElem?_eq_getElem (by omega)
  have hfz : w.frozen? ((⟨b, off, none⟩ : Addr).add i) = false := by
   rw [add_none]
   have := hf (off + i) (by omega)
   simp only [World.frozen?, h]
   simpa using this
  rw [Sem.run_bind, run_store P w _ v _ (h1 v (by simp)), hcell]
  simp only [hfz, Bool.false_eq_true, if_false, Result.andThen_ok]
  rw [add_none, setCell_eq h]
  have h' : (World.putObj w b (.cells (c.setIfInBounds (off + i) v) e fz)).heap[b]? = some (.cells (c.setIfInBounds (off + i) v) e fz) := by
   simp only [World.putObj]
   rw [Array.getElem?_setIfInBounds_self_of_lt (Array.getElem?_eq_some_iff.1 h).1]
  rw [run_storeCells l (i + 1) _ _ h' (fun x hx => h1 x (by simp [hx])) (by simp; omega) (by simpa using hf)]
  simp only [List.zipIdx_cons, List.foldl_cons, reduceCtorEq, if_false]
  cases l with
  | nil => simp
  | cons x l => simp only [reduceCtorEq, if_false, putObj_putObj]
theorem run_storeCells' {P : Program} {b off : Nat} {e : TypeId} {fz : Nat × Nat} {w : World} {c d : Array Value} (h : w.heap[b]? = some (.cells c e fz))
  (h1 : d.all Value.oneCell' = true) (hlen : off + d.size ≤ c.size) (hf : ∀ j, j < c.size → ¬ (fz.1 ≤ j ∧ j < fz.2)) :
  (storeCells ⟨b, off, none⟩ d.toList).run P w = .ok () (World.putObj w b (.cells (lay c off d) e fz)) := by
 have := run_storeCells (P := P) (off := off) d.toList 0 w c h (fun v hv => by
  rw [Array.all_eq_true] at h1
  obtain ⟨i, hi, rfl⟩ := List.mem_iff_getElem.1 hv
  simpa using h1 i (by simpa using hi)) (by simpa using hlen) hf
 rw [this]
 have e1 : (d.toList.zipIdx 0).foldl (fun cs (x, j) => cs.setIfInBounds (off + j) x) c = lay c off d := by
  unfold lay; rw [← Array.foldl_toList, Array.toList_zipIdx]
 split
 ·rename_i hd
  have : d = #[] := by apply Array.ext'; simpa using hd
  subst this
  congr 1
  have e2 : lay c off #[] = c := rfl
  rw [e2]
  unfold World.putObj
  obtain ⟨hlt, he⟩ := Array.getElem?_eq_some_iff.1 h
  have : w.heap.setIfInBounds b (.cells c e fz) = w.heap := by
   apply Array.ext
   ·simp
   ·intro i h1 h2
    rw [Array.getElem_setIfInBounds]
    ·by_cases hi : b = i
     ·subst hi; simp [he]
     ·simp [hi]
    ·simpa using h1
  rw [this]
 ·rw [e1]
/-! ### Rows that grow while what was there is still read -/
theorem get_set_self {m : Mem} {b : Nat} {o : AObj} (h : b < m.size) : Mem.get (m.setIfInBounds b o) b = o := by rw [get_set, if_pos ⟨rfl, h⟩]
theorem get_set_ne {m : Mem} {b i : Nat} {o : AObj} (h : b ≠ i) : Mem.get (m.setIfInBounds b o) i = Mem.get m i := by rw [get_set, if_neg (fun e => h e.1)]
theorem Rel.grow_of {P : Program} {β : Beta} {m : Mem} {w : World} (h : Rel P β m w) {b : Nat} {c : Array Value} (hb : Mem.get m b = .cells true c) :
  Rel P β (m.setIfInBounds b (.grow c)) w ∧ Stp β m w β (m.setIfInBounds b (.grow c)) w := by
 have hrw : (Mem.get m b).rw = true := by rw [hb]; rfl
 have hng : ∀ c', Mem.get m b ≠ .grow c' := fun c' e => by rw [hb] at e; cases e
 have hlt := Mem.lt_of_live (AObj.live_of_rw hrw)
 have hrw' : ∀ b', (Mem.get (m.setIfInBounds b (.grow c)) b').rw = true → (Mem.get m b').rw = true := fun b' hb' => by
  by_cases he : b = b'
  ·subst he; exact hrw
  ·rwa [get_set_ne he] at hb'
 have hlive : ∀ b', (Mem.get (m.setIfInBounds b (.grow c)) b').live = true → (Mem.get m b').live = true := fun b' hb' => by
  by_cases he : b = b'
  ·subst he; exact AObj.live_of_rw hrw
  ·rwa [get_set_ne he] at hb'
 constructor
 ·refine ⟨by have := h.gsz; simpa using this, h.glob, fun b' hb' => ?_, fun b1 b2 hne h1 h2 => ?_⟩
  ·obtain ⟨O, e1, e2⟩ := h.obj b' (hlive b' hb')
   refine ⟨O, e1, ?_⟩
   by_cases he : b = b'
   ·subst he
    rw [hb] at e2
    obtain ⟨c', e, fz, r1, r2, r3, r4⟩ := e2
    rw [get_set_self hlt]
    exact ⟨c', e, fz, r1, r2, by simpa using r3, r4⟩
   ·rw [get_set_ne he]; simpa using e2
  ·rcases h.inj b1 b2 hne (hrw' b1 h1) (hlive b2 h2) with hi | ⟨c1, c2, a1, a2, a3⟩
   ·exact .inl hi
   ·have n1 : b ≠ b1 := fun e => hng c1 (e ▸ a1)
    have n2 : b ≠ b2 := fun e => by subst e; rw [hb] at a2; cases a2
    exact .inr ⟨c1, c2, by rw [get_set_ne n1]; exact a1, by rw [get_set_ne n2]; exact a2, a3⟩
 ·exact ⟨by simp, Nat.le_refl _, .refl _ _, fun b' hb' => .inr ⟨b', hrw' b' hb', rfl⟩, fun _ _ _ => rfl, rfl, rfl, rfl, fun b' hb' => .inr ⟨b', hlive b' hb', rfl⟩⟩
theorem Rel.freeze {P : Program} {β : Beta} {m : Mem} {w : World} (h : Rel P β m w) {b : Nat} {c : Array Value} (hb : Mem.get m b = .grow c) :
  Rel P β (m.setIfInBounds b (.cells false c)) w ∧ Stp β m w β (m.setIfInBounds b (.cells false c)) w := by
 have hrw : (Mem.get m b).rw = true := by rw [hb]; rfl
 have hlt := Mem.lt_of_live (AObj.live_of_rw hrw)
 have hrw' : ∀ b', (Mem.get (m.setIfInBounds b (.cells false c)) b').rw = true → b ≠ b' ∧ (Mem.get m b').rw = true := fun b' hb' => by
  by_cases he : b = b'
  ·subst he; rw [get_set_self hlt] at hb'; cases hb'
  ·exact ⟨he, by rwa [get_set_ne he] at hb'⟩
 have hlive : ∀ b', (Mem.get (m.setIfInBounds b (.cells false c)) b').live = true → (Mem.get m b').live = true := fun b' hb' => by
  by_cases he : b = b'
  ·subst he; exact AObj.live_of_rw hrw
  ·rwa [get_set_ne he] at hb'
 constructor
 ·refine ⟨by have := h.gsz; simpa using this, h.glob, fun b' hb' => ?_, fun b1 b2 hne h1 h2 => ?_⟩
  ·obtain ⟨O, e1, e2⟩ := h.obj b' (hlive b' hb')
   refine ⟨O, e1, ?_⟩
   by_cases he : b = b'
   ·subst he
    rw [hb] at e2
    obtain ⟨c', e, fz, r1, r2, r3, r4⟩ := e2
    rw [get_set_self hlt]
    exact ⟨c', e, fz, r1, r2, by simpa using r3, fun hf => by cases hf⟩
   ·rw [get_set_ne he]; simpa using e2
  ·obtain ⟨n1, l1⟩ := hrw' b1 h1
   by_cases n2 : b = b2
   ·subst n2
    rcases h.inj b1 b hne l1 (AObj.live_of_rw hrw) with hi | ⟨c1, c2, _, a2, _⟩
    ·exact .inl hi
    ·rw [hb] at a2; cases a2
   ·rcases h.inj b1 b2 hne l1 (hlive b2 h2) with hi | ⟨c1, c2, a1, a2, a3⟩
    ·exact .inl hi
    ·exact .inr ⟨c1, c2, by rw [get_set_ne n1]; exact a1, by rw [get_set_ne n2]; exact a2, a3⟩
 ·exact ⟨by simp, Nat.le_refl _, .refl _ _, fun b' hb' => .inr ⟨b', (hrw' b' hb').2, rfl⟩, fun _ _ _ => rfl, rfl, rfl, rfl, fun b' hb' => .inr ⟨b', hlive b' hb', rfl⟩⟩
/-- A row that grows is written beyond its end: what was there stays, under its old name. -/
theorem Rel.branch {P : Program} {β : Beta} {m : Mem} {w : World} (h : Rel P β m w) {b : Nat} {c c2 c0 c1 : Array Value} {ty : TypeId} {fz : Nat × Nat} (hb : Mem.get m b = .grow c) (hO0 : w.heap[β.blk b]? = some (.cells c0 ty fz))
  (hkeep : ∀ i, i < c.size → c1[i]? = c0[i]?) (hsz01 : c1.size = c0.size) (hle : c.size ≤ c2.size)
  (ho : ObjRel (β.ext m.size (β.blk b) (β.cap b)) (m.size + 1) m.size (.grow c2) (.cells c1 ty fz)) :
  Rel P (β.ext m.size (β.blk b) (β.cap b)) ((m.setIfInBounds b (.cells false c)).push (.grow c2)) (World.putObj w (β.blk b) (.cells c1 ty fz)) ∧
   Stp β m w (β.ext m.size (β.blk b) (β.cap b)) ((m.setIfInBounds b (.cells false c)).push (.grow c2)) (World.putObj w (β.blk b) (.cells c1 ty fz)) := by
 have hrw : (Mem.get m b).rw = true := by rw [hb]; rfl
 have hlt := Mem.lt_of_live (AObj.live_of_rw hrw)
 have hw := h.blk_lt (AObj.live_of_rw hrw)
 have hag := Beta.ext_agree β m.size (β.blk b) (β.cap b)
 have heq : ∀ x, x ≠ m.size → (β.ext m.size (β.blk b) (β.cap b)).blk x = β.blk x := fun x hx => by simp [Beta.ext, hx]
 have hnew : (β.ext m.size (β.blk b) (β.cap b)).blk m.size = β.blk b := by simp [Beta.ext]
 have hsz : (m.setIfInBounds b (.cells false c)).size = m.size := by simp
 have hself : Mem.get ((m.setIfInBounds b (.cells false c)).push (.grow c2)) m.size = .grow c2 := by rw [get_push, hsz]; simp
 have hold : ∀ b', b' ≠ m.size → b' ≠ b → Mem.get ((m.setIfInBounds b (.cells false c)).push (.grow c2)) b' = Mem.get m b' := fun b' n1 n2 => by
  rw [get_push, hsz, if_neg n1, get_set_ne (fun e => n2 e.symm)]
 have hbb : Mem.get ((m.setIfInBounds b (.cells false c)).push (.grow c2)) b = .cells false c := by
  rw [get_push, hsz, if_neg (by omega), get_set_self hlt]
 have hbn : b ≠ m.size := by omega
 constructor
 ·refine ⟨by have := h.gsz; simp; omega, fun g hg => ?_, fun b' hb' => ?_, fun b1 b2 hne h1 h2 => ?_⟩
  ·have hg' : g < m.size := Nat.lt_of_lt_of_le hg h.gsz
   rw [hag.blk g hg', hag.sh g hg']; exact h.glob g hg
  ·by_cases he : b' = m.size
   ·subst he
    refine ⟨.cells c1 ty fz, ?_, by rw [hself]; simpa using ho⟩
    rw [hnew]; simp only [World.putObj]
    rw [Array.getElem?_setIfInBounds_self_of_lt hw]
   ·by_cases hbe : b' = b
    ·subst hbe
     obtain ⟨c', e', fz', g1, g2, g3, g4, g5, g6⟩ := h.growing b' c hb
     rw [hO0] at g1
     injection g1 with g1; injection g1 with q1 q2 q3; subst q1 q2 q3
     refine ⟨.cells c1 ty fz, ?_, ?_⟩
     ·rw [heq b' he]; simp only [World.putObj]
      rw [Array.getElem?_setIfInBounds_self_of_lt hw]
     ·rw [hbb]
      refine ObjRel.mono (β := β) (N := m.size) ⟨c1, ty, fz, rfl, g2, fun i v hi => ?_, fun hf => by cases hf⟩ hag (by simp) hlt
      obtain ⟨v', e', hv⟩ := g3 i v hi
      have hi' := (Array.getElem?_eq_some_iff.1 hi).1
      refine ⟨v', ?_, hv⟩
      rw [g4, Nat.zero_add] at e' ⊢
      rw [hkeep i hi']; exact e'
    ·rw [hold b' he hbe] at hb' ⊢
     obtain ⟨O', e1, e2⟩ := h.obj b' hb'
     rcases h.inj b b' (fun e => hbe e.symm) hrw hb' with hi | ⟨c3, c4, a1, a2, a3⟩
     ·refine ⟨O', ?_, e2.mono hag (by simp) (Mem.lt_of_live hb')⟩
      rw [heq b' he]; simp only [World.putObj]
      rw [Array.getElem?_setIfInBounds_ne hi]; exact e1
     ·by_cases hbk : β.blk b = β.blk b'
      ·rw [hb] at a1; injection a1 with a1; subst a1
       rw [a2] at e2 ⊢
       rw [← hbk, hO0] at e1
       injection e1 with e1; subst e1
       obtain ⟨c', e', fz', q, r2, r3, r4⟩ := e2
       injection q with q1 q2 q3; subst q1 q2 q3
       refine ⟨.cells c1 ty fz, ?_, ?_⟩
       ·rw [heq b' he, ← hbk]; simp only [World.putObj]
        rw [Array.getElem?_setIfInBounds_self_of_lt hw]
       ·refine ObjRel.mono (β := β) (N := m.size) ⟨c1, ty, fz, rfl, r2, fun i v hi => ?_, fun hf => by cases hf⟩ hag (by simp) (Mem.lt_of_live hb')
        obtain ⟨v', e', hv⟩ := r3 i v hi
        have hi' := (Array.getElem?_eq_some_iff.1 hi).1
        exact ⟨v', by rw [hkeep _ (by omega)]; exact e', hv⟩
      ·refine ⟨O', ?_, e2.mono hag (by simp) (Mem.lt_of_live hb')⟩
       rw [heq b' he]; simp only [World.putObj]
       rw [Array.getElem?_setIfInBounds_ne hbk]; exact e1
  ·by_cases e1 : b1 = m.size
   ·by_cases e2 : b2 = m.size
    ·exact absurd (e1.trans e2.symm) hne
    ·rw [e1, hnew, heq b2 e2]
     by_cases hbe : b2 = b
     ·subst hbe
      exact .inr ⟨c2, c, hself, hbb, by rw [hag.sh b2 hlt, (h.growing b2 c hb).choose_spec.choose_spec.choose_spec.2.2.2.1]; omega⟩
     ·have k2 := hold b2 e2 hbe
      rw [k2] at h2
      rcases h.inj b b2 (fun e => hbe e.symm) hrw h2 with hi | ⟨c3, c4, a1, a2, a3⟩
      ·exact .inl hi
      ·rw [hb] at a1; injection a1 with a1; subst a1
       exact .inr ⟨c2, c4, hself, by rw [k2]; exact a2, by rw [hag.sh b2 (Mem.lt_of_live h2)]; omega⟩
   ·have hb1 : b1 ≠ b := fun e => by subst e; rw [hbb] at h1; cases h1
    have k1 := hold b1 e1 hb1
    rw [k1] at h1
    by_cases e2 : b2 = m.size
    ·rw [heq b1 e1, e2, hnew]
     exact .inl (h.inj_ne' hb1 h1 hrw)
    ·rw [heq b1 e1, heq b2 e2]
     by_cases hbe : b2 = b
     ·subst hbe; exact .inl (h.inj_ne' hb1 h1 hrw)
     ·have k2 := hold b2 e2 hbe
      rw [k2] at h2
      rcases h.inj b1 b2 hne h1 h2 with hi | ⟨c3, c4, a1, a2, a3⟩
      ·exact .inl hi
      ·exact .inr ⟨c3, c4, by rw [k1]; exact a1, by rw [k2]; exact a2, by rw [hag.sh b2 (Mem.lt_of_live h2)]; exact a3⟩
 ·refine ⟨by simp, by simp [World.putObj], hag, fun b' hb' => ?_, fun i hi hn => ?_, rfl, rfl, rfl, fun b' hb' => ?_⟩
  rotate_right
  ·by_cases he : b' = m.size
   ·subst he; rw [hnew]; exact .inr ⟨b, AObj.live_of_rw hrw, rfl⟩
   ·by_cases hbe : b' = b
    ·subst hbe; exact .inr ⟨b', AObj.live_of_rw hrw, heq b' he⟩
    ·rw [hold b' he hbe] at hb'
     exact .inr ⟨b', hb', heq b' he⟩
  ·by_cases he : b' = m.size
   ·subst he; rw [hnew]; exact .inr ⟨b, hrw, rfl⟩
   ·have hbe : b' ≠ b := fun e => by subst e; rw [hbb] at hb'; cases hb'
    rw [hold b' he hbe] at hb'
    exact .inr ⟨b', hb', heq b' he⟩
  ·simp only [World.putObj]
   rw [Array.getElem?_setIfInBounds_ne (hn b hrw)]
end Go.AM

/-! A10 -/
namespace Go.AM
/-- What a piece of the machine comes to, beside an abstract value and memory. -/
def Eff (P : Program) (β : Beta) (m : Mem) (w : World) (s : Sem Value) (v : Value) (m' : Mem) : Prop :=
  ∃ v' w' β', s.run P w = .ok v' w' ∧ VRel β' m'.size v v' ∧ Rel P β' m' w' ∧ Stp β m w β' m' w'
theorem lay_get (o : Nat) : ∀ (l : List Value) (k : Nat) (c : Array Value) (i : Nat),
  ((l.zipIdx k).foldl (fun cs (x, j) => cs.setIfInBounds (o + j) x) c)[i]? = if o + k ≤ i ∧ i < o + k + l.length ∧ i < c.size then l[i - (o + k)]? else c[i]?
 | [], k, c, i => by
  simp only [List.zipIdx_nil, List.foldl_nil, List.length_nil, Nat.add_zero]
  rw [if_neg (by omega)]
 | x :: l, k, c, i => by
  simp only [List.zipIdx_cons, List.foldl_cons, List.length_cons]
  rw [lay_get o l (k + 1) _ i, Array.size_setIfInBounds]
  by_cases h1 : o + (k + 1) ≤ i ∧ i < o + (k + 1) + l.length ∧ i < c.size
  ·rw [if_pos h1, if_pos (by omega)]
   have : i - (o + k) = (i - (o + (k + 1))) + 1 := by omega
   rw [this, List.getElem?_cons_succ]
  ·rw [if_neg h1, Array.getElem?_setIfInBounds]
   by_cases h2 : o + k = i
   ·subst h2
    by_cases h3 : o + k < c.size
    ·rw [if_pos rfl, if_pos h3, if_pos (by omega)]; simp
    ·rw [if_pos rfl, if_neg h3, if_neg (by omega)]
     exact (Array.getElem?_eq_none_iff.2 (by omega)).symm
   ·rw [if_neg h2, if_neg (by omega)]
theorem lay_get' (c : Array Value) (o : Nat) (d : Array Value) (i : Nat) : (lay c o d)[i]? = if o ≤ i ∧ i < o + d.size ∧ i < c.size then d[i - o]? else c[i]? := by
 have := lay_get o d.toList 0 c i
 unfold lay
 rw [← Array.foldl_toList, Array.toList_zipIdx]
 simpa using this
theorem lay_size (c : Array Value) (o : Nat) (d : Array Value) : (lay c o d).size = c.size := by
 unfold lay
 rw [← Array.foldl_toList]
 generalize d.zipIdx.toList = l
 induction l generalizing c with
 | nil => rfl
 | cons x l ih => rw [List.foldl_cons, ih]; simp
theorem lay_rel {β : Beta} {N : Nat} {c c' d d' : Array Value} {o : Nat} (hc : ∀ (i : Nat) v, c[i]? = some v → ∃ v', c'[i]? = some v' ∧ VRel β N v v') (hd : ARel β N d d') :
  ∀ (i : Nat) v, (lay c o d)[i]? = some v → ∃ v', (lay c' o d')[i]? = some v' ∧ VRel β N v v' := by
 intro i v h
 rw [lay_get'] at h ⊢
 split at h
 ·rename_i hi
  obtain ⟨u, hu, _⟩ := hc i (c[i]'(by omega)) (Array.getElem?_eq_getElem _)
  have hlt := (Array.getElem?_eq_some_iff.1 hu).1
  rw [if_pos ⟨hi.1, by rw [← hd.1]; exact hi.2.1, hlt⟩]
  exact hd.get h
 ·rename_i hi
  obtain ⟨u, hu, hr⟩ := hc i v h
  have hlt := (Array.getElem?_eq_some_iff.1 h).1
  rw [if_neg (by rw [← hd.1]; intro hh; exact hi ⟨hh.1, hh.2.1, hlt⟩)]
  exact ⟨u, hu, hr⟩
theorem oneCell_rel {β : Beta} {N : Nat} {v v' : Value} (h : VRel β N v v') : v'.oneCell' = v.oneCell' := by cases h <;> rfl
theorem ARel.oneCell {β : Beta} {N : Nat} {c c' : Array Value} (h : ARel β N c c') (h1 : c.all Value.oneCell' = true) : c'.all Value.oneCell' = true := by
 rw [Array.all_eq_true] at h1 ⊢
 intro i hi
 have hi' : i < c.size := h.1 ▸ hi
 rw [oneCell_rel (h.2 i _ _ (Array.getElem?_eq_getElem hi') (Array.getElem?_eq_getElem hi))]
 exact h1 i hi'
theorem new_cells {P : Program} {β : Beta} {m : Mem} {w : World} (hR : Rel P β m w) {c c' : Array Value} (hc : ∀ (i : Nat) v, c[i]? = some v → ∃ v', c'[i]? = some v' ∧ VRel β m.size v v') (hle : c.size ≤ c'.size) (e : TypeId) :
  Rel P (β.ext m.size w.heap.size c'.size) (m.push (.cells true c)) (World.pushObj w (.cells c' e)) ∧ Stp β m w (β.ext m.size w.heap.size c'.size) (m.push (.cells true c)) (World.pushObj w (.cells c' e)) := by
 refine hR.push ⟨c', e, (0, 0), rfl, ?_, fun i v hi => ?_, fun _ => ⟨?_, ?_, fun i => by omega⟩⟩
 ·simp [Beta.ext]; exact hle
 ·obtain ⟨v', hv', hr⟩ := hc i v hi
  exact ⟨v', by simpa [Beta.ext] using hv', hr.mono (Beta.ext_agree _ _ _ _) (by omega)⟩
 ·simp [Beta.ext]
 ·simp [Beta.ext]
theorem ptr_new {β : Beta} {m : Mem} {w : World} {cap : Nat} (o : AObj) : VRel (β.ext m.size w.heap.size cap) (m.push o).size (.pointer (some ⟨m.size, 0, none⟩)) (.pointer (some ⟨w.heap.size, 0, none⟩)) := by
 have := VRel.ptr (β := β.ext m.size w.heap.size cap) (N := (m.push o).size) m.size 0 (by simp)
 simpa [Beta.ext] using this
/-! ### Variables -/
def aAlloc (P : Program) (m : Mem) (e : TypeId) : Option (Value × Mem) :=
  match zeroOf P e with
  | some z => if z.cells.all flat0 then some (.pointer (some ⟨m.size, 0, none⟩), m.push (.cells true z.cells)) else none
  | none => none
theorem aAlloc_sound {P : Program} {β : Beta} {m m' : Mem} {w : World} {e : TypeId} {v : Value} (hR : Rel P β m w) (h : aAlloc P m e = some (v, m')) : Eff P β m w (Instr.alloc e true (.tuple #[])) v m' := by
 unfold aAlloc at h
 split at h
 ·rename_i z hz
  split at h
  ·rename_i hf
   injection h with h; injection h with h1 h2; subst h1 h2
   obtain ⟨r1, r2⟩ := new_cells hR (fun i v hi => (ARel.flat (β := β) (N := m.size) hf).get hi) (Nat.le_refl _) e
   exact ⟨_, _, _, by simp [Instr.alloc, run_zeroValue hz, newVar, newRow]; rfl, ptr_new _, r1, r2⟩
  ·cases h
 ·cases h
def aBox (m : Mem) (x : Value) : Value × Mem := (.pointer (some ⟨m.size, 0, none⟩), m.push (.cells true x.cells))
theorem aBox_sound {P : Program} {β : Beta} {m : Mem} {w : World} {e : TypeId} {x x' : Value} (hR : Rel P β m w) (hx : VRel β m.size x x') : Eff P β m w (Instr.box e x') (aBox m x).1 (aBox m x).2 := by
 have hc := ARel.cells hx
 obtain ⟨r1, r2⟩ := new_cells hR (fun i v hi => hc.get hi) (by rw [hc.1]; exact Nat.le_refl _) e
 exact ⟨_, _, _, by simp [Instr.box, newVar, newRow]; rfl, ptr_new _, r1, r2⟩
def aStore (P : Program) (m : Mem) (t : TypeId) (a v : Value) : Option Mem :=
  match a with
  | .pointer (some ⟨b, o, none⟩) =>
    match Mem.get m b with
    | .cells true c => if szOf P t = some v.cells.size ∧ o + v.cells.size ≤ c.size ∧ v.cells.all Value.oneCell' = true then some (m.setIfInBounds b (.cells true (lay c o v.cells))) else none
    | _ => none
  | _ => none
theorem write_cells {P : Program} {β : Beta} {m : Mem} {w : World} (hR : Rel P β m w) {b o : Nat} {c d d' : Array Value} (hb : Mem.get m b = .cells true c) (hd : ARel β m.size d d') (ho : o + d.size ≤ c.size) (h1 : d.all Value.oneCell' = true) :
  ∃ w', (storeCells ⟨β.blk b, β.sh b + o, none⟩ d'.toList).run P w = .ok () w' ∧ Rel P β (m.setIfInBounds b (.cells true (lay c o d))) w' ∧ Stp β m w β (m.setIfInBounds b (.cells true (lay c o d))) w' := by
 obtain ⟨c', e', fz, hw, hcap, hcs, hrw⟩ := hR.cells b true c hb
 obtain ⟨hsh, hsz, hfz⟩ := hrw rfl
 rw [hsh] at hcap
 simp only [Nat.zero_add] at hcap
 have hcs' : ∀ (i : Nat) v, c[i]? = some v → ∃ v', c'[i]? = some v' ∧ VRel β m.size v v' := by
  intro i v hi
  have := hcs i v hi
  rw [hsh, Nat.zero_add] at this; exact this
 have hr := run_storeCells' (P := P) (off := β.sh b + o) hw (hd.oneCell h1) (by rw [hsh, ← hd.1]; omega) (fun j _ => hfz j)
 refine ⟨_, hr, ?_⟩
 rw [hsh, Nat.zero_add]
 refine hR.upd (by rw [hb]; rfl) (fun c h => by rw [hb] at h; cases h) ⟨lay c' o d', e', fz, rfl, ?_, fun i v hi => ?_, fun _ => ⟨hsh, by rw [lay_size]; exact hsz, hfz⟩⟩
 ·rw [hsh, lay_size]; omega
 ·rw [hsh, Nat.zero_add]; exact lay_rel hcs' hd i v hi
theorem aStore_sound {P : Program} {β : Beta} {m m' : Mem} {w : World} {t : TypeId} {a a' v v' : Value} (hR : Rel P β m w) (ha : VRel β m.size a a') (hv : VRel β m.size v v') (h : aStore P m t a v = some m') :
  ∃ w', (Instr.storeAt t a' v').run P w = .ok () w' ∧ Rel P β m' w' ∧ Stp β m w β m' w' := by
 unfold aStore at h
 split at h
 ·rename_i b o
  cases ha with
  | ptr _ _ hb =>
   split at h
   ·rename_i c e1
    split at h
    ·rename_i hc
     injection h with h; subst h
     have hcells := ARel.cells hv
     obtain ⟨w', hr, r1, r2⟩ := write_cells hR e1 hcells hc.2.1 hc.2.2
     refine ⟨w', ?_, r1, r2⟩
     simp only [Instr.storeAt, Instr.sureAddr, Sem.run_bind, Sem.run_pure, Result.andThen_ok, storeVar, run_sizeOf hc.1]
     rw [if_neg (by rw [hcells.1]; simp)]
     exact hr
    ·cases h
   ·cases h
 ·cases h
/-! ### Slices that are made -/
theorem zeros_rel {β : Beta} {N : Nat} {z : Array Value} (hz : z.all flat0 = true) (h0 : z.size ≠ 0) (n : Nat) : ARel β N ((Array.range n).map (z[· % z.size]!)) ((Array.range n).map (z[· % z.size]!)) := by
 refine ARel.map _ _ _ (fun x _ => ?_)
 refine .flat0 ?_
 have hlt : x % z.size < z.size := Nat.mod_lt _ (Nat.pos_of_ne_zero h0)
 rw [Array.all_eq_true] at hz
 have := hz (x % z.size) hlt
 rw [getElem!_pos z (x % z.size) hlt]; exact this
theorem slice_new {β : Beta} {m : Mem} {w : World} {o : AObj} {sz len cap cells : Nat} (hz : 0 < sz) (hl : len ≤ cap) (hc : cap * sz ≤ cells) (hm : cap < 9223372036854775808) :
  VRel (β.ext m.size w.heap.size cells) (m.push o).size (.slice (some ⟨m.size, 0, some sz⟩) len cap) (.slice (some ⟨w.heap.size, 0, none⟩) len cap) := by
 have := VRel.slice (β := β.ext m.size w.heap.size cells) (N := (m.push o).size) m.size 0 sz len cap cap (by simp) hz hl (Nat.le_refl _) (by simp [Beta.ext]; exact hc) hm
 simpa [Beta.ext] using this
theorem slice_new' {β : Beta} {m : Mem} {w : World} {o : AObj} {sz len cap cap' cells : Nat} (hz : 0 < sz) (hl : len ≤ cap) (hcc : cap ≤ cap') (hc : cap' * sz ≤ cells) (hm : cap' < 9223372036854775808) :
  VRel (β.ext m.size w.heap.size cells) (m.push o).size (.slice (some ⟨m.size, 0, some sz⟩) len cap) (.slice (some ⟨w.heap.size, 0, none⟩) len cap') := by
 have := VRel.slice (β := β.ext m.size w.heap.size cells) (N := (m.push o).size) m.size 0 sz len cap cap' (by simp) hz hl hcc (by simp [Beta.ext]; exact hc) hm
 simpa [Beta.ext] using this
def aBuildSlice (P : Program) (m : Mem) (t : TypeId) (len : Nat) (ps : List (Nat × Value)) : Option (Value × Mem) :=
  match undOf P t with
  | some (.slice elem) =>
    match szOf P elem, zeroOf P elem with
    | some sz, some z =>
      if 0 < sz ∧ len * sz ≤ 16777216 ∧ z.cells.size ≠ 0 ∧ z.cells.all flat0 = true then
        match Instr.fill (fun i => some (i * sz, sz)) (if len * sz = 0 then #[] else (Array.range (len * sz)).map (z.cells[· % z.cells.size]!)) ps with
        | some c => if c.size = len * sz then some (.slice (some ⟨m.size, 0, some sz⟩) len len, m.push (.cells true c)) else none
        | none => none
      else none
    | _, _ => none
  | _ => none
theorem aBuildSlice_sound {P : Program} {β : Beta} {m m' : Mem} {w : World} {t : TypeId} {len : Nat} {ps : List (Nat × Value)} {ps' : Array (Nat × Value)} {v : Value} (hR : Rel P β m w) (hp : PRel β m.size ps ps'.toList)
  (h : aBuildSlice P m t len ps = some (v, m')) : Eff P β m w (Instr.buildSlice t len ps') v m' := by
 unfold aBuildSlice at h
 split at h
 ·rename_i elem e1
  split at h
  ·rename_i sz z e2 e3
   split at h
   ·rename_i hc
    split at h
    ·rename_i c ec
     split at h
     ·rename_i hcs
      injection h with h; injection h with h1 h2; subst h1 h2
      have hz := zeros_rel (β := β) (N := m.size) hc.2.2.2 hc.2.2.1 (len * sz)
      have h24 : ¬ (len * sz > 2 ^ 24) := by have := hc.2.1; omega
      by_cases h0 : len * sz = 0
      ·rw [if_pos h0] at ec
       obtain ⟨c', ec', hcc⟩ := fill_rel _ ps ps'.toList _ _ c hp (ARel.nil β m.size) ec
       obtain ⟨r1, r2⟩ := new_cells hR (fun i v hi => hcc.get hi) (by rw [hcc.1]; exact Nat.le_refl _) elem
       have hsz' : c'.size = len * sz := by rw [← hcc.1]; exact hcs
       refine ⟨_, _, _, ?_, slice_new (w := w) hc.1 (Nat.le_refl _) (Nat.le_of_eq hsz'.symm) (by have := Nat.le_mul_of_pos_right len hc.1; have := hc.2.1; omega), r1, r2⟩
       have hm : ∀ f : Nat → Value, (Array.range (len * sz)).map f = #[] := by intro f; rw [h0]; simp
       simp only [Instr.buildSlice, Sem.run_bind, run_underlying e1, Result.andThen_ok, run_sizeOf e2, h24, if_false]
       rw [if_pos h0]
       simp only [Sem.run_bind, Sem.run_pure, Result.andThen_ok, hm, ec', newRow, run_newObj]
       rfl
      ·rw [if_neg h0] at ec
       obtain ⟨c', ec', hcc⟩ := fill_rel _ ps ps'.toList _ _ c hp hz ec
       obtain ⟨r1, r2⟩ := new_cells hR (fun i v hi => hcc.get hi) (by rw [hcc.1]; exact Nat.le_refl _) elem
       have hsz' : c'.size = len * sz := by rw [← hcc.1]; exact hcs
       refine ⟨_, _, _, ?_, slice_new (w := w) hc.1 (Nat.le_refl _) (Nat.le_of_eq hsz'.symm) (by have := Nat.le_mul_of_pos_right len hc.1; have := hc.2.1; omega), r1, r2⟩
       simp only [Instr.buildSlice, Sem.run_bind, run_underlying e1, Result.andThen_ok, run_sizeOf e2, h24, if_false]
       rw [if_neg h0]
       simp only [Sem.run_bind, run_zeroValue e3, Sem.run_pure, Result.andThen_ok, ec', newRow, run_newObj]
       rfl
     ·cases h
    ·cases h
   ·cases h
  ·cases h
 ·cases h
theorem wrap_i64 {n : Int} (h0 : 0 ≤ n) (h1 : n < 9223372036854775808) : IntKind.i64.wrap n = n := by
 have e : IntKind.i64.bits = 64 := rfl
 unfold IntKind.wrap
 simp only [e]
 have : n % (2 ^ 64 : Int) = n := Int.emod_eq_of_lt h0 (by omega)
 rw [this]
 split
 ·rename_i hh; simp at hh; omega
 ·rfl
def bytesOf' (P : Program) (t : TypeId) : Option Nat := (infoF P t).map (·.bytes)
theorem info_of {P : Program} {t : TypeId} {n : Nat} (h : bytesOf' P t = some n) : ∃ i, P.info? t = some i ∧ i.bytes = n := by
 unfold bytesOf' at h
 cases e : infoF P t with
 | none => rw [e] at h; cases h
 | some i => rw [e] at h; injection h with h; exact ⟨i, infoF_spec e, h⟩
def aMakeSlice (P : Program) (m : Mem) (t : TypeId) (len cap : Value) : Option (Value × Mem) :=
  match undOf P t, len, cap with
  | some (.slice elem), .int _ l, .int _ c =>
    match szOf P elem, zeroOf P elem, bytesOf' P elem with
    | some sz, some z, some by_ =>
      if 0 < sz ∧ z.cells.size ≠ 0 ∧ z.cells.all flat0 = true ∧ 0 ≤ l ∧ l ≤ c ∧ c ≤ 1099511627776 ∧ by_ * c.toNat ≤ 140737488355328 then
        some (.slice (some ⟨m.size, 0, some sz⟩) l.toNat c.toNat, m.push (.cells true ((Array.range (c.toNat * sz)).map (z.cells[· % z.cells.size]!))))
      else none
    | _, _, _ => none
  | _, _, _ => none
theorem aMakeSlice_sound {P : Program} {β : Beta} {m m' : Mem} {w : World} {t : TypeId} {len cap len' cap' v : Value} (hR : Rel P β m w) (hl : VRel β m.size len len') (hc : VRel β m.size cap cap')
  (h : aMakeSlice P m t len cap = some (v, m')) : Eff P β m w (Instr.makeSlice t len' cap') v m' := by
 unfold aMakeSlice at h
 split at h
 ·rename_i elem k l k2 c e1
  cases hl; cases hc
  split at h
  ·rename_i sz z by_ e2 e3 e4
   split at h
   ·rename_i hcond
    obtain ⟨hsz, hz0, hzf, hl0, hlc, hcb, hby⟩ := hcond
    injection h with h; injection h with h1 h2; subst h1 h2
    obtain ⟨i, ei, eb⟩ := info_of e4
    have hz := zeros_rel (β := β) (N := m.size) hzf hz0 (c.toNat * sz)
    obtain ⟨r1, r2⟩ := new_cells hR (fun i v hi => hz.get hi) (by rw [hz.1]; exact Nat.le_refl _) elem
    refine ⟨_, _, _, ?_, slice_new (w := w) hsz (by omega) (by simp) (by omega), r1, r2⟩
    have hwl := wrap_i64 hl0 (by omega)
    have hwc := wrap_i64 (n := c) (by omega) (by omega)
    have hnl : ¬ ((i.bytes : Int) * c > 2 ^ 48) := by
     have : (i.bytes : Int) * c = ((i.bytes * c.toNat : Nat) : Int) := by rw [Int.natCast_mul]; congr 1; omega
     rw [this, eb]; omega
    have hcond : ((decide (c < 0) || decide ((i.bytes : Int) * c > 2 ^ 48)) || decide (l < 0) || decide (l > c)) = false := by
     simp only [Bool.or_eq_false_iff, decide_eq_false_iff_not]
     exact ⟨⟨⟨by omega, hnl⟩, by omega⟩, by omega⟩
    simp only [Instr.makeSlice, Sem.run_bind, run_underlying e1, Result.andThen_ok, asInt, asIntOf, Sem.run_pure, run_typeInfo ei, hwl, hwc]
    rw [if_neg (by rw [hcond]; simp)]
    simp only [Sem.run_bind, run_askRoom, Result.andThen_ok, run_sizeOf e2]
    by_cases h0 : c.toNat * sz = 0
    ·rw [if_pos h0]
     have hm : ∀ f : Nat → Value, (Array.range (c.toNat * sz)).map f = #[] := by intro f; rw [h0]; simp
     simp only [Sem.run_bind, Sem.run_pure, Result.andThen_ok, hm, newRow, run_newObj]
     rfl
    ·rw [if_neg h0]
     simp only [Sem.run_bind, run_zeroValue e3, Sem.run_pure, Result.andThen_ok, newRow, run_newObj]
     rfl
   ·cases h
  ·cases h
 ·cases h
end Go.AM

/-! A11 -/
namespace Go.AM
/-- How long what is appended, or copied, is. -/
def aLenOf : Value → Option Nat
  | .slice _ n _ => some n
  | .string s => some s.size
  | _ => none
theorem aLenOf_sound {P : Program} {β : Beta} {N : Nat} {w : World} {x x' : Value} {n : Nat} (hx : VRel β N x x') (h : aLenOf x = some n) : (Builtin.lenOf x').run P w = .ok n w := by
 unfold aLenOf at h
 split at h
 ·injection h with h; subst h
  cases hx <;> rfl
 ·injection h with h; subst h
  cases hx; rfl
 ·cases h
/-- The first n elements of what is appended, or copied, as cells. -/
def aFirst (m : Mem) (sz n : Nat) (x : Value) : Option (Array Value) :=
  if n = 0 then some #[] else
  match x with
  | .slice (some ⟨b, o, some _⟩) _ _ =>
    match Mem.get m b with
    | .cells _ c => if o + n * sz ≤ c.size then some (c.extract o (o + n * sz)) else none
    | _ => none
  | .string s => some ((s.extract 0 n).data.map fun b => .int .u8 b.toNat)
  | _ => none
theorem aFirst_sound {P : Program} {β : Beta} {m : Mem} {w : World} {sz n : Nat} {x x' : Value} {c : Array Value} (hR : Rel P β m w) (hx : VRel β m.size x x') (hn : aLenOf x ≠ none) (h : aFirst m sz n x = some c) :
  ∃ c', (Builtin.firstCells sz n x').run P w = .ok c' w ∧ ARel β m.size c c' := by
 unfold aFirst at h
 split at h
 ·rename_i h0
  injection h with h; subst h; subst h0
  cases hx <;> simp [aLenOf] at hn <;> first
   | exact ⟨#[], by simp [Builtin.firstCells, loadCells, loadCellsFrom], ARel.nil _ _⟩
   | exact ⟨#[], by simp [Builtin.firstCells], ARel.nil _ _⟩
 ·rename_i h0
  split at h
  ·rename_i b o s l cp
   cases hx with
   | slice _ _ _ _ _ cap' hb hz hl hc hbd hm63 =>
    split at h
    ·rename_i r c0 e1
     obtain ⟨c', e', fz, hw, hcap, hcs, _⟩ := hR.cells b r c0 e1
     split at h
     ·rename_i hle
      injection h with h; subst h
      rcases ARel.block (β := β) (N := m.size) hcs hle with ⟨hA, hlen⟩ | h1
      ·refine ⟨_, ?_, hA⟩
       simp only [Builtin.firstCells, loadCells]
       rw [run_loadCells hw (n * sz) 0 #[] (by omega)]
       simp
      ·refine ⟨#[], ?_, ?_⟩
       ·simp only [Builtin.firstCells, loadCells, h1, loadCellsFrom, Sem.run_pure]
       ·have : c0.extract o (o + n * sz) = #[] := by rw [h1]; simp; omega
        rw [this]; exact ARel.nil _ _
     ·cases h
    ·cases h
  ·rename_i s
   cases hx
   injection h with h; subst h
   refine ⟨_, rfl, ?_⟩
   exact ARel.map _ _ _ (fun x _ => .int _ _)
  ·cases h
def isIntT : TypeDesc → Bool
  | .int _ => true
  | _ => false
/-- What is left of a slice's row once more is appended. -/
def aAppend (P : Program) (m : Mem) (t xt : TypeId) (s x : Value) : Option (Value × Mem) :=
  match undOf P t, undOf P xt with
  | some (.slice elem), some ux =>
    match isIntT ux, szOf P elem, zeroOf P elem, bytesOf' P elem, aLenOf x with
    | false, some sz, some z, some by_, some n =>
      match aFirst m sz n x with
      | none => none
      | some new =>
        if 0 < sz ∧ z.cells.size = sz ∧ new.size = n * sz ∧ new.all Value.oneCell' = true then
          match s with
          | .slice none 0 0 =>
            if n = 0 then some (.slice none 0 0, m)
            else if n ≤ 1099511627776 ∧ n * by_ ≤ 70368744177664 then some (.slice (some ⟨m.size, 0, some sz⟩) n n, m.push (.cells true new)) else none
          | .slice (some ⟨b, o, some s'⟩) len cap =>
            if s' = sz then
              if n = 0 then some (s, m)
              else match Mem.get m b with
                | .cells true c =>
                  if len + n ≤ cap then
                    if o + (len + n) * sz ≤ c.size then some (.slice (some ⟨b, o, some sz⟩) (len + n) cap, m.setIfInBounds b (.cells true (lay c (o + len * sz) new))) else none
                  else if o = 0 ∧ len * sz ≤ c.size ∧ len + n ≤ 1099511627776 ∧ (len + n) * by_ ≤ 70368744177664 then
                    some (.slice (some ⟨m.size, 0, some sz⟩) (len + n) (len + n), (m.setIfInBounds b .dead).push (.cells true (c.extract 0 (len * sz) ++ new)))
                  else none
                | .grow c => if o = 0 ∧ len * sz = c.size ∧ len + n ≤ 1099511627776 ∧ (len + n) * by_ ≤ 70368744177664 then
                    some (.slice (some ⟨m.size, 0, some sz⟩) (len + n) (len + n), (m.setIfInBounds b (.cells false c)).push (.grow (c ++ new)))
                  else none
                | _ => none
            else none
          | .slice (some ⟨b, o, none⟩) 0 0 =>
            if n = 0 then some (s, m)
            else if o = 1 ∧ n ≤ 1099511627776 ∧ n * by_ ≤ 70368744177664 then some (.slice (some ⟨m.size, 0, some sz⟩) n n, m.push (.cells true new)) else none
          | _ => none
        else none
    | _, _, _, _, _ => none
  | _, _ => none
theorem growBy_le (newLen : Nat) : ∀ (r c : Nat), 256 ≤ c → c ≤ 2 * newLen → Builtin.growBy newLen r c ≤ 2 * newLen
 | 0, c, _, h => h
 | r + 1, c, h1, h2 => by
  unfold Builtin.growBy
  split
  ·exact h2
  ·rename_i hc
   exact growBy_le newLen r _ (by omega) (by omega)
theorem nextslicecap_le {need old : Nat} (h : old < need) : Builtin.nextslicecap need old ≤ 2 * need := by
 unfold Builtin.nextslicecap
 split
 ·omega
 ·split
  ·omega
  ·exact growBy_le need 4 old (by omega) (by omega)
theorem run_appendCap {P : Program} {w : World} {need old : Nat} {e : TypeId} (h : need < 9223372036854775808) : ∃ c, need ≤ c ∧ c < 9223372036854775808 ∧ (choose (.appendCap need old e)).run P w = .ok c { w with drawn := w.drawn + 1 } := by
 refine ⟨_, ?_, ?_, by rw [run_choose, if_neg (by simp [Question.forced])]⟩
 ·simp [Question.cut]
 ·simp only [Question.cut]
  have := Nat.mod_lt (w.tape w.drawn (.appendCap need old e)) (show 0 < 2 ^ 63 - need by omega)
  omega
theorem zeroCells_size (z : Array Value) (n : Nat) : (Builtin.zeroCells z n).size = n * z.size := by simp [Builtin.zeroCells]
/-- A new row: what was there, what comes, and room. -/
theorem append_moved {P : Program} {β : Beta} {m m0 : Mem} {w w0 : World} (hR : Rel P β m0 w) (hS : Stp β m w0 β m0 w) (hsz : m0.size = m.size) {elem : TypeId} {old new old' new' rest : Array Value} {need newCap sz : Nat} (ho : ARel β m.size old old') (hn : ARel β m.size new new')
  (hz : 0 < sz) (hlen : (old ++ new).size = need * sz) (hcap : need ≤ newCap) (hrest : rest.size = (newCap - need) * sz) (hm : newCap < 9223372036854775808) :
  ∃ β', VRel β' (m0.push (.cells true (old ++ new))).size (.slice (some ⟨m0.size, 0, some sz⟩) need need) (.slice (some ⟨w.heap.size, 0, none⟩) need newCap) ∧
   Rel P β' (m0.push (.cells true (old ++ new))) (World.pushObj w (.cells (old' ++ new' ++ rest) elem)) ∧ Stp β m w0 β' (m0.push (.cells true (old ++ new))) (World.pushObj w (.cells (old' ++ new' ++ rest) elem)) := by
 have hA := ho.append hn
 have hsize : (old' ++ new' ++ rest).size = newCap * sz := by
  have h1 : (old' ++ new').size = need * sz := by rw [← hA.1]; exact hlen
  rw [Array.size_append, h1, hrest, ← Nat.add_mul]; congr 1; omega
 obtain ⟨r1, r2⟩ := new_cells (c' := old' ++ new' ++ rest) hR (c := old ++ new) (fun i v hi => by
  obtain ⟨v', e', hv⟩ := hA.get hi
  refine ⟨v', ?_, by rw [hsz]; exact hv⟩
  rw [Array.getElem?_append_left (Array.getElem?_eq_some_iff.1 e').1]; exact e') (by
   rw [hsize, hlen]; exact Nat.mul_le_mul_right _ hcap) elem
 exact ⟨_, slice_new' (m := m0) (w := w) hz (Nat.le_refl _) hcap (by rw [hsize]; exact Nat.le_refl _) hm, r1, hS.trans r2⟩
/-- A new row goes on growing. -/
theorem Eff.regrow {P : Program} {β : Beta} {m m0 : Mem} {w : World} {s : Sem Value} {v : Value} {c : Array Value} (h : Eff P β m w s v (m0.push (.cells true c))) : Eff P β m w s v (m0.push (.grow c)) := by
 obtain ⟨v', w', β', hr, hv, hR, hS⟩ := h
 have hg : Mem.get (m0.push (.cells true c)) m0.size = .cells true c := by rw [get_push, if_pos rfl]
 have e : (m0.push (.cells true c)).setIfInBounds m0.size (.grow c) = m0.push (.grow c) := by
  apply Array.ext_getElem?
  intro i
  rw [Array.getElem?_setIfInBounds]
  by_cases hi : m0.size = i
  ·subst hi; simp
  ·rw [if_neg hi, Array.getElem?_push, Array.getElem?_push, if_neg (fun e => hi e.symm), if_neg (fun e => hi e.symm)]
 obtain ⟨r1, r2⟩ := hR.grow_of hg
 rw [e] at r1 r2
 exact ⟨v', w', β', hr, by simpa using hv, r1, hS.trans r2⟩
theorem aAppend_sound {P : Program} {β : Beta} {m m' : Mem} {w : World} {t xt rt : TypeId} {s x s' x' v : Value} (hR : Rel P β m w) (hs : VRel β m.size s s') (hx : VRel β m.size x x')
    (h : aAppend P m t xt s x = some (v, m')) : Eff P β m w (Builtin.append_ #[t, xt] rt #[s', x']) v m' := by
  unfold aAppend at h
  split at h
  rotate_left
  · cases h
  rename_i elem ux e1 e2
  split at h
  rotate_left
  · cases h
  rename_i sz z by_ n ez esz ezz eby en
  split at h
  · cases h
  rename_i new enew
  split at h
  rotate_left
  · cases h
  rename_i hcond
  obtain ⟨hsz, hzs, hns, hone⟩ := hcond
  obtain ⟨i, ei, eb⟩ := info_of eby
  have hlen := aLenOf_sound (P := P) (w := w) hx en
  obtain ⟨new', hfirst, hnew⟩ := aFirst_sound hR hx (by rw [en]; simp) enew
  have hnew1 : new'.all Value.oneCell' = true := hnew.oneCell hone

  have start : ∀ (base : Option Addr) (sLen sCap : Nat) (r : Result Value),
      (if sLen + n ≤ sCap then (match base with
          | some a => ((storeCells (a.add (sLen * sz)) new'.toList).run P w).andThen fun _ w' => .ok (.slice base (sLen + n) sCap) w'
          | none => .ok (.slice base (sLen + n) sCap) w)
        else
          if Builtin.nextslicecap (sLen + n) sCap * by_ > 2 ^ 48 then .halt (.stuck "") w else
          ((choose (.appendCap (sLen + n) sCap elem)).run P w).andThen fun newCap w1 =>
            ((Builtin.firstCells sz sLen (.slice base sLen sCap)).run P w1).andThen fun old w2 =>
              ((Builtin.firstCells sz n x').run P w2).andThen fun nw w3 =>
                .ok (.slice (some ⟨w3.heap.size, 0, none⟩) (sLen + n) newCap) (World.pushObj w3 (.cells (old ++ nw ++ Builtin.zeroCells z.cells (newCap - (sLen + n))) elem))) = r →
      (∀ q, r ≠ .halt (.stuck "") q) → (¬ (sLen + n ≤ sCap) → ((sLen + n : Nat) : Int) ≤ IntKind.i64.max) →
      (Builtin.append_ #[t, xt] rt #[.slice base sLen sCap, x']).run P w = r := by
    intro base sLen sCap r hr hq hby
    subst hr
    cases ux <;> first
      | (simp [isIntT] at ez; done)
      | (simp only [Builtin.append_, List.getElem?_toArray, List.getElem?_cons_zero, List.getElem?_cons_succ, Sem.run_bind, run_underlying e1, Result.andThen_ok, run_sizeOf esz, run_underlying e2, Sem.run_pure, Bool.false_eq_true, if_false, hlen, Bool.not_false, if_true]
         by_cases hc : sLen + n ≤ sCap
         · rw [if_pos hc, if_pos hc]
           simp only [Sem.run_bind, hfirst, Result.andThen_ok]
           cases base with
           | none => rfl
           | some a => simp only [Sem.run_bind, Sem.run_pure]
         · rw [if_neg hc, if_neg hc]
           have hb : ¬ (Builtin.nextslicecap (sLen + n) sCap * by_ > 2 ^ 48) := by
             intro hb
             rw [if_neg hc, if_pos hb] at hq
             exact hq _ rfl
           have hb' : ¬ (Builtin.nextslicecap (sLen + n) sCap * i.bytes > 2 ^ 48) := by rw [eb]; exact hb
           rw [if_neg hb]
           simp only [Sem.run_bind, run_typeInfo ei, Result.andThen_ok]
           rw [if_neg (by rintro ⟨h1, _⟩; have := hby hc; omega)]
           simp only [Sem.run_bind, run_typeInfo ei, Result.andThen_ok]
           rw [if_neg hb']
           simp only [Sem.run_bind, run_typeInfo ei, Result.andThen_ok, run_askRoom, run_zeroValue ezz, newRow, run_newObj, Sem.run_pure]
           rfl)

  have moved : ∀ (base : Option Addr) (sLen sCap : Nat) (m0 : Mem) (old : Array Value), Rel P β m0 w → Stp β m w β m0 w → m0.size = m.size → ¬ (sLen + n ≤ sCap) → sLen + n ≤ 1099511627776 → (sLen + n) * by_ ≤ 70368744177664 →
      old.size = sLen * sz → (∃ old', (Builtin.firstCells sz sLen (.slice base sLen sCap)).run P { w with drawn := w.drawn + 1 } = .ok old' { w with drawn := w.drawn + 1 } ∧ ARel β m.size old old') →
      Eff P β m w (Builtin.append_ #[t, xt] rt #[.slice base sLen sCap, x']) (.slice (some ⟨m.size, 0, some sz⟩) (sLen + n) (sLen + n)) (m0.push (.cells true (old ++ new))) := by
    rintro base sLen sCap m0 old hR0 hS0 hsz0 hc h40 hby hold ⟨old', hold', hrel⟩
    obtain ⟨newCap, hge, hlt63, hch⟩ := run_appendCap (P := P) (w := w) (need := sLen + n) (old := sCap) (e := elem) (by omega)
    have hdr : ({ w with drawn := w.drawn + 1 } : World).heap = w.heap := rfl
    obtain ⟨new2, hf2, hn2⟩ := aFirst_sound (hR.drew hdr) hx (by rw [en]; simp) enew
    obtain ⟨β', hv, hR', hS'⟩ := append_moved (P := P) (β := β) (m := m) (m0 := m0) (w := { w with drawn := w.drawn + 1 }) (w0 := w) (hR0.drew hdr) (hS0.trans (Stp.drew hdr rfl rfl rfl)) hsz0 (elem := elem) (old := old) (new := new) (old' := old') (new' := new2) (rest := Builtin.zeroCells z.cells (newCap - (sLen + n))) (need := sLen + n) (newCap := newCap) hrel hn2 hsz (by rw [Array.size_append, hold, hns, Nat.add_mul]) hge (by rw [zeroCells_size, hzs]) hlt63
    have hns2 : Builtin.nextslicecap (sLen + n) sCap ≤ 2 * (sLen + n) := nextslicecap_le (by omega)
    have hnb : ¬ (Builtin.nextslicecap (sLen + n) sCap * by_ > 2 ^ 48) := by
      have := Nat.mul_le_mul_right by_ hns2
      have h2 : 2 * (sLen + n) * by_ = 2 * ((sLen + n) * by_) := by rw [Nat.mul_assoc]
      omega
    refine ⟨.slice (some ⟨w.heap.size, 0, none⟩) (sLen + n) newCap, _, β', start base sLen sCap _ ?_ (by intro q hq; cases hq) (fun _ => ?_), ?_, hR', hS'⟩
    rotate_left
    · have : IntKind.i64.max = 9223372036854775807 := by decide
      omega
    rotate_left
    · rw [if_neg hc, if_neg hnb, hch]
      simp only [Result.andThen_ok, hold', hf2]
    · rw [hsz0] at hv; exact hv
  have n0 : n = 0 → new' = #[] := by
    intro h0
    have : new'.size = 0 := by rw [← hnew.1, hns, h0, Nat.zero_mul]
    exact Array.eq_empty_of_size_eq_zero this
  split at h
  ·
    cases hs
    split at h
    · rename_i h0
      injection h with h; injection h with h1 h2; subst h1 h2
      subst h0
      refine ⟨_, w, β, start none 0 0 (.ok (.slice none 0 0) w) (by simp) (by intro q hq; cases hq) (fun hh => absurd (by omega) hh), .sliceNil, hR, .refl _ _ _⟩
    · rename_i h0
      split at h
      · rename_i hb
        injection h with h; injection h with h1 h2; subst h1 h2
        have := moved none 0 0 m #[] hR (.refl _ _ _) rfl (by omega) (by omega) (by simpa using hb.2) (by simp) ⟨#[], rfl, ARel.nil _ _⟩
        simpa using this
      · cases h
  · rename_i b o s'' len cap
    cases hs with
    | slice _ _ _ _ _ cap' hb hz hl hc hbd hm63 =>
      split at h
      rotate_left
      · cases h
      rename_i hse
      subst hse
      split at h
      · rename_i h0
        injection h with h; injection h with h1 h2; subst h1 h2
        subst h0
        refine ⟨_, w, β, start (some ⟨β.blk b, β.sh b + o, none⟩) len cap' (.ok (.slice (some ⟨β.blk b, β.sh b + o, none⟩) len cap') w) ?_ (by intro q hq; cases hq) (fun hh => absurd (by omega) hh), .slice b o _ len cap cap' hb hz hl hc hbd hm63, hR, .refl _ _ _⟩
        · rw [if_pos (by omega), n0 rfl]
          rfl
      · rename_i h0
        split at h
        rotate_left
        rotate_left
        · cases h
        rotate_left
        ·
          rename_i c ec
          split at h
          rotate_left
          · cases h
          rename_i hin
          obtain ⟨ho, hlc, h40, hby⟩ := hin
          injection h with h; injection h with h1 h2; subst h1 h2
          subst ho
          obtain ⟨c', e', fz, hw, hcap, hcs, hsh, hcsz, hfz⟩ := hR.growing b c ec
          rw [hsh] at hbd hcs
          simp only [Nat.zero_add, Nat.add_zero] at hbd hcs
          have hsz2 : (c ++ new).size = len * s'' + n * s'' := by rw [Array.size_append, hns, hlc]
          have hblock : ∀ (i : Nat) v, c[i]? = some v → ∃ v', c'[0 + i]? = some v' ∧ VRel β m.size v v' := by intro i v hi; rw [Nat.zero_add]; exact hcs i v hi
          by_cases hcc : len + n ≤ cap'
          · have hlen' : len * s'' + n * s'' ≤ c'.size := by
              have := Nat.mul_le_mul_right s'' hcc
              rw [Nat.add_mul] at this; omega
            have hst := run_storeCells' (P := P) (off := len * s'') hw hnew1 (by rw [← hnew.1, hns]; exact hlen') (fun j _ => hfz j)
            have hOR : ObjRel (β.ext m.size (β.blk b) (β.cap b)) (m.size + 1) m.size (.grow (c ++ new)) (.cells (lay c' (len * s'') new') e' fz) := by
              refine ⟨_, e', fz, rfl, ?_, fun i v hi => ?_, fun _ => ⟨by simp [Beta.ext], by rw [lay_size]; simp [Beta.ext]; exact hcsz, hfz⟩⟩
              · simp only [Beta.ext, if_true, Nat.zero_add]; rw [hsz2]; omega
              · have hi' := (Array.getElem?_eq_some_iff.1 hi).1
                rw [hsz2] at hi'
                have hsh' : (β.ext m.size (β.blk b) (β.cap b)).sh m.size = 0 := by simp [Beta.ext]
                rw [hsh', Nat.zero_add, lay_get']
                by_cases hil : i < len * s''
                · rw [if_neg (by omega)]
                  rw [Array.getElem?_append_left (by omega)] at hi
                  obtain ⟨v', hv', hr'⟩ := hcs i v hi
                  exact ⟨v', hv', hr'.mono (Beta.ext_agree _ _ _ _) (by omega)⟩
                · rw [Array.getElem?_append_right (by omega), ← hlc] at hi
                  obtain ⟨v', hv', hr'⟩ := hnew.get hi
                  refine ⟨v', ?_, hr'.mono (Beta.ext_agree _ _ _ _) (by omega)⟩
                  rw [if_pos ⟨by omega, by rw [← hnew.1, hns]; omega, by omega⟩]
                  exact hv'
            obtain ⟨r1, r2⟩ := hR.branch ec hw (c1 := lay c' (len * s'') new') (fun i hi => by rw [lay_get', if_neg (by omega)]) (by rw [lay_size]) (by omega) hOR
            refine ⟨_, _, _, start (some ⟨β.blk b, β.sh b + 0, none⟩) len cap' (.ok (.slice (some ⟨β.blk b, β.sh b + 0, none⟩) (len + n) cap') _) ?_ (by intro q hq; cases hq) (fun hh => absurd (by omega) hh), ?_, r1, r2⟩
            · rw [if_pos hcc, hsh]
              simp only [add_none, Nat.zero_add]
              rw [hst]; rfl
            · have := VRel.slice (β := β.ext m.size (β.blk b) (β.cap b)) (N := ((m.setIfInBounds b (.cells false c)).push (.grow (c ++ new))).size) m.size 0 s'' (len + n) (len + n) cap' (by simp) hz (Nat.le_refl _) hcc (by simp [Beta.ext]; exact hbd) hm63
              simpa [Beta.ext, hsh] using this
          · obtain ⟨k1, k2⟩ := hR.freeze ec
            have := moved (some ⟨β.blk b, β.sh b + 0, none⟩) len cap' (m.setIfInBounds b (.cells false c)) c k1 k2 (by simp) hcc h40 hby hlc.symm (by
              have hwd : ({ w with drawn := w.drawn + 1 } : World).heap[β.blk b]? = some (.cells c' e' fz) := hw
              have hc'sz : len * s'' ≤ c'.size := by
                have := Nat.mul_le_mul_right s'' (Nat.le_trans hl hc); omega
              refine ⟨c'.extract 0 (0 + len * s''), ?_, ?_⟩
              · simp only [Builtin.firstCells, loadCells]
                rw [run_loadCells hwd (len * s'') 0 #[] (by rw [hsh]; omega)]
                simp [hsh]
              · rcases ARel.block (β := β) (N := m.size) (sh := 0) (o := 0) (n := len * s'') hblock (by omega) with ⟨hA, _⟩ | h1
                · have hx2 : c.extract 0 (0 + len * s'') = c := by rw [Nat.zero_add, hlc]; simp
                  rw [hx2] at hA
                  simpa using hA
                · have : c = #[] := Array.eq_empty_of_size_eq_zero (by omega)
                  rw [h1, this]; simp; exact ARel.nil _ _)
            exact this.regrow
        rename_i c ec
        split at h
        ·
          rename_i hroom
          split at h
          · rename_i hin
            injection h with h; injection h with h1 h2; subst h1 h2
            have hsum : o + len * s'' + new.size ≤ c.size := by rw [hns]; rw [Nat.add_mul] at hin; omega
            obtain ⟨w', hr, r1, r2⟩ := write_cells hR ec hnew hsum hone
            refine ⟨_, w', β, start (some ⟨β.blk b, β.sh b + o, none⟩) len cap' (.ok (.slice (some ⟨β.blk b, β.sh b + o, none⟩) (len + n) cap') w') ?_ (by intro q hq; cases hq) (fun hh => absurd (by omega) hh), ?_, r1, r2⟩
            · rw [if_pos (by omega)]
              show Result.andThen ((storeCells ((⟨β.blk b, β.sh b + o, none⟩ : Addr).add (len * s'')) new'.toList).run P w) _ = _
              rw [add_none, Nat.add_assoc, hr]; rfl
            · simp only [Array.size_setIfInBounds]
              exact .slice b o _ (len + n) cap cap' hb hz hroom hc hbd hm63
          · cases h
        · rename_i hroom
          split at h
          · rename_i hin
            obtain ⟨ho, hlc, h40, hby⟩ := hin
            injection h with h; injection h with h1 h2; subst h1 h2
            subst ho
            obtain ⟨c', e', fz, hw, hcap, hcs, hrw⟩ := hR.cells b true c ec
            obtain ⟨hsh, hcsz, hfz⟩ := hrw rfl
            rw [hsh] at hbd hcs
            simp only [Nat.zero_add, Nat.add_zero] at hbd hcs
            have hblock : ∀ (i : Nat) v, c[i]? = some v → ∃ v', c'[0 + i]? = some v' ∧ VRel β m.size v v' := by intro i v hi; rw [Nat.zero_add]; exact hcs i v hi
            by_cases hcc : len + n ≤ cap'
            ·
              have hlen' : len * s'' + n * s'' ≤ c'.size := by
                have := Nat.mul_le_mul_right s'' hcc
                rw [Nat.add_mul] at this; omega
              have hst := run_storeCells' (P := P) (off := len * s'') hw hnew1 (by rw [← hnew.1, hns]; exact hlen') (fun j _ => hfz j)
              have hOR : ObjRel (β.ext m.size (β.blk b) (β.cap b)) (m.size + 1) m.size (.cells true (c.extract 0 (len * s'') ++ new)) (.cells (lay c' (len * s'') new') e' fz) := by
                have hsz2 : (c.extract 0 (len * s'') ++ new).size = len * s'' + n * s'' := by rw [Array.size_append, hns]; simp; omega
                refine ⟨_, e', fz, rfl, ?_, fun i v hi => ?_, fun _ => ⟨by simp [Beta.ext], by rw [lay_size]; simp [Beta.ext]; exact hcsz, hfz⟩⟩
                · simp only [Beta.ext, if_true, Nat.zero_add]; rw [hsz2]; omega
                · have hi' := (Array.getElem?_eq_some_iff.1 hi).1
                  rw [hsz2] at hi'
                  have hsh' : (β.ext m.size (β.blk b) (β.cap b)).sh m.size = 0 := by simp [Beta.ext]
                  rw [hsh', Nat.zero_add, lay_get']
                  have hext : (c.extract 0 (len * s'')).size = len * s'' := by simp; omega
                  by_cases hil : i < len * s''
                  · rw [if_neg (by omega)]
                    rw [Array.getElem?_append_left (by rw [hext]; exact hil), Array.getElem?_extract] at hi
                    have hcond : i < min (len * s'') c.size - 0 := by omega
                    rw [if_pos hcond, Nat.zero_add] at hi
                    obtain ⟨v', hv', hr'⟩ := hcs i v hi
                    exact ⟨v', hv', hr'.mono (Beta.ext_agree _ _ _ _) (by omega)⟩
                  · rw [Array.getElem?_append_right (by rw [hext]; omega), hext] at hi
                    obtain ⟨v', hv', hr'⟩ := hnew.get hi
                    refine ⟨v', ?_, hr'.mono (Beta.ext_agree _ _ _ _) (by omega)⟩
                    rw [if_pos ⟨by omega, by rw [← hnew.1, hns]; omega, by omega⟩]
                    exact hv'
              obtain ⟨r1, r2⟩ := hR.alias (by rw [ec]; rfl) (fun c h => by rw [ec] at h; cases h) hOR
              refine ⟨_, _, _, start (some ⟨β.blk b, β.sh b + 0, none⟩) len cap' (.ok (.slice (some ⟨β.blk b, β.sh b + 0, none⟩) (len + n) cap') _) ?_ (by intro q hq; cases hq) (fun hh => absurd (by omega) hh), ?_, r1, r2⟩
              · rw [if_pos hcc, hsh]
                simp only [add_none, Nat.zero_add]
                rw [hst]; rfl
              · have := VRel.slice (β := β.ext m.size (β.blk b) (β.cap b)) (N := ((m.setIfInBounds b .dead).push (.cells true (c.extract 0 (len * s'') ++ new))).size) m.size 0 s'' (len + n) (len + n) cap' (by simp) hz (Nat.le_refl _) hcc (by simp [Beta.ext]; exact hbd) hm63
                simpa [Beta.ext, hsh] using this
            · obtain ⟨k1, k2⟩ := hR.kill b
              have hext : (c.extract 0 (len * s'')).size = len * s'' := by simp; omega
              have := moved (some ⟨β.blk b, β.sh b + 0, none⟩) len cap' (m.setIfInBounds b .dead) (c.extract 0 (len * s'')) k1 k2 (by simp) hcc h40 hby hext (by
                have hwd : ({ w with drawn := w.drawn + 1 } : World).heap[β.blk b]? = some (.cells c' e' fz) := hw
                have hc'sz : len * s'' ≤ c'.size := by
                  have := Nat.mul_le_mul_right s'' (Nat.le_trans hl hc); omega
                refine ⟨c'.extract 0 (0 + len * s''), ?_, ?_⟩
                · simp only [Builtin.firstCells, loadCells]
                  rw [run_loadCells hwd (len * s'') 0 #[] (by rw [hsh]; omega)]
                  simp [hsh]
                · rcases ARel.block (β := β) (N := m.size) (sh := 0) (o := 0) (n := len * s'') hblock (by omega) with ⟨hA, _⟩ | h1
                  · simpa using hA
                  · rw [h1]; simp; exact ARel.nil _ _)
              exact this
          · cases h
  · rename_i b o
    split at h
    · rename_i h0
      injection h with h; injection h with h1 h2; subst h1 h2
      subst h0
      cases hs with
      | lost _ a' cap' ha =>
        refine ⟨_, w, β, start (some a') 0 cap' (.ok (.slice (some a') 0 cap') w) ?_ (by intro q hq; cases hq) (fun hh => absurd (by omega) hh), .lost b a' cap' ha, hR, .refl _ _ _⟩
        rw [if_pos (by omega), n0 rfl]; rfl
      | empty _ a' ha =>
        refine ⟨_, w, β, start (some a') 0 0 (.ok (.slice (some a') 0 0) w) ?_ (by intro q hq; cases hq) (fun hh => absurd (by omega) hh), .empty b a' ha, hR, .refl _ _ _⟩
        rw [if_pos (by omega), n0 rfl]; rfl
    · rename_i h0
      split at h
      · rename_i hb
        obtain ⟨ho, h40, hby⟩ := hb
        subst ho
        injection h with h; injection h with h1 h2; subst h1 h2
        cases hs with
        | empty _ a' ha =>
          have := moved (some a') 0 0 m #[] hR (.refl _ _ _) rfl (by omega) (by omega) (by simpa using hby) (by simp) ⟨#[], by simp [Builtin.firstCells, loadCells, loadCellsFrom], ARel.nil _ _⟩
          simpa using this
      · cases h
  · cases h
end Go.AM

/-! A12 -/
namespace Go.AM
def aCopy (P : Program) (m : Mem) (t : TypeId) (d x : Value) : Option (Value × Mem) :=
  match undOf P t with
  | some (.slice elem) =>
    match szOf P elem, aLenOf x, d with
    | some sz, some n, .slice (some ⟨b, o, some s'⟩) len _ =>
      if s' = sz then
        if min n len = 0 then some (.int .i64 0, m) else
        match aFirst m sz (min n len) x, Mem.get m b with
        | some new, .cells true c =>
          if o + new.size ≤ c.size ∧ new.all Value.oneCell' = true then some (.int .i64 (min n len : Nat), m.setIfInBounds b (.cells true (lay c o new))) else none
        | _, _ => none
      else none
    | some _, some _, .slice none 0 0 => some (.int .i64 0, m)
    | some _, some _, .slice (some ⟨_, _, none⟩) 0 0 => some (.int .i64 0, m)
    | _, _, _ => none
  | _ => none
theorem aFirst_zero {P : Program} {w : World} {sz : Nat} {x' : Value} (h : (Builtin.lenOf x').run P w ≠ .halt (.stuck "slice or string expected") w) : (Builtin.firstCells sz 0 x').run P w = .ok #[] w := by
 cases x' <;> first
  | (exact absurd rfl h)
  | (rename_i a _ _; cases a <;> simp [Builtin.firstCells, loadCells, loadCellsFrom]; done)
  | (simp [Builtin.firstCells])
theorem aCopy_sound {P : Program} {β : Beta} {m m' : Mem} {w : World} {t xt rt : TypeId} {d x d' x' v : Value} (hR : Rel P β m w) (hd : VRel β m.size d d') (hx : VRel β m.size x x')
  (h : aCopy P m t d x = some (v, m')) : Eff P β m w (Builtin.copy_ #[t, xt] rt #[d', x']) v m' := by
 unfold aCopy at h
 split at h
 rotate_left
 ·cases h
 rename_i elem e1
 have zero : ∀ (base : Option Addr) (cp n : Nat), base.isSome = false ∨ True → (Builtin.lenOf x').run P w = .ok n w → ∀ len, szOf P elem ≠ none → min n len = 0 → (Builtin.copy_ #[t, xt] rt #[.slice base len cp, x']).run P w = .ok (.int .i64 0) w := by
  intro base cp n _ hl len hs hm
  cases es : szOf P elem with
  | none => exact absurd es hs
  | some sz =>
   have hm' : Nat.min n len = 0 := hm
   simp only [Builtin.copy_, List.getElem?_toArray, List.getElem?_cons_zero, List.getElem?_cons_succ, Sem.run_bind, run_underlying e1, Result.andThen_ok, hl, run_sizeOf es, hm']
   rw [aFirst_zero (by rw [hl]; simp)]
   cases base with
   | none => rfl
   | some a => rfl
 split at h
 ·rename_i sz n b o s' len cap es en
  cases hd with
  | slice _ _ _ _ _ cap' hb hz hl hc hbd hm63 =>
   have hlen := aLenOf_sound (P := P) (w := w) hx en
   split at h
   rotate_left
   ·cases h
   rename_i hse; subst hse
   split at h
   ·rename_i h0
    injection h with h; injection h with h1 h2; subst h1 h2
    exact ⟨_, w, β, zero _ _ n (.inr trivial) hlen len (by rw [es]; simp) h0, .int _ _, hR, .refl _ _ _⟩
   ·rename_i h0
    split at h
    ·rename_i new c e2 e3
     split at h
     ·rename_i hc2
      injection h with h; injection h with h1 h2; subst h1 h2
      obtain ⟨new', hf, hn⟩ := aFirst_sound hR hx (by rw [en]; simp) e2
      obtain ⟨w', hr, r1, r2⟩ := write_cells hR e3 hn hc2.1 hc2.2
      refine ⟨_, w', β, ?_, .int _ _, r1, r2⟩
      have hm' : Nat.min n len = min n len := rfl
      simp only [Builtin.copy_, List.getElem?_toArray, List.getElem?_cons_zero, List.getElem?_cons_succ, Sem.run_bind, run_underlying e1, Result.andThen_ok, hlen, run_sizeOf es, hm', hf, hr, Sem.run_pure, goInt]
     ·cases h
    ·cases h
 ·rename_i sz n es en
  cases hd
  have hlen := aLenOf_sound (P := P) (w := w) hx en
  injection h with h; injection h with h1 h2; subst h1 h2
  exact ⟨_, w, β, zero none _ n (.inr trivial) hlen 0 (by rw [es]; simp) (by simp), .int _ _, hR, .refl _ _ _⟩
 ·rename_i sz n b o es en
  have hlen := aLenOf_sound (P := P) (w := w) hx en
  injection h with h; injection h with h1 h2; subst h1 h2
  cases hd with
  | lost _ a' cap' ha => exact ⟨_, w, β, zero _ _ n (.inr trivial) hlen 0 (by rw [es]; simp) (by simp), .int _ _, hR, .refl _ _ _⟩
  | empty _ a' ha => exact ⟨_, w, β, zero _ _ n (.inr trivial) hlen 0 (by rw [es]; simp) (by simp), .int _ _, hR, .refl _ _ _⟩
 ·cases h
def aClear (P : Program) (m : Mem) (t : TypeId) (x : Value) : Option (Value × Mem) :=
  match undOf P t with
  | some u =>
    match u, x with
    | _, .map none => some (.tuple #[], m)
    | _, .slice none _ _ => some (.tuple #[], m)
    | _, .map (some r) => match Mem.get m r with
      | .map true _ => some (.tuple #[], m.setIfInBounds r (.map true []))
      | _ => none
    | .slice elem, .slice (some ⟨b, o, some _⟩) n _ =>
      if n = 0 then some (.tuple #[], m) else
      match zeroOf P elem, Mem.get m b with
      | some z, .cells true c =>
        if z.cells.size ≠ 0 ∧ z.cells.all flat0 = true ∧ o + n * z.cells.size ≤ c.size ∧ (Builtin.zeroCells z.cells n).all Value.oneCell' = true then
          some (.tuple #[], m.setIfInBounds b (.cells true (lay c o (Builtin.zeroCells z.cells n)))) else none
      | _, _ => none
    | .slice _, .slice (some ⟨_, _, none⟩) 0 0 => some (.tuple #[], m)
    | _, _ => none
  | none => none
theorem aClear_sound {P : Program} {β : Beta} {m m' : Mem} {w : World} {t rt : TypeId} {x x' v : Value} (hR : Rel P β m w) (hx : VRel β m.size x x')
  (h : aClear P m t x = some (v, m')) : Eff P β m w (Builtin.clear_ #[t] rt #[x']) v m' := by
 unfold aClear at h
 split at h
 rotate_left
 ·cases h
 rename_i u e1
 have unit : ∀ N, VRel β N (.tuple #[]) (.tuple #[]) := fun N => .tuple _ _ rfl (ARel.nil _ _).2
 split at h
 ·cases hx
  injection h with h; injection h with h1 h2; subst h1 h2
  exact ⟨_, w, β, by simp [Builtin.clear_, run_underlying e1], unit _, hR, .refl _ _ _⟩
 ·cases hx
  injection h with h; injection h with h1 h2; subst h1 h2
  exact ⟨_, w, β, by simp [Builtin.clear_, run_underlying e1], unit _, hR, .refl _ _ _⟩
 ·rename_i r
  cases hx with
  | map _ hr =>
   split at h
   ·rename_i es e2
    injection h with h; injection h with h1 h2; subst h1 h2
    obtain ⟨es', clk, hw, _, _⟩ := hR.map r true es e2
    obtain ⟨r1, r2⟩ := hR.upd (b := r) (by rw [e2]; rfl) (fun c h => by rw [e2] at h; cases h) (o := .map true []) (O := .map #[] clk) ⟨#[], clk, rfl, rfl, fun i x e' hi => by simp at hi, fun _ => .nil _⟩
    refine ⟨_, _, β, ?_, unit _, r1, r2⟩
    have hg : (getObj (β.blk r)).run P w = .ok (.map es' clk) w := by simp [getObj, Sem.run, hw]
    have hs : (setObj (β.blk r) (.map #[] clk)).run P w = .ok () (World.putObj w (β.blk r) (.map #[] clk)) := by simp [setObj, Sem.run, hw, World.putObj]
    simp only [Builtin.clear_, List.getElem?_toArray, List.getElem?_cons_zero, Sem.run_bind, run_underlying e1, Result.andThen_ok, hg, hs, Sem.run_pure]
   ·cases h
 ·rename_i elem b o s' n cap
  cases hx with
  | slice _ _ _ _ _ cap' hb hz hl hc hbd hm63 =>
   split at h
   ·rename_i h0
    injection h with h; injection h with h1 h2; subst h1 h2
    subst h0
    exact ⟨_, w, β, by simp [Builtin.clear_, run_underlying e1], unit _, hR, .refl _ _ _⟩
   ·rename_i h0
    split at h
    ·rename_i z c e2 e3
     split at h
     ·rename_i hc2
      injection h with h; injection h with h1 h2; subst h1 h2
      have hzz : ARel β m.size (Builtin.zeroCells z.cells n) (Builtin.zeroCells z.cells n) := zeros_rel hc2.2.1 hc2.1 _
      obtain ⟨w', hr, r1, r2⟩ := write_cells hR e3 hzz (by rw [zeroCells_size]; exact hc2.2.2.1) hc2.2.2.2
      refine ⟨_, w', β, ?_, unit _, r1, r2⟩
      obtain ⟨k, rfl⟩ : ∃ k, n = k + 1 := ⟨n - 1, by omega⟩
      simp only [Builtin.clear_, List.getElem?_toArray, List.getElem?_cons_zero, Sem.run_bind, run_underlying e1, Result.andThen_ok, run_zeroValue e2, hr, Sem.run_pure]
     ·cases h
    ·cases h
 ·injection h with h; injection h with h1 h2; subst h1 h2
  cases hx <;> exact ⟨_, w, β, by simp [Builtin.clear_, run_underlying e1], unit _, hR, .refl _ _ _⟩
 ·cases h
/-! ### Maps -/
def aMakeMap (m : Mem) (r : Option Value) : Option (Value × Mem) :=
  match r with
  | none => some (.map (some m.size), m.push (.map true []))
  | some _ => none
theorem aMakeMap_sound {P : Program} {β : Beta} {m m' : Mem} {w : World} {t : TypeId} {r r' : Option Value} {v : Value} (hR : Rel P β m w) (hr : ORel β m.size r r') (h : aMakeMap m r = some (v, m')) : Eff P β m w (Instr.makeMap t r') v m' := by
 unfold aMakeMap at h
 split at h
 ·cases r' with
  | some _ => exact hr.elim
  | none =>
   injection h with h; injection h with h1 h2; subst h1 h2
   obtain ⟨r1, r2⟩ := hR.push (o := .map true []) (O := .map #[] 0) (cap := 0) ⟨#[], 0, rfl, rfl, fun i x e' hi => by simp at hi, fun _ => .nil _⟩
   refine ⟨.map (some w.heap.size), _, _, by simp [Instr.makeMap]; rfl, ?_, r1, r2⟩
   have := VRel.map (β := β.ext m.size w.heap.size 0) (N := (m.push (.map true [])).size) m.size (by simp)
   simpa [Beta.ext] using this
 ·cases h
def aMapUpdate (P : Program) (m : Mem) (t : TypeId) (x k v : Value) : Option Mem :=
  match undOf P t, x with
  | some (.map kt _), .map (some r) =>
    match undOf P kt, Mem.get m r with
    | some u, .map true es =>
      if plainKey u then
        match aFindNow u k es 0 with
        | some (some (i, _)) => some (m.setIfInBounds r (.map true (es.set i (k, v))))
        | some none => some (m.setIfInBounds r (.map true (es ++ [(k, v)])))
        | none => none
      else if aggKey u && aKeyOk P eqDep kt k then
        match aFindAsk P kt k es 0 with
        | some none => some (m.setIfInBounds r (.map true (es ++ [(k, v)])))
        | _ => none
      else none
    | _, _ => none
  | _, _ => none
theorem bytes_eq {a b : ByteArray} (h : (a == b) = true) : a = b := by
 cases a; cases b
 congr 1
 exact eq_of_beq (show (_ == _) = true from h)
theorem bytes_refl (a : ByteArray) : (a == a) = true := by
 cases a
 rename_i d
 exact (show (d == d) = true from by simp)
theorem sameNow_true {u : TypeDesc} {a b : Value} (h : Instr.sameNow u a b = some true) : Instr.sameBits 10000 b a = true := by
 unfold Instr.sameNow at h
 split at h
 ·split at h
  ·rename_i hk; subst hk; injection h with h
   have := eq_of_beq h; subst this
   simp [Instr.sameBits]
  ·cases h
 ·injection h with h
  have := bytes_eq h; subst this
  simp only [Instr.sameBits]; exact bytes_refl _
 ·injection h with h
  have := eq_of_beq h; subst this
  simp [Instr.sameBits]
 ·cases h
theorem findNow_key {u : TypeDesc} {k : Value} : ∀ (es : List MapEntry) (i : Nat) (j : Nat) (v : Value), Instr.findNow u k es i = some (some (j, v)) → ∃ e, i ≤ j ∧ es[j - i]? = some e ∧ Instr.sameNow u k e.key = some true
 | [], i, j, v, h => by simp [Instr.findNow] at h
 | e :: es, i, j, v, h => by
  unfold Instr.findNow at h
  split at h
  ·rename_i hs
   injection h with h; injection h with h; injection h with h1 h2; subst h1
   exact ⟨e, Nat.le_refl _, by simp, hs⟩
  ·obtain ⟨e', h1, h2, h3⟩ := findNow_key es (i + 1) j v h
   refine ⟨e', by omega, ?_, h3⟩
   have : j - i = (j - (i + 1)) + 1 := by omega
   rw [this, List.getElem?_cons_succ]; exact h2
  ·cases h
theorem aMapUpdate_sound {P : Program} {β : Beta} {m m' : Mem} {w : World} {t : TypeId} {x x' k k' v v' : Value} (hR : Rel P β m w) (hx : VRel β m.size x x') (hk : VRel β m.size k k') (hv : VRel β m.size v v') (h : aMapUpdate P m t x k v = some m') :
  ∃ w', (Instr.mapUpdate t x' k' v').run P w = .ok () w' ∧ Rel P β m' w' ∧ Stp β m w β m' w' := by
 unfold aMapUpdate at h
 split at h
 rotate_left
 ·cases h
 rename_i kt et r e1
 cases hx with
 | map _ hr =>
 split at h
 rotate_left
 ·cases h
 rename_i u es e2 e3
 obtain ⟨es', clk, hw, hs, hes, hst⟩ := hR.mapS r es e3
 have hg : (getObj (β.blk r)).run P w = .ok (.map es' clk) w := by simp [getObj, Sem.run, hw]
 have hset : ∀ O, (setObj (β.blk r) O).run P w = .ok () (World.putObj w (β.blk r) O) := by intro O; simp [setObj, Sem.run, hw, World.putObj]
 have hnew : ObjRel β m.size r (.map true (es ++ [(k, v)])) (.map (es'.push { key := k', val := v', born := clk }) (clk + 1)) := by
  refine ⟨_, clk + 1, rfl, by simpa using hs, fun q x e' h1 h2 => ?_, fun _ => hst.push⟩
  rw [Array.getElem?_push] at h2
  by_cases hq : q = es'.size
  ·subst hq
   rw [if_pos rfl] at h2; injection h2 with h2; subst h2
   rw [List.getElem?_append_right (by omega)] at h1
   have : es'.size - es.length = 0 := by omega
   rw [this] at h1; simp at h1; subst h1
   exact ⟨hk, hv⟩
  ·rw [if_neg hq] at h2
   have hq2 := (Array.getElem?_eq_some_iff.1 h2).1
   rw [List.getElem?_append_left (by omega)] at h1
   exact hes q x e' h1 h2
 split at h
 rotate_left
 ·split at h
  ·rename_i hp
   simp only [Bool.and_eq_true] at hp
   have hck : (Instr.checkKey false 10000 kt k').run P w = .ok () w := aKeyOk_sound false eqDep kt k k' hk hp.2 10000 (by decide)
   split at h
   ·rename_i e5
    injection h with h; subst h
    obtain ⟨r', hf, hrr⟩ := run_findKeyA (w := w) e2 hp.1 hk (es' := es'.toList) (by simpa using hs.symm) (fun i x y a b => hes i x y a (by simpa using b)) e5
    cases r' with
    | some q => exact hrr.elim
    | none =>
     obtain ⟨r1, r2⟩ := hR.upd (b := r) (by rw [e3]; rfl) (fun c h => by rw [e3] at h; cases h) hnew
     refine ⟨_, ?_, r1, r2⟩
     simp only [Instr.mapUpdate, Sem.run_bind, run_underlying e1, Result.andThen_ok, hg, hck, hf, hset]
   ·cases h
  ·cases h
 rename_i hp
 split at h
 ·rename_i i v0 e5
  injection h with h; subst h
  obtain ⟨r', er, hrr⟩ := aFindNow_rel hk es es'.toList 0 _ (by simpa using hs.symm) (fun i x y a b => hes i x y a (by simpa using b)) e5
  cases r' with
  | none => exact hrr.elim
  | some q =>
   obtain ⟨j, v1⟩ := q
   obtain ⟨hij, _, _, hlt⟩ := hrr
   subst hij
   simp only [Nat.zero_add] at hlt
   have hf := run_findKey (P := P) (w := w) e2 er
   obtain ⟨e0, _, he0, hsame⟩ := findNow_key es'.toList 0 i v1 er
   simp only [Nat.sub_zero, Array.getElem?_toList] at he0
   have hstay : ((Instr.keyThatStays (((es'[i]?).map (·.key)).getD k') k')).run P w = .ok k' w := by
    rw [he0]
    simp [Instr.keyThatStays, sameNow_true hsame]
   have hOR : ObjRel β m.size r (.map true (es.set i (k, v))) (.map (es'.modify i fun e => { e with key := k', val := v' }) clk) := by
    refine ⟨_, clk, rfl, by simpa using hs, fun q x e' h1 h2 => ?_, fun _ => hst.modify fun _ => rfl⟩
    rw [List.getElem?_set] at h1
    rw [Array.getElem?_modify] at h2
    by_cases hq : i = q
    ·subst hq
     simp only [if_true, hlt] at h1
     injection h1 with h1; subst h1
     rw [if_pos rfl] at h2
     cases hq2 : es'[i]? with
     | none => rw [hq2] at h2; cases h2
     | some e2 => rw [hq2] at h2; injection h2 with h2; subst h2; exact ⟨hk, hv⟩
    ·rw [if_neg hq] at h1 h2
     exact hes q x e' h1 h2
   obtain ⟨r1, r2⟩ := hR.upd (b := r) (by rw [e3]; rfl) (fun c h => by rw [e3] at h; cases h) hOR
   refine ⟨_, ?_, r1, r2⟩
   simp only [Instr.mapUpdate, Sem.run_bind, run_underlying e1, Result.andThen_ok, hg, run_checkKey _ e2 hp, hf, hstay, hset]
 ·rename_i e5
  injection h with h; subst h
  obtain ⟨r', er, hrr⟩ := aFindNow_rel hk es es'.toList 0 _ (by simpa using hs.symm) (fun i x y a b => hes i x y a (by simpa using b)) e5
  cases r' with
  | some q => exact hrr.elim
  | none =>
   have hf := run_findKey (P := P) (w := w) e2 er
   obtain ⟨r1, r2⟩ := hR.upd (b := r) (by rw [e3]; rfl) (fun c h => by rw [e3] at h; cases h) hnew
   refine ⟨_, ?_, r1, r2⟩
   simp only [Instr.mapUpdate, Sem.run_bind, run_underlying e1, Result.andThen_ok, hg, run_checkKey _ e2 hp, hf, hset]
 ·cases h
/-- Noughts that are appended to nothing. -/
def aAppendN (P : Program) (m : Mem) (t xt : TypeId) (s x : Value) : Option (Value × Mem) :=
  match undOf P t, undOf P xt, s, x with
  | some (.slice elem), some ux, .slice none 0 0, .int _ l =>
    match isIntT ux, szOf P elem, zeroOf P elem, bytesOf' P elem with
    | true, some sz, some z, some by_ =>
      if 0 < sz ∧ z.cells.size = sz ∧ z.cells.all flat0 = true ∧ 0 < l ∧ l ≤ 1048576 ∧ by_ ≤ 1048576 then
        some (.slice (some ⟨m.size, 0, some sz⟩) l.toNat l.toNat, m.push (.cells true ((Array.range (l.toNat * z.cells.size)).map (z.cells[· % z.cells.size]!))))
      else none
    | _, _, _, _ => none
  | _, _, _, _ => none
theorem aAppendN_sound {P : Program} {β : Beta} {m m' : Mem} {w : World} {t xt rt : TypeId} {s x s' x' v : Value} (hR : Rel P β m w) (hs : VRel β m.size s s') (hx : VRel β m.size x x')
  (h : aAppendN P m t xt s x = some (v, m')) : Eff P β m w (Builtin.append_ #[t, xt] rt #[s', x']) v m' := by
 unfold aAppendN at h
 split at h
 rotate_left
 ·cases h
 rename_i elem ux k l e1 e2
 cases hs
 cases hx
 split at h
 rotate_left
 ·cases h
 rename_i sz z by_ ez esz ezz eby
 split at h
 rotate_left
 ·cases h
 rename_i hcond
 obtain ⟨hsz, hzs, hzf, hl0, hl1, hb1⟩ := hcond
 injection h with h; injection h with h1 h2; subst h1 h2
 obtain ⟨i, ei, eb⟩ := info_of eby
 obtain ⟨n, rfl⟩ : ∃ n : Nat, l = Int.ofNat n := ⟨l.toNat, by simp; omega⟩
 have hn0 : 0 < n := by simpa using hl0
 have hn1 : n ≤ 1048576 := by simp at hl1; omega
 obtain ⟨newCap, hge, hlt63, hch⟩ := run_appendCap (P := P) (w := w) (need := n) (old := 0) (e := elem) (by omega)
 have hdr : ({ w with drawn := w.drawn + 1 } : World).heap = w.heap := rfl
 have hz := zeros_rel (β := β) (N := m.size) hzf (by omega) (n * z.cells.size)
 have hns2 : Builtin.nextslicecap n 0 ≤ 2 * n := nextslicecap_le (by omega)
 have hmul : Builtin.nextslicecap n 0 * by_ ≤ 2 * n * by_ := Nat.mul_le_mul_right _ hns2
 have hmul2 : 2 * n * by_ ≤ 2 * 1048576 * 1048576 := Nat.mul_le_mul (by omega) hb1
 have hmul3 : n * by_ ≤ 1048576 * 1048576 := Nat.mul_le_mul hn1 hb1
 have hnb : ¬ (Builtin.nextslicecap n 0 * by_ > 2 ^ 48) := by omega
 have hnz : n * sz ≠ 0 := Nat.mul_ne_zero (by omega) (by omega)
 obtain ⟨β', hv, hR', hS'⟩ := append_moved (P := P) (β := β) (m := m) (m0 := m) (w := { w with drawn := w.drawn + 1 }) (w0 := w) (hR.drew hdr) (Stp.drew hdr rfl rfl rfl) rfl (elem := elem) (old := #[]) (new := (Array.range (n * z.cells.size)).map (z.cells[· % z.cells.size]!)) (old' := #[]) (new' := (Array.range (n * z.cells.size)).map (z.cells[· % z.cells.size]!)) (rest := Builtin.zeroCells z.cells (newCap - n)) (need := n) (newCap := newCap) (sz := sz) (ARel.nil _ _) hz hsz (by simp [hzs]) hge (by rw [zeroCells_size, hzs]) hlt63
 have hwl : IntKind.i64.wrap (Int.ofNat n) = Int.ofNat n := wrap_i64 (by simp) (by simp; omega)
 have hlb : ¬ (Int.ofNat n * (i.bytes : Int) > 2 ^ 48) := by
  have e : Int.ofNat n * (i.bytes : Int) = ((n * i.bytes : Nat) : Int) := by simp
  rw [e, eb]; omega
 have hneed : ¬ ((0 + n : Nat) ≤ 0) := by omega
 rw [Array.empty_append] at hR' hS' hv
 refine ⟨_, _, β', ?_, hv, hR', hS'⟩
 cases ux <;> first
  | (simp [isIntT] at ez; done)
  | skip
 have hnl : ¬ (Int.ofNat n < 0) := by simp
 have hi64 : IntKind.i64.max = 9223372036854775807 := by decide
 simp only [Builtin.append_, List.getElem?_toArray, List.getElem?_cons_zero, List.getElem?_cons_succ, Sem.run_bind, run_underlying e1, Result.andThen_ok, run_sizeOf esz, run_underlying e2, Sem.run_pure, if_true, asInt, asIntOf, hwl, if_neg hnl, run_typeInfo ei, if_neg hlb]
 rw [show (Int.ofNat n).toNat = n from rfl, if_neg hneed]
 simp only [Sem.run_bind, Result.andThen_ok, run_typeInfo ei]
 rw [if_neg (by rintro ⟨h1, _⟩; rw [hi64] at h1; omega)]
 simp only [Sem.run_bind, Result.andThen_ok, run_typeInfo ei]
 rw [show (0 + n) = n by omega, if_neg (by rw [eb]; exact hnb)]
 simp only [Sem.run_bind, Result.andThen_ok, run_typeInfo ei, hch, run_askRoom, Bool.not_true, Bool.false_eq_true, if_false, if_neg hnz, run_zeroValue ezz, Sem.run_pure, newRow, run_newObj, Builtin.firstCells]
 rw [Array.empty_append]
 rfl
/-- The room of nothing. -/
def aCapNil (P : Program) (m : Mem) (t : TypeId) (x : Value) : Option (Value × Mem) :=
  match undOf P t, x with
  | some (.slice _), .slice none 0 0 => some (.int .i64 0, m)
  | _, _ => none
theorem aCapNil_sound {P : Program} {β : Beta} {m m' : Mem} {w : World} {t rt : TypeId} {x x' v : Value} (hR : Rel P β m w) (hx : VRel β m.size x x') (h : aCapNil P m t x = some (v, m')) :
  Eff P β m w (Builtin.cap_ #[t] rt #[x']) v m' := by
 unfold aCapNil at h
 split at h
 ·rename_i e e1
  injection h with h; injection h with h1 h2; subst h1 h2
  cases hx
  refine ⟨.int .i64 0, w, β, ?_, .int _ _, hR, .refl _ _ _⟩
  simp [Builtin.cap_, run_underlying e1, goInt]
 ·cases h
end Go.AM
