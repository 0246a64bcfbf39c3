/- Part 3 of the proof: Conditions over code, sound against the abstract machine. -/
import Derived.Test.YtdokoekgdeebpaaDoorPartB
import Derived.IntWalk
import Derived.KernelRfl
set_option linter.unusedVariables false
set_option linter.unusedSimpArgs false
set_option maxRecDepth 100000
/-! C0 -/
namespace Go.AM
abbrev Env := Nat → Value
def fr (n : Nat) (ρ : Env) : Array Value := Array.ofFn (n := n) fun i => ρ i.1
theorem fr_size (n : Nat) (ρ : Env) : (fr n ρ).size = n := by simp [fr]
theorem fr_getD {n : Nat} {ρ : Env} {i : Nat} (h : i < n) : (fr n ρ).getD i Go.undef = ρ i := by
 simp [fr, Array.getD_eq_getD_getElem?, h]
theorem fr_get {n : Nat} {ρ : Env} {i : Nat} (h : i < n) : (fr n ρ)[i]? = some (ρ i) := by simp [fr, h]
def upd (ρ : Env) (d : Nat) (v : Value) : Env := fun i => cond (Nat.beq i d) v (ρ i)
@[simp] theorem upd_same (ρ : Env) (d : Nat) (v : Value) : upd ρ d v d = v := by simp [upd]
@[simp] theorem upd_ne (ρ : Env) {d i : Nat} (v : Value) (h : i ≠ d) : upd ρ d v i = ρ i := by
  have : Nat.beq i d = false := by cases e : Nat.beq i d with
    | false => rfl
    | true => exact absurd (Nat.eq_of_beq_eq_true e) h
  simp [upd, this]
def updO (ρ : Env) (d : Option Nat) (v : Value) : Env :=
  match d with
  | some d => upd ρ d v
  | none => ρ
theorem put_fr (n : Nat) (ρ : Env) (d : Option Nat) (v : Value) : put (fr n ρ) d v = fr n (updO ρ d v) := by
 cases d with
 | none => rfl
 | some d =>
  apply Array.ext
  ·simp [put, fr]
  ·intro i h1 h2
   have hi : i < n := by simpa [fr] using h2
   by_cases e : d = i
   ·subst e
    simp [put, updO, fr, upd]
   ·have e' : ¬ i = d := fun h => e h.symm
    have : (put (fr n ρ) (some d) v)[i]? = (fr n (updO ρ (some d) v))[i]? := by
     simp only [put, updO]
     rw [Array.getElem?_setIfInBounds, if_neg e, fr_get hi, fr_get hi, upd_ne _ _ e']
    rw [Array.getElem?_eq_getElem h1, Array.getElem?_eq_getElem h2] at this
    exact Option.some.inj this
def evR (ρ : Env) : Operand → Value
  | .tmp t => ρ t
  | .const v => v
  | .global g => .pointer (some ⟨g, 0, none⟩)
  | .func f => .func (.func f) #[] #[]
/-! ### What is closed: the slots, the constants -/
def okX (G n : Nat) (x : Operand) : Bool := okOper G x && (match x with
  | .tmp t => decide (t < n)
  | _ => true)
def okO (G n : Nat) (o : Oper) : Bool := o.op.operands.toList.all (okX G n) && (match o.dst with
  | some d => decide (d < n)
  | none => true)
def okC (G n : Nat) : Code → Bool
  | .skip | .label _ | .exit _ | .ret => true
  | .cond c x y => okX G n c && okC G n x && okC G n y
  | .seq x y => okC G n x && okC G n y
  | .block _ x => okC G n x
  | .scope x => okC G n x
  | .loop x => okC G n x
  | .region _ ops _ => ops.toList.all (okO G n)
  | .rangeFunc f _ a b => okX G n f && okC G n a && okC G n b
  | _ => false
theorem ev_fr {G n : Nat} {ρ : Env} {x : Operand} (h : okX G n x = true) : ev (fr n ρ) x = evR ρ x := by
 cases x with
 | tmp t => simp only [okX, Bool.and_eq_true, decide_eq_true_eq] at h; exact fr_getD h.2
 | _ => rfl
theorem okO_ops {P : Program} {n : Nat} {o : Oper} (h : okO P.globals.size n o = true) : okOps P o.op = true := by
 simp only [okO, Bool.and_eq_true, List.all_eq_true] at h
 unfold okOps
 rw [Array.all_eq_true']
 intro x hx
 have := h.1 x (by simpa using hx)
 simp only [okX, Bool.and_eq_true] at this
 exact this.1
theorem okO_ev {G n : Nat} {ρ : Env} {o : Oper} (h : okO G n o = true) : ∀ x ∈ o.op.operands, ev (fr n ρ) x = evR ρ x := by
 simp only [okO, Bool.and_eq_true, List.all_eq_true] at h
 exact fun x hx => ev_fr (h.1 x (by simpa using hx))
/-! ### One operation -/
def opF (P : Program) (ρ : Operand → Value) (m : Mem) (op : Op) : Option (Value × Mem) :=
  match aPure P ρ op with
  | some v => some (v, m)
  | none => match aRead P m ρ op with
    | some v => some (v, m)
    | none => aEff P m ρ op
/-- What an operation has to come to. -/
def wpOp (P : Program) (op : Op) (ρ : Operand → Value) (m : Mem) (K : Value → Mem → Prop) : Prop :=
  match op with
  | .call ⟨.value f, args, tys⟩ => ∃ v m', AStep P (.call ⟨.value f, args, tys⟩) ρ m v m' ∧ K v m'
  | op => ∃ r, opF P ρ m op = some r ∧ K r.1 r.2
theorem opF_step {P : Program} {ρ : Operand → Value} {m : Mem} {op : Op} {r : Value × Mem} (h : opF P ρ m op = some r) : AStep P op ρ m r.1 r.2 := by
 unfold opF at h
 split at h
 ·rename_i v e; injection h with h; subst h; exact .pure e rfl
 ·split at h
  ·rename_i v e; injection h with h; subst h; exact .read e rfl
  ·exact .eff h
theorem wpOp_sound {P : Program} {op : Op} {ρ : Operand → Value} {m : Mem} {K : Value → Mem → Prop} (h : wpOp P op ρ m K) : ∃ v m', AStep P op ρ m v m' ∧ K v m' := by
 unfold wpOp at h
 split at h
 ·exact h
 ·obtain ⟨r, h1, h2⟩ := h
  exact ⟨_, _, opF_step h1, h2⟩
def wantR (ops : Array Oper) (ρ : Env) (o : Oper) : Prop :=
  match o.guard with
  | none => True
  | some (j, q) => (match (ops.toList[j]?).bind (·.dst) with
    | some d => ρ d = .bool q
    | none => False)
theorem want_of {G n : Nat} {ops : Array Oper} {ρ : Env} {o : Oper} (h : ops.toList.all (okO G n) = true) : (awanted ops (fr n ρ) o = true ↔ wantR ops ρ o) := by
 unfold awanted Region.wanted wantR yielded
 cases o.guard with
 | none => simp
 | some p =>
  obtain ⟨j, q⟩ := p
  simp only [Array.getElem?_toList]
  cases e : ops[j]? with
  | none => simp
  | some o' =>
   cases e2 : o'.dst with
   | none => simp [e2]
   | some d =>
    have hd : d < n := by
     have := List.all_eq_true.1 h o' (by rw [← Array.mem_def]; exact Array.mem_of_getElem? e)
     simp only [okO, e2, Bool.and_eq_true, decide_eq_true_eq] at this
     exact this.2
    simp only [Option.bind_some, e2, fr_get hd]
    cases hv : ρ d <;> simp
/-! ### Regions -/
def wpOps (P : Program) (ops : Array Oper) (K : Env → Mem → Prop) : List Oper → Env → Mem → Prop
  | [], ρ, m => K ρ m
  | o :: l, ρ, m =>
    (wantR ops ρ o → wpOp P o.op (evR ρ) m fun v m' => wpOps P ops K l (updO ρ o.dst v) m') ∧
    (¬ wantR ops ρ o → wpOps P ops K l (updO ρ o.dst Go.undef) m)
theorem wpOps_sound {P : Program} {n : Nat} {ops : Array Oper} {K : Env → Mem → Prop} (hok : ops.toList.all (okO P.globals.size n) = true) :
  ∀ (l : List Oper) (i : Nat) (ρ : Env) (m : Mem), ops.toList.drop i = l → wpOps P ops K l ρ m → ∃ ρ' m', ARow P ops (List.range' i l.length) (fr n ρ) m (fr n ρ') m' ∧ K ρ' m'
 | [], i, ρ, m, _, h => ⟨ρ, m, .nil _ _, h⟩
 | o :: l, i, ρ, m, hl, h => by
  have ho : ops[i]? = some o := by
   rw [← Array.getElem?_toList]
   have : (ops.toList.drop i)[0]? = some o := by rw [hl]; rfl
   simpa using this
  have hd : ops.toList.drop (i + 1) = l := by rw [← List.drop_drop, hl]; rfl
  have hoo : okO P.globals.size n o = true := List.all_eq_true.1 hok o (by rw [← Array.mem_def]; exact Array.mem_of_getElem? ho)
  rw [List.length_cons, List.range'_succ]
  by_cases hw : wantR ops ρ o
  ·obtain ⟨v, m', hs, hk⟩ := wpOp_sound (h.1 hw)
   obtain ⟨ρ', m2, hr, hK⟩ := wpOps_sound hok l (i + 1) _ _ hd hk
   refine ⟨ρ', m2, .op ho ((want_of hok).2 hw) (AStep.aop (okO_ops hoo) (hs.congr fun x hx => (okO_ev hoo x hx).symm)) ?_, hK⟩
   rw [put_fr]; exact hr
  ·obtain ⟨ρ', m2, hr, hK⟩ := wpOps_sound hok l (i + 1) _ _ hd (h.2 hw)
   refine ⟨ρ', m2, .off ho (by rw [← Bool.not_eq_true]; exact fun e => hw ((want_of hok).1 e)) ?_, hK⟩
   rw [put_fr]; exact hr
end Go.AM

/-! C1 -/
namespace Go.AM
/-! ### What is closed in a region that draws -/
def waitsFrom (ops : List Oper) (W : Array Nat) : Array Nat :=
  match ops with
  | [] => W
  | o :: l => waitsFrom l (W.push (waitsOf W o))
def drawW (ops : Array Oper) : Array Nat := waitsFrom ops.toList #[]
def isEff : Op → Bool
  | .alloc _ | .box _ _ | .buildSlice _ _ _ | .makeSlice _ _ _ | .makeMap _ _ | .store _ _ _ | .mapUpdate _ _ _ _ | .insert _ _ _ _ => true
  | .call ⟨.builtin .len, _, _⟩ => false
  | .call ⟨.builtin .max, _, _⟩ => false
  | .call ⟨.builtin .min, _, _⟩ => false
  | .call _ => true
  | _ => false
def isRead : Op → Bool
  | .load _ _ | .slice _ _ _ _ _ | .lookup _ _ _ _ => true
  | .call ⟨.builtin .len, _, _⟩ => true
  | _ => false
def effAt (ops : Array Oper) (i : Nat) : Bool := match ops.toList[i]? with
  | some o => isEff o.op
  | none => false
def readAt (ops : Array Oper) (i : Nat) : Bool := match ops.toList[i]? with
  | some o => isRead o.op
  | none => false
def chainB (ops : Array Oper) (W : Array Nat) : Bool :=
  (List.range ops.size).all fun j => !effAt ops j || (List.range j).all fun i => !effAt ops i || (W.getD j 0).testBit i
/-- An operation with an effect that always comes. -/
def effNow (ops : Array Oper) (i : Nat) : Bool := match ops.toList[i]? with
  | some o => isEff o.op && o.guard.isNone
  | none => false
/-- The stages, besides its own, at which a read may come. -/
def stagesB (ops : Array Oper) (W : Array Nat) (i k : Nat) : Bool :=
  (k == 0 || effAt ops (k - 1)) && (List.range ops.size).all fun j => !effNow ops j || ((!(W.getD i 0).testBit j || decide (j < k)) && (!(W.getD j 0).testBit i || decide (k ≤ j)))
def ownStage (ops : Array Oper) : Nat → Nat
  | 0 => 0
  | i + 1 => if effAt ops i then i + 1 else ownStage ops i
def hints (ops : Array Oper) : List (Nat × Nat) :=
  ((List.range ops.size).filter (readAt ops)).flatMap fun i =>
    ((List.range (ops.size + 1)).filter fun k => stagesB ops (drawW ops) i k && k != ownStage ops i).map fun k => (i, k)
def okDrawS (ops : Array Oper) : Bool :=
  okW ops (drawW ops) && okSlots ops (drawW ops) && chainB ops (drawW ops)
/-- A row that is made, where an effect ahead of it in the text does not bind it. -/
def isBuild : Op → Bool
  | .buildSlice _ _ _ => true
  | .alloc _ => true
  | _ => false
def floatAt (ops : Array Oper) (W : Array Nat) (i : Nat) : Bool := match ops.toList[i]? with
  | some o => isBuild o.op && (List.range i).any fun j => effAt ops j && !(W.getD i 0).testBit j
  | none => false
def chainAt (ops : Array Oper) (W : Array Nat) (i : Nat) : Bool := effAt ops i && !floatAt ops W i
def chainNow (ops : Array Oper) (W : Array Nat) (i : Nat) : Bool := effNow ops i && !floatAt ops W i
def stagesF (ops : Array Oper) (W : Array Nat) (i k : Nat) : Bool :=
  (k == 0 || chainAt ops W (k - 1)) && (List.range ops.size).all fun j => !chainNow ops W j || ((!(W.getD i 0).testBit j || decide (j < k)) && (!(W.getD j 0).testBit i || decide (k ≤ j)))
def hintsF (ops : Array Oper) : List (Nat × Nat) :=
  ((List.range ops.size).filter (readAt ops)).flatMap fun i =>
    ((List.range (ops.size + 1)).filter fun k => stagesF ops (drawW ops) i k && k != ownStage ops i).map fun k => (i, k)
def usesAt (ops : Array Oper) (i j : Nat) : Bool := match (ops.toList[i]?).bind (·.dst), ops.toList[j]? with
  | some s, some o => (tmpsOf o.op.operands.toList).contains s
  | _, _ => false
def guardsAt (ops : Array Oper) (i j : Nat) : Bool := match (ops.toList[i]?).bind (·.dst), ops.toList[j]? with
  | some s, some o => (match o.guard with
    | some (g, _) => (ops.toList[g]?).bind (·.dst) == some s
    | none => false)
  | _, _ => false
def okFl1 (ops : Array Oper) (W : Array Nat) (i j : Nat) : Bool :=
  (!chainAt ops W j || ((!chainAt ops W i || (W.getD j 0).testBit i) && (!floatAt ops W i || (W.getD j 0).testBit i))) &&
  (!(floatAt ops W i && usesAt ops i j && !chainAt ops W j) || (List.range j).any fun e => decide (i < e) && chainNow ops W e && (W.getD j 0).testBit e)
def okFl2 (ops : Array Oper) (W : Array Nat) : Bool := (List.range ops.size).all fun j => (List.range ops.size).all fun i => !(floatAt ops W i && guardsAt ops i j)
def okFl (ops : Array Oper) (W : Array Nat) : Bool := (List.range ops.size).all fun j => (List.range j).all fun i => okFl1 ops W i j
def okDrawF (ops : Array Oper) : Bool := okW ops (drawW ops) && okSlots ops (drawW ops) && okFl ops (drawW ops) && okFl2 ops (drawW ops)
def flH : Nat × Nat := (999999, 0)
theorem aEff_none {P : Program} {m : Mem} {ρ : Operand → Value} {op : Op} (h : isEff op = false) : aEff P m ρ op = none := by
 unfold aEff
 split <;> first | rfl | (simp [isEff] at h)
theorem aRead_none {P : Program} {m : Mem} {ρ : Operand → Value} {op : Op} (h : isRead op = false) : aRead P m ρ op = none := by
 unfold aRead
 split <;> first | rfl | (simp [isRead] at h)
/-! ### A region's operations in another order of the text -/
def renO (π : List Nat) (o : Oper) : Oper := ⟨o.dst, o.op, o.type, o.pos, o.after.map (fun e => { e with on := π.idxOf e.on }), o.guard.map fun g => (π.idxOf g.1, g.2)⟩
def permOps (ops : Array Oper) (π : List Nat) : Array Oper := ⟨π.map fun i => renO π (ops.toList.getD i default)⟩
/-- An order of one's own stands ahead of the hints: (999998, place) for each operation. -/
def movesOf : List (Nat × Nat) → List Nat
  | [] => []
  | p :: l => if p.1 = 999998 then p.2 :: movesOf l else []
def restOf : List (Nat × Nat) → List (Nat × Nat)
  | [] => []
  | p :: l => if p.1 = 999998 then restOf l else p :: l
def opsH (hs : List (Nat × Nat)) (ops : Array Oper) : Array Oper := if movesOf hs = [] then ops else permOps ops (movesOf hs)
def okPerm (ops : Array Oper) (π : List Nat) : Bool :=
  okW ops (drawW ops) && (π.length == ops.size) &&
  ((List.range ops.size).all fun i => decide (π.idxOf i < ops.size) && (π.getD (π.idxOf i) 0 == i)) &&
  ((List.range ops.size).all fun p => decide (π.getD p 0 < ops.size) && (π.idxOf (π.getD p 0) == p)) &&
  ((List.range ops.size).all fun i => (List.range ops.size).all fun k => ((drawW (permOps ops π)).getD (π.idxOf i) 0).testBit (π.idxOf k) == ((drawW ops).getD i 0).testBit k) &&
  ((List.range ops.size).all fun p => decide ((drawW (permOps ops π)).getD p 0 < 2 ^ ops.size)) &&
  (ops.toList.all fun o => match o.guard with | some g => decide (g.1 < ops.size) | none => true)
structure Ent where
  ρ : Env
  m : Mem
  v : Value
def wpLog (P : Program) (ops : Array Oper) (K : List Ent → Env → Mem → Prop) : List Oper → List Ent → Env → Mem → Prop
  | [], log, ρ, m => K log ρ m
  | o :: l, log, ρ, m =>
    (wantR ops ρ o → wpOp P o.op (evR ρ) m fun v m' => wpLog P ops K l (log ++ [⟨ρ, m, v⟩]) (updO ρ o.dst v) m') ∧
    (¬ wantR ops ρ o → wpLog P ops K l (log ++ [⟨ρ, m, Go.undef⟩]) (updO ρ o.dst Go.undef) m)
def memAt (log : List Ent) (m' : Mem) (k : Nat) : Mem := match log[k]? with
  | some e => e.m
  | none => m'
/-- What is asked of the reads that may come at other stages. -/
def obl (P : Program) (ops : Array Oper) (log : List Ent) (m' : Mem) : List (Nat × Nat) → Prop
  | [] => True
  | (i, k) :: l => (match log[i]?, ops.toList[i]? with
    | some e, some o => wantR ops e.ρ o → aRead P (memAt log m' k) (evR e.ρ) o.op = some e.v ∨ aPure P (evR e.ρ) o.op = some e.v
    | _, _ => True) ∧ obl P ops log m' l
def wpDraw (P : Program) (ops : Array Oper) (hs : List (Nat × Nat)) (K : Env → Mem → Prop) (ρ : Env) (m : Mem) : Prop :=
  match hs with
  | [] => wpOps P ops K ops.toList ρ m
  | hs => wpLog P ops (fun log ρ' m' => obl P ops log m' hs ∧ K ρ' m') ops.toList [] ρ m
/-! ### What changes in the abstract memory alone -/
def Ghost (m m2 : Mem) : Prop := m2 = m ∨ (∃ b c, Mem.get m b = .cells true c ∧ m2 = m.setIfInBounds b (.grow c)) ∨ ∃ b c, Mem.get m b = .grow c ∧ m2 = m.setIfInBounds b (.cells false c)
theorem Ghost.size {m m2 : Mem} (h : Ghost m m2) : m2.size = m.size := by
 rcases h with rfl | ⟨b, c, _, rfl⟩ | ⟨b, c, _, rfl⟩ <;> simp
theorem Ghost.rel {P : Program} {β : Beta} {m m2 : Mem} {w : World} (h : Ghost m m2) (hR : Rel P β m w) : Rel P β m2 w ∧ Stp β m w β m2 w := by
 rcases h with rfl | ⟨b, c, hb, rfl⟩ | ⟨b, c, hb, rfl⟩
 ·exact ⟨hR, .refl _ _ _⟩
 ·exact hR.grow_of hb
 ·exact hR.freeze hb
theorem Ghost.loops {m m2 : Mem} (h : Ghost m m2) : LoopsIn m m2 := by
 rcases h with rfl | ⟨b, c, hb, rfl⟩ | ⟨b, c, hb, rfl⟩
 ·exact .refl _
 ·exact .set (by rw [hb]; intro h; cases h)
 ·exact .set (by rw [hb]; intro h; cases h)
theorem ACd.ghost {P : Program} {c : Code} {t t' : Array Value} {m m' m2 : Mem} {e : AExit} (h : ACd P c t m e t' m') (hg : Ghost m' m2) : ACd P c t m e t' m2 := by
 refine ⟨h.1.trans hg.loops, fun b β w ts ds n hR hT hM hn hd hI => (h.2 b β w ts ds n hR hT hM hn hd hI).mono ?_⟩
 rintro e' ts' ds' w' ⟨h1, h2, h3, β', h4, h5, h6⟩
 obtain ⟨r1, r2⟩ := hg.rel h5
 exact ⟨h1, h2, h3, β', by rw [hg.size]; exact h4, r1, h6.trans r2⟩
def Gh (K : Env → Mem → Prop) (ρ : Env) (m : Mem) : Prop := ∃ m2, Ghost m m2 ∧ K ρ m2
theorem Gh.refl {K : Env → Mem → Prop} {ρ : Env} {m : Mem} (h : K ρ m) : Gh K ρ m := ⟨m, .inl rfl, h⟩
theorem Gh.mono {K K' : Env → Mem → Prop} (h : ∀ ρ m, K ρ m → K' ρ m) {ρ : Env} {m : Mem} (hg : Gh K ρ m) : Gh K' ρ m := by
 obtain ⟨m2, h1, h2⟩ := hg; exact ⟨m2, h1, h _ _ h2⟩
/-! ### Code -/
def seqK (N : Env → Mem → Prop) (Q : AExit → Env → Mem → Prop) (e : AExit) (ρ : Env) (m : Mem) : Prop :=
  match e with
  | .normal => N ρ m
  | e => Q e ρ m
@[simp] theorem seqK_normal (N : Env → Mem → Prop) (Q : AExit → Env → Mem → Prop) (ρ : Env) (m : Mem) : seqK N Q .normal ρ m = N ρ m := rfl
@[simp] theorem seqK_ret (N : Env → Mem → Prop) (Q : AExit → Env → Mem → Prop) (ρ : Env) (m : Mem) : seqK N Q .ret ρ m = Q .ret ρ m := rfl
@[simp] theorem seqK_exit (N : Env → Mem → Prop) (Q : AExit → Env → Mem → Prop) (i : Nat) (ρ : Env) (m : Mem) : seqK N Q (.exit i) ρ m = Q (.exit i) ρ m := rfl
def blockK (id : Nat) (Q : AExit → Env → Mem → Prop) (e : AExit) (ρ : Env) (m : Mem) : Prop := Q (if e = .exit id then .normal else e) ρ m
@[simp] theorem blockK_normal (id : Nat) (Q : AExit → Env → Mem → Prop) (ρ : Env) (m : Mem) : blockK id Q .normal ρ m = Q .normal ρ m := rfl
@[simp] theorem blockK_ret (id : Nat) (Q : AExit → Env → Mem → Prop) (ρ : Env) (m : Mem) : blockK id Q .ret ρ m = Q .ret ρ m := rfl
@[simp] theorem blockK_same (id : Nat) (Q : AExit → Env → Mem → Prop) (ρ : Env) (m : Mem) : blockK id Q (.exit id) ρ m = Q .normal ρ m := by simp [blockK]
@[simp] theorem blockK_exit {id i : Nat} (h : i ≠ id) (Q : AExit → Env → Mem → Prop) (ρ : Env) (m : Mem) : blockK id Q (.exit i) ρ m = Q (.exit i) ρ m := by simp [blockK, h]
/-- The least that is closed under a round. -/
def wpLoop (W : (AExit → Env → Mem → Prop) → Env → Mem → Prop) (Q : AExit → Env → Mem → Prop) (ρ : Env) (m : Mem) : Prop :=
  ∀ X : Env → Mem → Prop, (∀ ρ m, W (seqK X Q) ρ m → X ρ m) → X ρ m
def wpC (P : Program) (n : Nat) (H : Nat → List (Nat × Nat)) : Code → (AExit → Env → Mem → Prop) → Env → Mem → Prop
  | .skip, Q, ρ, m => Q .normal ρ m
  | .label _, Q, ρ, m => Q .normal ρ m
  | .exit id, Q, ρ, m => Q (.exit id) ρ m
  | .ret, Q, ρ, m => Q .ret ρ m
  | .cond c x y, Q, ρ, m => ∃ q, evR ρ c = .bool q ∧ (q = true → wpC P n H x Q ρ m) ∧ (q = false → wpC P n H y Q ρ m)
  | .seq x y, Q, ρ, m => wpC P n H x (seqK (wpC P n H y Q) Q) ρ m
  | .block id x, Q, ρ, m => wpC P n H x (blockK id Q) ρ m
  | .scope x, Q, ρ, m => wpC P n H x Q ρ m
  | .loop x, Q, ρ, m => wpLoop (wpC P n H x) Q ρ m
  | .region id ops dr, Q, ρ, m => if dr then wpDraw P (opsH (H id) ops) (restOf (H id)) (Q .normal) ρ m else wpOps P ops (Gh (Q .normal)) ops.toList ρ m
  | .rangeFunc f ps a b, Q, ρ, m => ∃ e m', ACd P (.rangeFunc f ps a b) (fr n ρ) m e (fr n ρ) m' ∧ Q e ρ m'
  | _, _, _, _ => False
def okH (H : Nat → List (Nat × Nat)) : Code → Bool
  | .cond _ x y => okH H x && okH H y
  | .seq x y => okH H x && okH H y
  | .block _ x => okH H x
  | .scope x => okH H x
  | .loop x => okH H x
  | .region id ops dr => !dr || ((okDrawS ops && (hints ops == H id && restOf (H id) == H id && movesOf (H id) == [])) || (okDrawF ops && (flH :: hintsF ops == H id && restOf (H id) == H id && movesOf (H id) == [])) ||
      (okDrawF (permOps ops (movesOf (H id))) && (flH :: hintsF (permOps ops (movesOf (H id))) == restOf (H id) && movesOf (H id) != [] && okPerm ops (movesOf (H id)))))
  | .rangeFunc _ _ a b => okH H a && okH H b
  | _ => true
end Go.AM

/-! C2 -/
namespace Go.AM
theorem wpOp_mono {P : Program} {op : Op} {ρ : Operand → Value} {m : Mem} {K K' : Value → Mem → Prop} (h : ∀ v m', K v m' → K' v m') (hw : wpOp P op ρ m K) : wpOp P op ρ m K' := by
 unfold wpOp at hw ⊢
 split at hw
 ·obtain ⟨v, m', h1, h2⟩ := hw; exact ⟨v, m', h1, h _ _ h2⟩
 ·obtain ⟨r, h1, h2⟩ := hw; exact ⟨r, h1, h _ _ h2⟩
theorem wpOps_mono {P : Program} {ops : Array Oper} {K K' : Env → Mem → Prop} (h : ∀ ρ m, K ρ m → K' ρ m) : ∀ (l : List Oper) (ρ : Env) (m : Mem), wpOps P ops K l ρ m → wpOps P ops K' l ρ m
 | [], ρ, m, hw => h _ _ hw
 | o :: l, ρ, m, hw => ⟨fun hc => wpOp_mono (fun v m' => wpOps_mono h l _ _) (hw.1 hc), fun hc => wpOps_mono h l _ _ (hw.2 hc)⟩
theorem wpLog_mono {P : Program} {ops : Array Oper} {K K' : List Ent → Env → Mem → Prop} (h : ∀ g ρ m, K g ρ m → K' g ρ m) : ∀ (l : List Oper) (g : List Ent) (ρ : Env) (m : Mem), wpLog P ops K l g ρ m → wpLog P ops K' l g ρ m
 | [], g, ρ, m, hw => h _ _ _ hw
 | o :: l, g, ρ, m, hw => ⟨fun hc => wpOp_mono (fun v m' => wpLog_mono h l _ _ _) (hw.1 hc), fun hc => wpLog_mono h l _ _ _ (hw.2 hc)⟩
theorem wpOps_log {P : Program} {ops : Array Oper} {K : Env → Mem → Prop} : ∀ (l : List Oper) (g : List Ent) (ρ : Env) (m : Mem), wpOps P ops K l ρ m → wpLog P ops (fun _ ρ m => K ρ m) l g ρ m
 | [], g, ρ, m, hw => hw
 | o :: l, g, ρ, m, hw => ⟨fun hc => wpOp_mono (fun v m' => wpOps_log l _ _ _) (hw.1 hc), fun hc => wpOps_log l _ _ _ (hw.2 hc)⟩
theorem wpDraw_log {P : Program} {ops : Array Oper} {hs : List (Nat × Nat)} {K : Env → Mem → Prop} {ρ : Env} {m : Mem} (h : wpDraw P ops hs K ρ m) :
  wpLog P ops (fun log ρ' m' => obl P ops log m' hs ∧ K ρ' m') ops.toList [] ρ m := by
 unfold wpDraw at h
 split at h
 ·exact wpLog_mono (fun g ρ m h => ⟨trivial, h⟩) _ _ _ _ (wpOps_log _ _ _ _ h)
 ·exact h
theorem wpDraw_mono {P : Program} {ops : Array Oper} {hs : List (Nat × Nat)} {K K' : Env → Mem → Prop} (hk : ∀ ρ m, K ρ m → K' ρ m) {ρ : Env} {m : Mem} (h : wpDraw P ops hs K ρ m) : wpDraw P ops hs K' ρ m := by
 unfold wpDraw at h ⊢
 split at h
 ·exact wpOps_mono hk _ _ _ h
 ·exact wpLog_mono (fun g ρ m h => ⟨h.1, hk _ _ h.2⟩) _ _ _ _ h
def Tr (P : Program) (ops : Array Oper) : List Oper → Env → Mem → List Ent → Env → Mem → Prop
  | [], ρ, m, es, ρ', m' => es = [] ∧ ρ' = ρ ∧ m' = m
  | o :: l, ρ, m, es, ρ', m' => ∃ v m1 es', es = ⟨ρ, m, v⟩ :: es' ∧ ((wantR ops ρ o ∧ AStep P o.op (evR ρ) m v m1) ∨ (¬ wantR ops ρ o ∧ v = Go.undef ∧ m1 = m)) ∧ Tr P ops l (updO ρ o.dst v) m1 es' ρ' m'
theorem wpLog_tr {P : Program} {ops : Array Oper} {K : List Ent → Env → Mem → Prop} : ∀ (l : List Oper) (g : List Ent) (ρ : Env) (m : Mem), wpLog P ops K l g ρ m → ∃ es ρ' m', Tr P ops l ρ m es ρ' m' ∧ K (g ++ es) ρ' m'
 | [], g, ρ, m, h => ⟨[], ρ, m, ⟨rfl, rfl, rfl⟩, by rw [List.append_nil]; exact h⟩
 | o :: l, g, ρ, m, h => by
  by_cases hw : wantR ops ρ o
  ·obtain ⟨v, m1, hs, hk⟩ := wpOp_sound (h.1 hw)
   obtain ⟨es, ρ', m', ht, hK⟩ := wpLog_tr l _ _ _ hk
   exact ⟨⟨ρ, m, v⟩ :: es, ρ', m', ⟨v, m1, es, rfl, .inl ⟨hw, hs⟩, ht⟩, by rw [List.append_assoc] at hK; exact hK⟩
  ·obtain ⟨es, ρ', m', ht, hK⟩ := wpLog_tr l _ _ _ (h.2 hw)
   exact ⟨⟨ρ, m, Go.undef⟩ :: es, ρ', m', ⟨_, m, es, rfl, .inr ⟨hw, rfl, rfl⟩, ht⟩, by rw [List.append_assoc] at hK; exact hK⟩
def envAt (es : List Ent) (ρ' : Env) (k : Nat) : Env := match es[k]? with
  | some e => e.ρ
  | none => ρ'
def valAt (es : List Ent) (k : Nat) : Value := match es[k]? with
  | some e => e.v
  | none => Go.undef
theorem Tr.len {P : Program} {ops : Array Oper} : ∀ {l : List Oper} {ρ : Env} {m : Mem} {es : List Ent} {ρ' : Env} {m' : Mem}, Tr P ops l ρ m es ρ' m' → es.length = l.length
 | [], _, _, _, _, _, ⟨h, _, _⟩ => by rw [h]; rfl
 | o :: l, _, _, _, _, _, ⟨v, m1, es', h, _, ht⟩ => by rw [h, List.length_cons, List.length_cons, ht.len]
theorem Tr.zero {P : Program} {ops : Array Oper} : ∀ {l : List Oper} {ρ : Env} {m : Mem} {es : List Ent} {ρ' : Env} {m' : Mem}, Tr P ops l ρ m es ρ' m' → envAt es ρ' 0 = ρ ∧ memAt es m' 0 = m
 | [], _, _, _, _, _, ⟨h, h1, h2⟩ => by subst h h1 h2; exact ⟨rfl, rfl⟩
 | o :: l, _, _, _, _, _, ⟨v, m1, es', h, _, ht⟩ => by subst h; exact ⟨rfl, rfl⟩
theorem Tr.at {P : Program} {ops : Array Oper} : ∀ {l : List Oper} {ρ : Env} {m : Mem} {es : List Ent} {ρ' : Env} {m' : Mem}, Tr P ops l ρ m es ρ' m' → ∀ i o, l[i]? = some o →
  envAt es ρ' (i + 1) = updO (envAt es ρ' i) o.dst (valAt es i) ∧
  ((wantR ops (envAt es ρ' i) o ∧ AStep P o.op (evR (envAt es ρ' i)) (memAt es m' i) (valAt es i) (memAt es m' (i + 1))) ∨ (¬ wantR ops (envAt es ρ' i) o ∧ valAt es i = Go.undef ∧ memAt es m' (i + 1) = memAt es m' i))
 | [], _, _, _, _, _, _, i, o, h => by simp at h
 | o :: l, ρ, m, es, ρ', m', ⟨v, m1, es', he, hs, ht⟩, 0, o', h => by
  simp only [List.getElem?_cons_zero, Option.some.injEq] at h
  subst h he
  have hz := ht.zero
  refine ⟨hz.1, ?_⟩
  rw [show memAt (⟨ρ, m, v⟩ :: es') m' (0 + 1) = m1 from hz.2]
  exact hs
 | o :: l, ρ, m, es, ρ', m', ⟨v, m1, es', he, hs, ht⟩, i + 1, o', h => by
  subst he
  exact ht.at i o' (by simpa using h)
theorem AStep.still {P : Program} {op : Op} {ρ : Operand → Value} {m m' : Mem} {v : Value} (h : AStep P op ρ m v m') (he : isEff op = false) : m' = m ∧ (aPure P ρ op = some v ∨ aRead P m ρ op = some v) := by
 cases h with
 | pure h hm => exact ⟨hm, .inl h⟩
 | read h hm => exact ⟨hm, .inr h⟩
 | eff h => rw [aEff_none he] at h; cases h
 | call c f g a cap hc hf hv hk h => subst hc; obtain ⟨ce, as, ts⟩ := c; simp only at hf; subst hf; simp [isEff] at he
 | yield c f l hc hf hv h => subst hc; obtain ⟨ce, as, ts⟩ := c; simp only at hf; subst hf; simp [isEff] at he
theorem obl_at {P : Program} {ops : Array Oper} {log : List Ent} {m' : Mem} : ∀ {hs : List (Nat × Nat)}, obl P ops log m' hs → ∀ i k, (i, k) ∈ hs → ∀ e o, log[i]? = some e → ops.toList[i]? = some o → wantR ops e.ρ o →
  aRead P (memAt log m' k) (evR e.ρ) o.op = some e.v ∨ aPure P (evR e.ρ) o.op = some e.v
 | [], _, i, k, h => by simp at h
 | p :: hs, ⟨h1, h2⟩, i, k, h => by
  intro e o he ho hw
  rcases List.mem_cons.1 h with h | h
  ·subst h
   rw [he, ho] at h1
   exact h1 hw
  ·exact obl_at h2 i k h e o he ho hw
theorem ownStage_spec (ops : Array Oper) : ∀ i, ownStage ops i ≤ i ∧ ∀ j, ownStage ops i ≤ j → j < i → effAt ops j = false
 | 0 => ⟨Nat.le_refl _, fun j _ h => by omega⟩
 | i + 1 => by
  obtain ⟨h1, h2⟩ := ownStage_spec ops i
  unfold ownStage
  split
  ·exact ⟨Nat.le_refl _, fun j h h' => by omega⟩
  ·rename_i he
   refine ⟨by omega, fun j h h' => ?_⟩
   by_cases hj : j = i
   ·subst hj; simpa using he
   ·exact h2 j h (by omega)
theorem wpDraw_sound {P : Program} {n id : Nat} {ops : Array Oper} {K : Env → Mem → Prop} {ρ : Env} {m : Mem} (hm : P.follows .mixedOrders = true) (hok : ops.toList.all (okO P.globals.size n) = true)
  (hd : okDrawS ops = true) (h : wpDraw P ops (hints ops) K ρ m) : ∃ ρ' m', ACd P (.region id ops true) (fr n ρ) m .normal (fr n ρ') m' ∧ K ρ' m' := by
 obtain ⟨es, ρ', m', ht, hob, hK⟩ := wpLog_tr _ _ _ _ (wpDraw_log h)
 rw [List.nil_append] at hob
 refine ⟨ρ', m', ?_, hK⟩
 simp only [okDrawS, Bool.and_eq_true] at hd
 obtain ⟨⟨hd1, hd2⟩, hd3⟩ := hd
 have hlen : es.length = ops.size := by rw [ht.len]; simp
 have hT : ∀ i, i ≤ ops.size → Tof ops (valAt es) (fr n ρ) (fun _ => true) i = fr n (envAt es ρ' i) := by
  intro i
  induction i with
  | zero => intro _; rw [ht.zero.1]; rfl
  | succ i ih =>
   intro hi
   have hlt : i < ops.size := by omega
   have hoi : ops.toList[i]? = some ops[i] := by rw [Array.getElem?_toList]; exact Array.getElem?_eq_getElem hlt
   have := (ht.at i _ hoi).1
   simp only [Tof, if_true]
   rw [ih (by omega), put_fr, this]
   simp [dstOf, Array.getElem?_eq_getElem hlt]
 have hms : ∀ d i, (∀ j, i ≤ j → j < i + d → effAt ops j = false) → i + d ≤ ops.size → memAt es m' (i + d) = memAt es m' i := by
  intro d i
  induction d with
  | zero => intros; rfl
  | succ d ih =>
   intro he hle
   have hlt : i + d < ops.size := by omega
   have hoi : ops.toList[i + d]? = some ops[i + d] := by rw [Array.getElem?_toList]; exact Array.getElem?_eq_getElem hlt
   have hef := he (i + d) (by omega) (by omega)
   unfold effAt at hef; rw [hoi] at hef
   have hst := (ht.at _ _ hoi).2
   have : memAt es m' (i + d + 1) = memAt es m' (i + d) := by
    rcases hst with ⟨_, hs⟩ | ⟨_, _, hs⟩
    ·exact (hs.still hef).1
    ·exact hs
   rw [show i + (d + 1) = i + d + 1 by omega, this]
   exact ih (fun j h1 h2 => he j h1 (by omega)) (by omega)

 let E : Nat → Bool := fun i => effAt ops i && (match ops.toList[i]? with
  | some o => @decide (wantR ops (envAt es ρ' i) o) (Classical.propDecidable _)
  | none => false)
 have hE1 : ∀ i, E i = true → effAt ops i = true := fun i h => by
  simp only [E, Bool.and_eq_true] at h; exact h.1
 have hE2 : ∀ i o, ops.toList[i]? = some o → effAt ops i = true → wantR ops (envAt es ρ' i) o → E i = true := fun i o ho he hw => by
  simp only [E, he, ho, Bool.true_and]; exact @decide_eq_true _ (Classical.propDecidable _) hw
 have hE3 : ∀ i o, ops.toList[i]? = some o → ¬ wantR ops (envAt es ρ' i) o → E i = false := fun i o ho hw => by
  simp only [E, ho]; rw [Bool.and_eq_false_iff]; exact .inr (@decide_eq_false _ (Classical.propDecidable _) hw)
 have hE4 : ∀ i, effAt ops i = false → E i = false := fun i h => by simp only [E, h, Bool.false_and]
 have hE5 : ∀ i, effNow ops i = true → E i = true := fun i h => by
  unfold effNow at h
  cases ho : ops.toList[i]? with
  | none => rw [ho] at h; cases h
  | some o =>
   rw [ho] at h
   simp only [Bool.and_eq_true] at h
   refine hE2 i o ho (by unfold effAt; rw [ho]; exact h.1) ?_
   unfold wantR
   cases hg : o.guard with
   | none => trivial
   | some _ => rw [hg] at h; cases h.2
 have canon : Canon P ops (drawW ops) (fr n ρ) (valAt es) (memAt es m') E := by
  refine ⟨hd1, hd2, fun i j hij hj hi hj' => ?_, fun i o ho => ?_⟩
  ·replace hi := hE1 i hi
   replace hj' := hE1 j hj'
   have := List.all_eq_true.1 hd3 j (List.mem_range.2 hj)
   rw [hj'] at this
   simp only [Bool.not_true, Bool.false_or] at this
   have := List.all_eq_true.1 this i (List.mem_range.2 hij)
   rw [hi] at this
   simpa using this
  ·have hlt : i < ops.size := (Array.getElem?_eq_some_iff.1 ho).1
   have hol : ops.toList[i]? = some o := by rw [Array.getElem?_toList]; exact ho
   have hoo : okO P.globals.size n o = true := List.all_eq_true.1 hok o (by rw [← Array.mem_def]; exact Array.mem_of_getElem? ho)
   rw [hT i (by omega)]
   refine ⟨fun _ => okO_ops hoo, ?_⟩
   have hwi := want_of (o := o) (ρ := envAt es ρ' i) hok
   have hcg : ∀ {x : Operand}, x ∈ o.op.operands → evR (envAt es ρ' i) x = ev (fr n (envAt es ρ' i)) x := fun hx => (okO_ev hoo _ hx).symm
   rcases (ht.at i o hol).2 with ⟨hw, hs⟩ | ⟨hw, hv, hmm⟩
   ·have haw := hwi.2 hw
    cases hef : isEff o.op with
    | true =>
     right; left
     exact ⟨haw, hE2 i o hol (by unfold effAt; rw [hol]; exact hef) hw, hs.congr fun x hx => hcg hx⟩
    | false =>
     right; right
     obtain ⟨h1, h2⟩ := hs.still hef
     refine ⟨haw, hE4 i (by unfold effAt; rw [hol]; exact hef), h1, ?_⟩
     rcases h2 with h2 | h2
     ·left; rw [← aPure_congr fun x hx => hcg hx]; exact h2
     ·by_cases hp : aPure P (evR (envAt es ρ' i)) o.op = some (valAt es i)
      ·left; rw [← aPure_congr fun x hx => hcg hx]; exact hp
      ·right
       intro k hk
       rw [← aRead_congr fun x hx => hcg hx]
       obtain ⟨hk1, hk2, hk3, hk4⟩ := hk
       by_cases hown : k = ownStage ops i
       ·subst hown
        obtain ⟨o1, o2⟩ := ownStage_spec ops i
        have := hms (i - ownStage ops i) (ownStage ops i) (fun j a b => o2 j a (by omega)) (by omega)
        rw [show ownStage ops i + (i - ownStage ops i) = i by omega] at this
        rw [← this]; exact h2
       ·have hrd : readAt ops i = true := by
         unfold readAt; rw [hol]
         cases hr : isRead o.op with
         | true => exact hr
         | false => rw [aRead_none hr] at h2; cases h2
        have hmem : (i, k) ∈ hints ops := by
         unfold hints
         rw [List.mem_flatMap]
         refine ⟨i, List.mem_filter.2 ⟨List.mem_range.2 hlt, hrd⟩, List.mem_map.2 ⟨k, List.mem_filter.2 ⟨List.mem_range.2 (by omega), ?_⟩, rfl⟩⟩
         simp only [Bool.and_eq_true, bne_iff_ne, ne_eq]
         refine ⟨?_, hown⟩
         unfold stagesB
         simp only [Bool.and_eq_true, Bool.or_eq_true, beq_iff_eq, List.all_eq_true, List.mem_range, Bool.not_eq_true', decide_eq_true_eq]
         refine ⟨hk2.imp (fun h => h) (hE1 _), fun j hj => ?_⟩
         cases hej0 : effNow ops j with
         | false => exact .inl rfl
         | true =>
          have hej := hE5 j hej0
          right
          constructor
          ·cases hb : ((drawW ops).getD i 0).testBit j with
           | false => exact .inl rfl
           | true => exact .inr (hk3 j hj hej hb)
          ·cases hb : ((drawW ops).getD j 0).testBit i with
           | false => exact .inl rfl
           | true => exact .inr (hk4 j hj hej hb)
        have hei : es[i]? = some es[i] := List.getElem?_eq_getElem (by omega)
        have e1 : envAt es ρ' i = es[i].ρ := by unfold envAt; rw [hei]
        have e2 : valAt es i = es[i].v := by unfold valAt; rw [hei]
        have := obl_at hob i k hmem _ o hei hol (by rw [← e1]; exact hw)
        rw [← e1, ← e2] at this
        rcases this with h | h
        ·exact h
        ·exact absurd h hp
   ·left
    exact ⟨by rw [← Bool.not_eq_true]; exact fun e => hw (hwi.1 e), hv, hE3 i o hol hw, hmm⟩
 have := ACd.canon (id := id) hm canon
 rw [ht.zero.2, hT _ (Nat.le_refl _)] at this
 have e1 : envAt es ρ' ops.size = ρ' := by unfold envAt; rw [List.getElem?_eq_none (by omega)]
 have e2 : memAt es m' ops.size = m' := by unfold memAt; rw [List.getElem?_eq_none (by omega)]
 rw [e1, e2] at this
 exact this
end Go.AM

/-! C17 -/
namespace Go.AM
theorem wpDrawG_sound {P : Program} {n id : Nat} {ops opsR : Array Oper} {π : Nat → Nat} {K : Env → Mem → Prop} {ρ : Env} {m : Mem} (hm : P.follows .mixedOrders = true) (hMv : Moved ops opsR π)
  (hO : ∀ q, ∃ l, Ord ops (drawW ops) (fun _ => false) l ∧ l.map π = Region.schedule (P.follows .mixedOrders) opsR q) (hok : ops.toList.all (okO P.globals.size n) = true)
  (hd : okDrawF ops = true) (h : wpDraw P ops (flH :: hintsF ops) K ρ m) : ∃ ρ' m', ACd P (.region id opsR true) (fr n ρ) m .normal (fr n ρ') m' ∧ K ρ' m' := by
 obtain ⟨es, ρ', m', ht, hob, hK⟩ := wpLog_tr _ _ _ _ (wpDraw_log h)
 rw [List.nil_append] at hob
 refine ⟨ρ', m', ?_, hK⟩
 simp only [okDrawF, Bool.and_eq_true] at hd
 obtain ⟨⟨⟨hd1, hd2⟩, hd3⟩, hd4⟩ := hd
 have hlen : es.length = ops.size := by rw [ht.len]; simp
 have hT : ∀ i, i ≤ ops.size → Tof ops (valAt es) (fr n ρ) (fun _ => true) i = fr n (envAt es ρ' i) := by
  intro i
  induction i with
  | zero => intro _; rw [ht.zero.1]; rfl
  | succ i ih =>
   intro hi
   have hlt : i < ops.size := by omega
   have hoi : ops.toList[i]? = some ops[i] := by rw [Array.getElem?_toList]; exact Array.getElem?_eq_getElem hlt
   have := (ht.at i _ hoi).1
   simp only [Tof, if_true]
   rw [ih (by omega), put_fr, this]
   simp [dstOf, Array.getElem?_eq_getElem hlt]
 have hms : ∀ d i, (∀ j, i ≤ j → j < i + d → effAt ops j = false) → i + d ≤ ops.size → memAt es m' (i + d) = memAt es m' i := by
  intro d i
  induction d with
  | zero => intros; rfl
  | succ d ih =>
   intro he hle
   have hlt : i + d < ops.size := by omega
   have hoi : ops.toList[i + d]? = some ops[i + d] := by rw [Array.getElem?_toList]; exact Array.getElem?_eq_getElem hlt
   have hef := he (i + d) (by omega) (by omega)
   unfold effAt at hef; rw [hoi] at hef
   have hst := (ht.at _ _ hoi).2
   have : memAt es m' (i + d + 1) = memAt es m' (i + d) := by
    rcases hst with ⟨_, hs⟩ | ⟨_, _, hs⟩
    ·exact (hs.still hef).1
    ·exact hs
   rw [show i + (d + 1) = i + d + 1 by omega, this]
   exact ih (fun j h1 h2 => he j h1 (by omega)) (by omega)

 let E : Nat → Bool := fun i => chainAt ops (drawW ops) i && (match ops.toList[i]? with
  | some o => @decide (wantR ops (envAt es ρ' i) o) (Classical.propDecidable _)
  | none => false)
 have hE1 : ∀ i, E i = true → chainAt ops (drawW ops) i = true := fun i h => by
  simp only [E, Bool.and_eq_true] at h; exact h.1
 have hE2 : ∀ i o, ops.toList[i]? = some o → chainAt ops (drawW ops) i = true → wantR ops (envAt es ρ' i) o → E i = true := fun i o ho he hw => by
  simp only [E, he, ho, Bool.true_and]; exact @decide_eq_true _ (Classical.propDecidable _) hw
 have hE3 : ∀ i o, ops.toList[i]? = some o → ¬ wantR ops (envAt es ρ' i) o → E i = false := fun i o ho hw => by
  simp only [E, ho]; rw [Bool.and_eq_false_iff]; exact .inr (@decide_eq_false _ (Classical.propDecidable _) hw)
 have hE4 : ∀ i, chainAt ops (drawW ops) i = false → E i = false := fun i h => by simp only [E, h, Bool.false_and]
 have hE5 : ∀ i, chainNow ops (drawW ops) i = true → E i = true := fun i h => by
  unfold chainNow effNow at h
  cases ho : ops.toList[i]? with
  | none => rw [ho] at h; simp at h
  | some o =>
   rw [ho] at h
   simp only [Bool.and_eq_true, Bool.not_eq_true'] at h
   refine hE2 i o ho (by unfold chainAt effAt; rw [ho]; simp only [h.1.1, h.2, Bool.not_false, Bool.and_self]) ?_
   unfold wantR
   cases hg : o.guard with
   | none => trivial
   | some _ => rw [hg] at h; cases h.1.2
 let F : Nat → Bool := fun i => floatAt ops (drawW ops) i && (match ops.toList[i]? with
  | some o => @decide (wantR ops (envAt es ρ' i) o) (Classical.propDecidable _)
  | none => false)
 have hF0 : ∀ i, F i = true → floatAt ops (drawW ops) i = true := fun i h => by
  simp only [F, Bool.and_eq_true] at h; exact h.1
 have hF2 : ∀ i o, ops.toList[i]? = some o → floatAt ops (drawW ops) i = true → wantR ops (envAt es ρ' i) o → F i = true := fun i o ho he hw => by
  simp only [F, he, ho, Bool.true_and]; exact @decide_eq_true _ (Classical.propDecidable _) hw
 have hF3 : ∀ i o, ops.toList[i]? = some o → ¬ wantR ops (envAt es ρ' i) o → F i = false := fun i o ho hw => by
  simp only [F, ho]; rw [Bool.and_eq_false_iff]; exact .inr (@decide_eq_false _ (Classical.propDecidable _) hw)
 have hF4 : ∀ i, floatAt ops (drawW ops) i = false → F i = false := fun i h => by simp only [F, h, Bool.false_and]
 have hF1 : ∀ i o, ops.toList[i]? = some o → floatAt ops (drawW ops) i = true → isBuild o.op = true ∧ isEff o.op = true := fun i o ho h => by
  unfold floatAt at h; rw [ho] at h
  simp only [Bool.and_eq_true] at h
  refine ⟨h.1, ?_⟩
  have := h.1
  cases hop : o.op <;> rw [hop] at this <;> first | rfl | cases this
 have hok1 : ∀ i j, i < j → j < ops.size → okFl1 ops (drawW ops) i j = true := fun i j hij hj =>
  List.all_eq_true.1 (List.all_eq_true.1 hd3 j (List.mem_range.2 hj)) i (List.mem_range.2 hij)
 have canon : CanonF P ops (drawW ops) (fr n ρ) (valAt es) (memAt es m') E F := by
  refine ⟨hd1, hd2, fun i j hij hj hi hj' => ?_, fun i j hij hj hi hj' => ?_, fun i j o s hij ho hi hds hs hwn hj' => ?_, fun i j o g q ho hg hi s hgs hds => ?_, fun i o ho => ?_⟩
  ·have := hok1 i j hij hj
   unfold okFl1 at this
   rw [hE1 i hi, hE1 j hj'] at this
   simp only [Bool.not_true, Bool.false_or, Bool.and_eq_true] at this
   exact this.1.1
  ·have := hok1 i j hij hj
   unfold okFl1 at this
   rw [hF0 i hi, hE1 j hj'] at this
   simp only [Bool.not_true, Bool.false_or, Bool.and_eq_true] at this
   exact this.1.2
  ·have hlt : j < ops.size := (Array.getElem?_eq_some_iff.1 ho).1
   have hol : ops.toList[j]? = some o := by rw [Array.getElem?_toList]; exact ho
   have := hok1 i j hij hlt
   unfold okFl1 at this
   have hcn : chainAt ops (drawW ops) j = false := by
    cases hc : chainAt ops (drawW ops) j with
    | false => rfl
    | true =>
     rw [hT j (by omega)] at hwn
     rw [hE2 j o hol hc ((want_of (o := o) (ρ := envAt es ρ' j) hok).1 hwn)] at hj'; cases hj'
   have hus : usesAt ops i j = true := by
    unfold usesAt
    have : (ops.toList[i]?).bind (·.dst) = some s := by rw [Array.getElem?_toList]; exact hds
    rw [this, hol]
    simpa using hs
   rw [hF0 i hi, hus, hcn] at this
   simp only [Bool.not_false, Bool.and_self, Bool.not_true, Bool.false_or, Bool.true_or, Bool.true_and, Bool.and_eq_true, List.any_eq_true, List.mem_range, decide_eq_true_eq] at this
   obtain ⟨e, q1, ⟨q2, q3⟩, q4⟩ := this
   exact ⟨e, q2, q1, hE5 e q3, q4⟩
  ·have hlt : j < ops.size := (Array.getElem?_eq_some_iff.1 ho).1
   have hil : i < ops.size := by
    unfold dstOf at hds
    cases e : ops[i]? with
    | none => rw [e] at hds; cases hds
    | some o' => exact (Array.getElem?_eq_some_iff.1 e).1
   have hol : ops.toList[j]? = some o := by rw [Array.getElem?_toList]; exact ho
   have := List.all_eq_true.1 (List.all_eq_true.1 hd4 j (List.mem_range.2 hlt)) i (List.mem_range.2 hil)
   have hga : guardsAt ops i j = true := by
    unfold guardsAt
    have h1 : (ops.toList[i]?).bind (·.dst) = some s := by rw [Array.getElem?_toList]; exact hds
    have h2 : (ops.toList[g]?).bind (·.dst) = some s := by rw [Array.getElem?_toList]; exact hgs
    rw [h1, hol]
    simp only [hg, h2, beq_self_eq_true]
   rw [hF0 i hi, hga] at this
   cases this
  ·have hlt : i < ops.size := (Array.getElem?_eq_some_iff.1 ho).1
   have hol : ops.toList[i]? = some o := by rw [Array.getElem?_toList]; exact ho
   have hoo : okO P.globals.size n o = true := List.all_eq_true.1 hok o (by rw [← Array.mem_def]; exact Array.mem_of_getElem? ho)
   rw [hT i (by omega)]
   refine ⟨fun _ => okO_ops hoo, ?_⟩
   have hwi := want_of (o := o) (ρ := envAt es ρ' i) hok
   have hcg : ∀ {x : Operand}, x ∈ o.op.operands → evR (envAt es ρ' i) x = ev (fr n (envAt es ρ' i)) x := fun hx => (okO_ev hoo _ hx).symm
   rcases (ht.at i o hol).2 with ⟨hw, hs⟩ | ⟨hw, hv, hmm⟩
   ·have haw := hwi.2 hw
    cases hef : isEff o.op with
    | true =>
     have hea : effAt ops i = true := by unfold effAt; rw [hol]; exact hef
     cases hf : floatAt ops (drawW ops) i with
     | false =>
      right; left
      exact ⟨haw, hE2 i o hol (by unfold chainAt; rw [hea, hf]; rfl) hw, hF4 i hf, hs.congr fun x hx => hcg hx⟩
     | true =>
      right; right; right
      refine ⟨haw, hE4 i (by unfold chainAt; rw [hf, Bool.not_true, Bool.and_false]), hF2 i o hol hf hw, ?_⟩
      obtain ⟨hb, _⟩ := hF1 i o hol hf
      have hs' := hs.congr fun x hx => hcg hx
      obtain ⟨dst, op, ty, pos, after, guard⟩ := o
      simp only at hb hs'
      cases op with
      | buildSlice t len ps =>
       refine .inl ⟨t, len, ps, rfl, ?_⟩
       cases hs' with
       | pure h hm => cases h
       | read h hm => cases h
       | eff h => exact h
       | call c f g a cap hc hf hv hk h => cases hc
       | yield c f l hc hf hv h => cases hc
      | alloc e =>
       refine .inr ⟨e, rfl, ?_⟩
       cases hs' with
       | pure h hm => cases h
       | read h hm => cases h
       | eff h => exact h
       | call c f g a cap hc hf hv hk h => cases hc
       | yield c f l hc hf hv h => cases hc
      | _ => cases hb
    | false =>
     right; right; left
     have hea : effAt ops i = false := by unfold effAt; rw [hol]; exact hef
     have hf : floatAt ops (drawW ops) i = false := by
      cases hf : floatAt ops (drawW ops) i with
      | false => rfl
      | true => have := (hF1 i o hol hf).2; rw [hef] at this; cases this
     obtain ⟨h1, h2⟩ := hs.still hef
     refine ⟨haw, hE4 i (by unfold chainAt; rw [hea, Bool.false_and]), hF4 i hf, h1, ?_⟩
     rcases h2 with h2 | h2
     ·left; rw [← aPure_congr fun x hx => hcg hx]; exact h2
     ·by_cases hp : aPure P (evR (envAt es ρ' i)) o.op = some (valAt es i)
      ·left; rw [← aPure_congr fun x hx => hcg hx]; exact hp
      ·right
       intro k hk
       rw [← aRead_congr fun x hx => hcg hx]
       obtain ⟨hk1, hk2, hk3, hk4⟩ := hk
       by_cases hown : k = ownStage ops i
       ·subst hown
        obtain ⟨o1, o2⟩ := ownStage_spec ops i
        have := hms (i - ownStage ops i) (ownStage ops i) (fun j a b => o2 j a (by omega)) (by omega)
        rw [show ownStage ops i + (i - ownStage ops i) = i by omega] at this
        rw [← this]; exact h2
       ·have hrd : readAt ops i = true := by
         unfold readAt; rw [hol]
         cases hr : isRead o.op with
         | true => exact hr
         | false => rw [aRead_none hr] at h2; cases h2
        have hmem : (i, k) ∈ flH :: hintsF ops := by
         refine List.mem_cons_of_mem _ ?_
         unfold hintsF
         rw [List.mem_flatMap]
         refine ⟨i, List.mem_filter.2 ⟨List.mem_range.2 hlt, hrd⟩, List.mem_map.2 ⟨k, List.mem_filter.2 ⟨List.mem_range.2 (by omega), ?_⟩, rfl⟩⟩
         simp only [Bool.and_eq_true, bne_iff_ne, ne_eq]
         refine ⟨?_, hown⟩
         unfold stagesF
         simp only [Bool.and_eq_true, Bool.or_eq_true, beq_iff_eq, List.all_eq_true, List.mem_range, Bool.not_eq_true', decide_eq_true_eq]
         refine ⟨hk2.imp (fun h => h) (hE1 _), fun j hj => ?_⟩
         cases hej0 : chainNow ops (drawW ops) j with
         | false => exact .inl rfl
         | true =>
          have hej := hE5 j hej0
          right
          constructor
          ·cases hb : ((drawW ops).getD i 0).testBit j with
           | false => exact .inl rfl
           | true => exact .inr (hk3 j hj hej hb)
          ·cases hb : ((drawW ops).getD j 0).testBit i with
           | false => exact .inl rfl
           | true => exact .inr (hk4 j hj hej hb)
        have hei : es[i]? = some es[i] := List.getElem?_eq_getElem (by omega)
        have e1 : envAt es ρ' i = es[i].ρ := by unfold envAt; rw [hei]
        have e2 : valAt es i = es[i].v := by unfold valAt; rw [hei]
        have := obl_at hob i k hmem _ o hei hol (by rw [← e1]; exact hw)
        rw [← e1, ← e2] at this
        rcases this with h | h
        ·exact h
        ·exact absurd h hp
   ·left
    exact ⟨by rw [← Bool.not_eq_true]; exact fun e => hw (hwi.1 e), hv, hE3 i o hol hw, hF3 i o hol hw, hmm⟩
 have := ACd.canonFM (id := id) hm hMv hO canon
 rw [ht.zero.2, hT _ (Nat.le_refl _)] at this
 have e1 : envAt es ρ' ops.size = ρ' := by unfold envAt; rw [List.getElem?_eq_none (by omega)]
 have e2 : memAt es m' ops.size = m' := by unfold memAt; rw [List.getElem?_eq_none (by omega)]
 rw [e1, e2] at this
 exact this
theorem wpDrawF_sound {P : Program} {n id : Nat} {ops : Array Oper} {K : Env → Mem → Prop} {ρ : Env} {m : Mem} (hm : P.follows .mixedOrders = true) (hok : ops.toList.all (okO P.globals.size n) = true)
  (hd : okDrawF ops = true) (h : wpDraw P ops (flH :: hintsF ops) K ρ m) : ∃ ρ' m', ACd P (.region id ops true) (fr n ρ) m .normal (fr n ρ') m' ∧ K ρ' m' := by
 have hd1 := hd
 simp only [okDrawF, Bool.and_eq_true] at hd1
 exact wpDrawG_sound hm (.refl ops) (fun q => ⟨_, sched_ord hm hd1.1.1.1 q, List.map_id _⟩) hok hd h
/-! ### Another order of the text -/
theorem Ord.move {opsR ops' : Array Oper} {WR W' : Array Nat} {π inv : Nat → Nat} (hs : ops'.size = opsR.size) (h1 : ∀ i, i < opsR.size → inv i < opsR.size ∧ π (inv i) = i) (h2 : ∀ p, p < opsR.size → π p < opsR.size ∧ inv (π p) = p)
  (h3 : ∀ i k, i < opsR.size → k < opsR.size → (W'.getD (inv i) 0).testBit (inv k) = (WR.getD i 0).testBit k) (h4 : ∀ p, p < opsR.size → W'.getD p 0 < 2 ^ opsR.size) :
  ∀ {D : Nat → Bool} {l : List Nat}, Ord opsR WR D l → Ord ops' W' (fun p => decide (p < opsR.size) && D (π p)) (l.map inv) ∧ (l.map inv).map π = l := by
 intro D l h
 induction h with
 | @nil D h => exact ⟨.nil fun j hj => by rw [hs] at hj; rw [decide_eq_true hj, Bool.true_and]; exact h _ (h2 j hj).1, rfl⟩
 | @cons D i l hi hD hW hN h ih =>
  obtain ⟨a1, a2⟩ := h1 i hi
  refine ⟨.cons (by rw [hs]; exact a1) ?_ (fun k hk => ?_) (fun j hj => ?_) ?_, ?_⟩
  ·rw [decide_eq_true a1, Bool.true_and, a2]; exact hD
  ·have hkl : k < opsR.size := by
    refine Nat.lt_of_not_le fun hle => ?_
    rw [Nat.testBit_lt_two_pow (Nat.lt_of_lt_of_le (h4 _ a1) (Nat.pow_le_pow_right (by omega) hle))] at hk; cases hk
   obtain ⟨b1, b2⟩ := h2 k hkl
   rw [decide_eq_true hkl, Bool.true_and]
   refine hW _ ?_
   rw [← h3 i (π k) hi b1, b2]; exact hk
  ·simp only [Bool.and_eq_true, decide_eq_true_eq] at hj
   obtain ⟨b1, b2⟩ := h2 j hj.1
   have := hN _ hj.2
   rw [← h3 (π j) i b1 hi, b2] at this
   exact this
  ·have := ih.1
   have e : (fun p => decide (p < opsR.size) && if π p = i then true else D (π p)) = fun p => if p = inv i then true else decide (p < opsR.size) && D (π p) := by
    funext p
    by_cases hp : p < opsR.size
    ·by_cases he : π p = i
     ·rw [if_pos he, if_pos (by rw [← he, (h2 p hp).2]), decide_eq_true hp]; rfl
     ·rw [if_neg he, if_neg (fun e => he (by rw [e]; exact a2))]
    ·have hne : p ≠ inv i := fun e => hp (by rw [e]; exact a1)
     simp only [decide_eq_false hp, if_neg hne, Bool.false_and]
   rw [e] at this
   exact this
  ·rw [List.map_cons, List.map_cons, ih.2, a2]
theorem renO_ok {G n : Nat} {π : List Nat} {o : Oper} : okO G n (renO π o) = okO G n o := rfl
theorem wpDrawM_sound {P : Program} {n id : Nat} {ops : Array Oper} {π : List Nat} {K : Env → Mem → Prop} {ρ : Env} {m : Mem} (hm : P.follows .mixedOrders = true) (hok : ops.toList.all (okO P.globals.size n) = true)
  (hd : okDrawF (permOps ops π) = true) (hp : okPerm ops π = true) (h : wpDraw P (permOps ops π) (flH :: hintsF (permOps ops π)) K ρ m) : ∃ ρ' m', ACd P (.region id ops true) (fr n ρ) m .normal (fr n ρ') m' ∧ K ρ' m' := by
 simp only [okPerm, Bool.and_eq_true, List.all_eq_true, List.mem_range, decide_eq_true_eq, beq_iff_eq] at hp
 obtain ⟨⟨⟨⟨⟨⟨p1, p2⟩, p3⟩, p4⟩, p5⟩, p6⟩, p7⟩ := hp
 have hsz : (permOps ops π).size = ops.size := by simp [permOps, p2]
 have hat : ∀ p, p < ops.size → (permOps ops π)[p]? = some (renO π (ops.toList.getD (π.getD p 0) default)) := by
  intro p hp
  simp only [permOps, List.getElem?_toArray, List.getElem?_map]
  rw [List.getD_eq_getElem?_getD (l := π), List.getElem?_eq_getElem (by omega)]
  rfl
 have hget : ∀ i, i < ops.size → ∃ o, ops[i]? = some o ∧ ops.toList.getD i default = o := fun i hi => ⟨ops[i], Array.getElem?_eq_getElem hi, by
  rw [List.getD_eq_getElem?_getD, Array.getElem?_toList, Array.getElem?_eq_getElem hi]; rfl⟩
 refine wpDrawG_sound (ops := permOps ops π) (opsR := ops) (π := fun p => π.getD p 0) hm (fun p hp => ?_) (fun q => ?_) ?_ hd h
 ·rw [hsz] at hp
  obtain ⟨o, ho, hod⟩ := hget _ (p4 p hp).1
  have hpo : (permOps ops π)[p]'(by rw [hsz]; exact hp) = renO π o := by
   have := hat p hp
   rw [hod, Array.getElem?_eq_getElem (by rw [hsz]; exact hp)] at this
   exact Option.some.inj this
  refine ⟨o, ho, by rw [hpo]; rfl, by rw [hpo]; rfl, fun ts => ?_⟩
  rw [hpo]
  unfold Region.wanted
  show _ = match o.guard.map (fun g => (π.idxOf g.1, g.2)) with | none => true | some (j, want) => yielded (permOps ops π) ts j == some want
  cases hg : o.guard with
  | none => rfl
  | some g =>
   obtain ⟨g, want⟩ := g
   have hgl : g < ops.size := by
    have := p7 o (by rw [← Array.mem_def]; exact Array.mem_of_getElem? ho)
    rw [hg] at this
    simpa using this
   simp only [Option.map_some]
   have hy : yielded (permOps ops π) ts (π.idxOf g) = yielded ops ts g := by
    unfold yielded
    obtain ⟨og, hog, hogd⟩ := hget g hgl
    rw [hat _ (p3 g hgl).1, (p3 g hgl).2, hogd, hog]
    rfl
   rw [hy]
 ·obtain ⟨a, b⟩ := Ord.move (ops' := permOps ops π) (W' := drawW (permOps ops π)) (π := fun p => π.getD p 0) (inv := fun i => π.idxOf i) hsz p3 p4 (fun i k hi hk => p5 i hi k hk) p6 (sched_ord hm p1 q)
  refine ⟨_, ?_, b⟩
  have e : (fun p => decide (p < ops.size) && (fun _ : Nat => false) (π.getD p 0)) = fun _ => false := by funext p; simp
  rw [e] at a
  exact a
 ·rw [List.all_eq_true] at hok ⊢
  intro o ho
  simp only [permOps, List.mem_map] at ho
  obtain ⟨i, hi, rfl⟩ := ho
  rw [renO_ok]
  obtain ⟨p, hp, rfl⟩ := List.getElem_of_mem hi
  have hpl := (p4 p (by omega)).1
  rw [List.getD_eq_getElem?_getD, List.getElem?_eq_getElem hp] at hpl
  obtain ⟨o, ho, hod⟩ := hget _ hpl
  simp only [Option.getD_some] at hod
  rw [hod]
  exact hok o (by rw [← Array.mem_def]; exact Array.mem_of_getElem? ho)
end Go.AM

/-! C3 -/
namespace Go.AM
theorem seqK_mono {N N' : Env → Mem → Prop} {Q Q' : AExit → Env → Mem → Prop} (hN : ∀ ρ m, N ρ m → N' ρ m) (hQ : ∀ e ρ m, Q e ρ m → Q' e ρ m) : ∀ e ρ m, seqK N Q e ρ m → seqK N' Q' e ρ m := by
 intro e ρ m h
 cases e with
 | normal => exact hN _ _ h
 | exit i => exact hQ _ _ _ h
 | ret => exact hQ _ _ _ h
theorem wpC_mono {P : Program} {n : Nat} {H : Nat → List (Nat × Nat)} : ∀ (c : Code) {Q Q' : AExit → Env → Mem → Prop} (h : ∀ e ρ m, Q e ρ m → Q' e ρ m) (ρ : Env) (m : Mem), wpC P n H c Q ρ m → wpC P n H c Q' ρ m
 | .skip, _, _, h, ρ, m, hw => h _ _ _ hw
 | .label _, _, _, h, ρ, m, hw => h _ _ _ hw
 | .exit _, _, _, h, ρ, m, hw => h _ _ _ hw
 | .ret, _, _, h, ρ, m, hw => h _ _ _ hw
 | .cond c x y, _, _, h, ρ, m, ⟨q, h1, h2, h3⟩ => ⟨q, h1, fun e => wpC_mono x h _ _ (h2 e), fun e => wpC_mono y h _ _ (h3 e)⟩
 | .seq x y, _, _, h, ρ, m, hw => wpC_mono x (seqK_mono (fun ρ m => wpC_mono y h ρ m) h) _ _ hw
 | .block id x, _, _, h, ρ, m, hw => wpC_mono x (fun e ρ m hh => h _ _ _ hh) _ _ hw
 | .scope x, _, _, h, ρ, m, hw => wpC_mono x h _ _ hw
 | .loop x, _, _, h, ρ, m, hw => fun X hX => hw X fun ρ m hh => hX ρ m (wpC_mono x (seqK_mono (fun _ _ h => h) h) _ _ hh)
 | .region id ops dr, _, _, h, ρ, m, hw => by
  cases dr with
  | true => exact wpDraw_mono (fun ρ m => h _ ρ m) hw
  | false => exact wpOps_mono (fun ρ m hg => hg.mono fun ρ m => h _ ρ m) _ _ _ hw
 | .rangeFunc f ps a b, _, _, h, ρ, m, ⟨e, m', h1, h2⟩ => ⟨e, m', h1, h _ _ _ h2⟩
 | .refuse _, _, _, _, _, _, hw => hw.elim
 | .goto _, _, _, _, _, _, hw => hw.elim
theorem wpC_sound {P : Program} {n : Nat} {H : Nat → List (Nat × Nat)} (hm : P.follows .mixedOrders = true) : ∀ (c : Code), okC P.globals.size n c = true → okH H c = true → ∀ (Q : AExit → Env → Mem → Prop) (ρ : Env) (m : Mem), wpC P n H c Q ρ m →
  ∃ e ρ' m', ACd P c (fr n ρ) m e (fr n ρ') m' ∧ Q e ρ' m'
 | .skip, _, _, Q, ρ, m, h => ⟨_, ρ, m, .skip, h⟩
 | .label _, _, _, Q, ρ, m, h => ⟨_, ρ, m, .label, h⟩
 | .exit _, _, _, Q, ρ, m, h => ⟨_, ρ, m, .exit, h⟩
 | .ret, _, _, Q, ρ, m, h => ⟨_, ρ, m, .ret, h⟩
 | .cond c x y, hc, hh, Q, ρ, m, ⟨q, h1, h2, h3⟩ => by
  simp only [okC, Bool.and_eq_true] at hc
  simp only [okH, Bool.and_eq_true] at hh
  have hx : okOper P.globals.size c = true := by have := hc.1.1; simp only [okX, Bool.and_eq_true] at this; exact this.1
  cases q with
  | true =>
   obtain ⟨e, ρ', m', a, b⟩ := wpC_sound hm x hc.1.2 hh.1 Q ρ m (h2 rfl)
   exact ⟨e, ρ', m', ACd.cond (q := true) hx (by rw [ev_fr hc.1.1]; exact h1) a, b⟩
  | false =>
   obtain ⟨e, ρ', m', a, b⟩ := wpC_sound hm y hc.2 hh.2 Q ρ m (h3 rfl)
   exact ⟨e, ρ', m', ACd.cond (q := false) hx (by rw [ev_fr hc.1.1]; exact h1) a, b⟩
 | .seq x y, hc, hh, Q, ρ, m, h => by
  simp only [okC, Bool.and_eq_true] at hc
  simp only [okH, Bool.and_eq_true] at hh
  obtain ⟨e, ρ', m', a, b⟩ := wpC_sound hm x hc.1 hh.1 _ ρ m h
  cases e with
  | normal =>
   obtain ⟨e2, ρ2, m2, a2, b2⟩ := wpC_sound hm y hc.2 hh.2 Q ρ' m' b
   exact ⟨e2, ρ2, m2, a.seq a2, b2⟩
  | exit i => exact ⟨_, ρ', m', ACd.seq_out (by simp) a, b⟩
  | ret => exact ⟨_, ρ', m', ACd.seq_out (by simp) a, b⟩
 | .block id x, hc, hh, Q, ρ, m, h => by
  obtain ⟨e, ρ', m', a, b⟩ := wpC_sound hm x hc hh _ ρ m h
  exact ⟨_, ρ', m', a.block, b⟩
 | .scope x, hc, hh, Q, ρ, m, h => by
  obtain ⟨e, ρ', m', a, b⟩ := wpC_sound hm x hc hh _ ρ m h
  exact ⟨_, ρ', m', a.scope, b⟩
 | .loop x, hc, hh, Q, ρ, m, h => by
  refine h (fun ρ m => ∃ e ρ' m', ACd P (.loop x) (fr n ρ) m e (fr n ρ') m' ∧ Q e ρ' m') fun ρ m hw => ?_
  obtain ⟨e, ρ', m', a, b⟩ := wpC_sound hm x hc hh _ ρ m hw
  cases e with
  | normal =>
   obtain ⟨e2, ρ2, m2, a2, b2⟩ := b
   exact ⟨e2, ρ2, m2, a.loop a2, b2⟩
  | exit i => exact ⟨_, ρ', m', ACd.loop_out (by simp) a, b⟩
  | ret => exact ⟨_, ρ', m', ACd.loop_out (by simp) a, b⟩
 | .region id ops dr, hc, hh, Q, ρ, m, h => by
  cases dr with
  | true =>
   simp only [okH, Bool.not_true, Bool.false_or, Bool.or_eq_true, Bool.and_eq_true, beq_iff_eq] at hh
   simp only [wpC, if_true] at h
   rcases hh with (hh | hh) | hh
   ·obtain ⟨h1, ⟨h2, h3⟩, h4⟩ := hh
    rw [h3, opsH, if_pos h4, ← h2] at h
    obtain ⟨ρ', m', a, b⟩ := wpDraw_sound (id := id) hm hc h1 h
    exact ⟨_, ρ', m', a, b⟩
   ·obtain ⟨h1, ⟨h2, h3⟩, h4⟩ := hh
    rw [h3, opsH, if_pos h4, ← h2] at h
    obtain ⟨ρ', m', a, b⟩ := wpDrawF_sound (id := id) hm hc h1 h
    exact ⟨_, ρ', m', a, b⟩
   ·obtain ⟨h1, ⟨h2, h3⟩, h4⟩ := hh
    rw [opsH, if_neg (by simpa using h3), ← h2] at h
    obtain ⟨ρ', m', a, b⟩ := wpDrawM_sound (id := id) hm hc h1 h4 h
    exact ⟨_, ρ', m', a, b⟩
  | false =>
   obtain ⟨ρ', m', a, m2, hg, b⟩ := wpOps_sound hc ops.toList 0 ρ m rfl h
   refine ⟨_, ρ', m2, (ACd.region ?_).ghost hg, b⟩
   rw [List.range_eq_range']
   exact a
 | .rangeFunc f ps a b, hc, hh, Q, ρ, m, ⟨e, m', h1, h2⟩ => ⟨e, ρ, m', h1, h2⟩
 | .refuse _, hc, _, _, _, _, hw => hw.elim
 | .goto _, hc, _, _, _, _, hw => hw.elim
/-- A loop, by a relation that each round keeps and a number that each round makes less. -/
theorem wpLoop_of {W : (AExit → Env → Mem → Prop) → Env → Mem → Prop} (hW : ∀ {Q Q' : AExit → Env → Mem → Prop}, (∀ e ρ m, Q e ρ m → Q' e ρ m) → ∀ ρ m, W Q ρ m → W Q' ρ m)
  {Q : AExit → Env → Mem → Prop} (I : Nat → Env → Mem → Prop) (hI : ∀ k ρ m, I k ρ m → W (seqK (fun ρ' m' => ∃ j, j < k ∧ I j ρ' m') Q) ρ m) :
  ∀ k ρ m, I k ρ m → wpLoop W Q ρ m := by
 intro k
 induction k using Nat.strongRecOn with
 | _ k ih =>
  intro ρ m h X hX
  refine hX ρ m (hW (seqK_mono (fun ρ' m' ⟨j, hj, hi⟩ => ih j hj ρ' m' hi X hX) (fun _ _ _ h => h)) ρ m (hI k ρ m h))
theorem wpC_loop {P : Program} {n : Nat} {H : Nat → List (Nat × Nat)} {x : Code} {Q : AExit → Env → Mem → Prop} (I : Nat → Env → Mem → Prop) {k : Nat} {ρ : Env} {m : Mem} (h0 : I k ρ m)
  (hI : ∀ k ρ m, I k ρ m → wpC P n H x (seqK (fun ρ' m' => ∃ j, j < k ∧ I j ρ' m') Q) ρ m) : wpC P n H (.loop x) Q ρ m :=
 wpLoop_of (fun h ρ m => wpC_mono x h ρ m) I hI k ρ m h0
/-! ### Functions -/
def resR (P : Program) (ρ : Env) (m : Mem) : ResultVar → Option Value
  | .tmp i => some (ρ i)
  | .cell a ty => aLoad P m ty (ρ a)
def resRs (P : Program) (ρ : Env) (m : Mem) : List ResultVar → Option (List Value)
  | [] => some []
  | r :: rs => match resR P ρ m r, resRs P ρ m rs with
    | some v, some vs => some (v :: vs)
    | _, _ => none
def okRes (n : Nat) : ResultVar → Bool
  | .tmp i => decide (i < n)
  | .cell a _ => decide (a < n)
theorem resRs_fr {P : Program} {n : Nat} {ρ : Env} {m : Mem} : ∀ (l : List ResultVar), l.all (okRes n) = true → aResults P m (fr n ρ) l = resRs P ρ m l
 | [], _ => rfl
 | r :: l, h => by
  rw [List.all_cons, Bool.and_eq_true] at h
  have h1 : aResult P m (fr n ρ) r = resR P ρ m r := by
   cases r with
   | tmp i => simp only [aResult, resR]; rw [fr_getD (of_decide_eq_true h.1)]
   | cell a ty => simp only [aResult, resR]; rw [fr_getD (of_decide_eq_true h.1)]
  simp only [aResults, resRs, h1, resRs_fr l h.2]
  rfl
/-- The frame with which a call begins. -/
def env0 (args : List Value) : Env := fun i => match args[i]? with
  | some v => v
  | none => Go.undef
theorem fr_env0 {n : Nat} {args : List Value} (h : args.length ≤ n) : args.toArray ++ Array.replicate (n - args.toArray.size) Go.undef = fr n (env0 args) := by
 apply Array.ext
 ·simp [fr]; omega
 ·intro i h1 h2
  have hi : i < n := by simpa [fr] using h2
  rw [Array.getElem_append]
  simp only [fr, Array.getElem_ofFn, env0]
  split
  ·rename_i hlt
   have hlt' : i < args.length := by simpa using hlt
   simp [List.getElem?_eq_getElem hlt']
  ·rename_i hge
   have hge' : args.length ≤ i := by simpa using hge
   simp [List.getElem?_eq_none hge']
/-- What is closed in a function. -/
def okF (P : Program) (H : Nat → List (Nat × Nat)) (f : FuncId) (n : Nat) : Bool :=
  match P.funcs.toList[f]? with
  | some fn => fn.ntmps == n && fn.results.toList.all (okRes n) && (match fn.body with
    | some c => okC P.globals.size n c && okH H c
    | none => false)
  | none => false
/-- What has to be shown of a function's text. -/
theorem wpF {P : Program} {f : FuncId} {n : Nat} {H : Nat → List (Nat × Nat)} {fn : Func} {c : Code} {rs : List ResultVar} {args : List Value} {m : Mem} {K : Value → Mem → Prop} (hm : P.follows .mixedOrders = true)
  (hok : okF P H f n = true) (hf : P.funcs.toList[f]? = some fn) (hb : fn.body = some c) (hr : fn.results.toList = rs) (hl : args.length ≤ n)
  (h : wpC P n H c (fun e ρ m' => (e = .normal ∨ e = .ret) ∧ ∃ vs, resRs P ρ m' rs = some vs ∧ K (oneOf vs) m') (env0 args) m) :
  ∃ v m', ACalls P f args.toArray m v m' ∧ K v m' := by
 subst hr
 unfold okF at hok
 rw [hf] at hok
 simp only [hb] at hok
 simp only [Bool.and_eq_true, beq_iff_eq] at hok
 obtain ⟨⟨h1, h2⟩, h3, h4⟩ := hok
 obtain ⟨e, ρ', m', a, he, vs, hv, hK⟩ := wpC_sound hm c h3 h4 _ _ _ h
 refine ⟨oneOf vs, m', ACalls.body (by rw [← Array.getElem?_toList]; exact hf) hb ?_ he (by rw [resRs_fr _ h2]; exact hv), hK⟩
 rw [h1, fr_env0 hl]
 exact a
end Go.AM

/-! C4 -/
namespace Go.AM
section
variable {P : Program} {n : Nat} {H : Nat → List (Nat × Nat)} {Q : AExit → Env → Mem → Prop} {ρ : Env} {m m' : Mem} {K : Env → Mem → Prop} {ops : Array Oper} {l : List Oper}
  {d : Option Nat} {i : Nat} {op : Op} {ty : TypeId} {pos : String} {af : Array Edge} {v : Value} {x y z : Code} {id : Nat}
/-! ### Code -/
theorem cSeq (h : wpC P n H x (seqK (wpC P n H y Q) Q) ρ m) : wpC P n H (.seq x y) Q ρ m := h
theorem cSkip (h : Q .normal ρ m) : wpC P n H .skip Q ρ m := h
theorem cExit (h : Q (.exit id) ρ m) : wpC P n H (.exit id) Q ρ m := h
theorem cRet (h : Q .ret ρ m) : wpC P n H .ret Q ρ m := h
theorem cBlock (h : wpC P n H x (blockK id Q) ρ m) : wpC P n H (.block id x) Q ρ m := h
theorem cScope (h : wpC P n H x Q ρ m) : wpC P n H (.scope x) Q ρ m := h
theorem cRegion {l : List Oper} (h : wpOps P ⟨l⟩ (Q .normal) l ρ m) : wpC P n H (.region id ⟨l⟩ false) Q ρ m := wpOps_mono (fun _ _ h => .refl h) _ _ _ h
theorem cDraw {l : List Oper} (hh : H id = []) (h : wpOps P ⟨l⟩ (Q .normal) l ρ m) : wpC P n H (.region id ⟨l⟩ true) Q ρ m := by
 simp only [wpC, if_true, hh]; exact h
theorem cCondT {c : Operand} (hc : evR ρ c = .bool true) (h : wpC P n H x Q ρ m) : wpC P n H (.cond c x y) Q ρ m := ⟨true, hc, fun _ => h, fun e => by cases e⟩
theorem cCondF {c : Operand} (hc : evR ρ c = .bool false) (h : wpC P n H y Q ρ m) : wpC P n H (.cond c x y) Q ρ m := ⟨false, hc, (fun e => by cases e), fun _ => h⟩
theorem cCond {c : Operand} {p : Prop} [Decidable p] (hc : evR ρ c = .bool (decide p)) (h : p → wpC P n H x Q ρ m) (h' : ¬ p → wpC P n H y Q ρ m) : wpC P n H (.cond c x y) Q ρ m :=
 ⟨decide p, hc, fun e => h (of_decide_eq_true e), fun e => h' (of_decide_eq_false e)⟩
theorem kSeqN {N : Env → Mem → Prop} (h : N ρ m) : seqK N Q .normal ρ m := h
theorem kSeqE {N : Env → Mem → Prop} (h : Q (.exit id) ρ m) : seqK N Q (.exit id) ρ m := h
theorem kSeqR {N : Env → Mem → Prop} (h : Q .ret ρ m) : seqK N Q .ret ρ m := h
theorem kBlkN (h : Q .normal ρ m) : blockK id Q .normal ρ m := h
theorem kBlkR (h : Q .ret ρ m) : blockK id Q .ret ρ m := h
theorem kBlkS (h : Q .normal ρ m) : blockK id Q (.exit id) ρ m := by rw [blockK_same]; exact h
/-! ### Operations -/
theorem sNil (h : K ρ m) : wpOps P ops K [] ρ m := h
theorem sO' (hc : wpOp P op (evR ρ) m fun v m' => wpOps P ops K l (updO ρ d v) m') : wpOps P ops K (⟨d, op, ty, pos, af, none⟩ :: l) ρ m :=
 ⟨fun _ => hc, fun h => absurd trivial h⟩
theorem wpOp_opF {K : Value → Mem → Prop} (h : opF P (evR ρ) m op = some (v, m')) (hk : K v m') : wpOp P op (evR ρ) m K := by
 unfold wpOp
 split
 ·exact ⟨v, m', opF_step h, hk⟩
 ·exact ⟨_, h, hk⟩
/-- Any operation whose outcome is known. -/
theorem sO (h : opF P (evR ρ) m op = some (v, m')) (hk : wpOps P ops K l (updO ρ d v) m') : wpOps P ops K (⟨d, op, ty, pos, af, none⟩ :: l) ρ m := sO' (wpOp_opF h hk)
theorem opF_pure (h : aPure P (evR ρ) op = some v) : opF P (evR ρ) m op = some (v, m) := by unfold opF; rw [h]
/-- An operation that only computes. -/
theorem sP (h : aPure P (evR ρ) op = some v) (hk : wpOps P ops K l (updO ρ d v) m) : wpOps P ops K (⟨d, op, ty, pos, af, none⟩ :: l) ρ m := sO (opF_pure h) hk
theorem sMv {x : Operand} (h : evR ρ x = v) (hk : wpOps P ops K l (updO ρ d v) m) : wpOps P ops K (⟨d, .move x, ty, pos, af, none⟩ :: l) ρ m := sP (by simp [aPure, h]) hk
theorem sAs {x : Operand} (h : evR ρ x = v) (hk : wpOps P ops K l (updO ρ d v) m) : wpOps P ops K (⟨d, .assign x, ty, pos, af, none⟩ :: l) ρ m := sP (by simp [aPure, h]) hk
theorem opF_read (h0 : aPure P (evR ρ) op = none) (h : aRead P m (evR ρ) op = some v) : opF P (evR ρ) m op = some (v, m) := by unfold opF; rw [h0]; simp only [h]
theorem opF_eff (h0 : aPure P (evR ρ) op = none) (h1 : aRead P m (evR ρ) op = none) (h : aEff P m (evR ρ) op = some (v, m')) : opF P (evR ρ) m op = some (v, m') := by unfold opF; rw [h0]; simp only [h1]; exact h
/-- A call. -/
theorem sCall {f : Operand} {args : Array Operand} {tys : Array TypeId} {g : FuncId} {a cap : Array Value} (hv : evR ρ f = .func (.func g) a cap) (hk : callable P g = true)
  (h : ACalls P g (a ++ args.map (evR ρ) ++ cap) m v m') (hK : wpOps P ops K l (updO ρ d v) m') : wpOps P ops K (⟨d, .call ⟨.value f, args, tys⟩, ty, pos, af, none⟩ :: l) ρ m :=
 sO' ⟨v, m', .call _ f g a cap rfl rfl hv hk h, hK⟩
/-- Guarded operations: one by one, when it is known whether they are wanted. -/
theorem sG {j : Nat} {q : Bool} {dj : Nat} (hd : (ops.toList[j]?).bind (·.dst) = some dj) (hq : ρ dj = .bool q) (h : wpOps P ops K (⟨d, op, ty, pos, af, none⟩ :: l) ρ m) :
  wpOps P ops K (⟨d, op, ty, pos, af, some (j, q)⟩ :: l) ρ m :=
 ⟨fun _ => h.1 trivial, fun hn => absurd (by unfold wantR; simp only [hd]; exact hq) hn⟩
theorem sGno {j : Nat} {q q' : Bool} {dj : Nat} (hd : (ops.toList[j]?).bind (·.dst) = some dj) (hq : ρ dj = .bool q') (hne : q' ≠ q) (h : wpOps P ops K l (updO ρ d Go.undef) m) :
  wpOps P ops K (⟨d, op, ty, pos, af, some (j, q)⟩ :: l) ρ m :=
 ⟨fun hw => absurd hw (by unfold wantR; simp only [hd]; rw [hq]; simpa using hne), fun _ => h⟩
end
/-! ### What slots hold -/
def Has (ρ : Env) : List (Nat × Value) → Prop
  | [] => True
  | (i, v) :: l => ρ i = v ∧ Has ρ l
def upds (ρ : Env) : List (Nat × Value) → Env
  | [] => ρ
  | (i, v) :: l => upd (upds ρ l) i v
theorem Has.env {ρ : Env} : ∀ {l : List (Nat × Value)}, Has ρ l → ρ = upds ρ l
 | [], _ => rfl
 | (i, v) :: l, ⟨h1, h2⟩ => by
  simp only [upds, ← h2.env]
  funext j
  by_cases e : j = i
  ·subst e; rw [upd_same, h1]
  ·rw [upd_ne _ _ e]
end Go.AM
namespace Go.AM
section
variable {P : Program} {ρ : Env} {m m' : Mem} {K : Env → Mem → Prop} {ops : Array Oper} {l : List Oper} {d : Option Nat} {ty : TypeId} {pos : String} {af : Array Edge} {v : Value} {f x y z u : Operand} {tys : Array TypeId} {g : FuncId} {a b c e : Value}
theorem sCall0 (hv : evR ρ f = .func (.func g) #[] #[]) (hk : callable P g = true) (h : ACalls P g #[] m v m') (hK : wpOps P ops K l (updO ρ d v) m') :
  wpOps P ops K (⟨d, .call ⟨.value f, ⟨[]⟩, tys⟩, ty, pos, af, none⟩ :: l) ρ m := sCall hv hk (by simpa using h) hK
theorem sCall1 (hv : evR ρ f = .func (.func g) #[] #[]) (hk : callable P g = true) (h1 : evR ρ x = a) (h : ACalls P g #[a] m v m') (hK : wpOps P ops K l (updO ρ d v) m') :
  wpOps P ops K (⟨d, .call ⟨.value f, ⟨[x]⟩, tys⟩, ty, pos, af, none⟩ :: l) ρ m := sCall hv hk (by simpa [h1] using h) hK
theorem sCall2 (hv : evR ρ f = .func (.func g) #[] #[]) (hk : callable P g = true) (h1 : evR ρ x = a) (h2 : evR ρ y = b) (h : ACalls P g #[a, b] m v m') (hK : wpOps P ops K l (updO ρ d v) m') :
  wpOps P ops K (⟨d, .call ⟨.value f, ⟨[x, y]⟩, tys⟩, ty, pos, af, none⟩ :: l) ρ m := sCall hv hk (by simpa [h1, h2] using h) hK
theorem sCall3 (hv : evR ρ f = .func (.func g) #[] #[]) (hk : callable P g = true) (h1 : evR ρ x = a) (h2 : evR ρ y = b) (h3 : evR ρ z = c) (h : ACalls P g #[a, b, c] m v m') (hK : wpOps P ops K l (updO ρ d v) m') :
  wpOps P ops K (⟨d, .call ⟨.value f, ⟨[x, y, z]⟩, tys⟩, ty, pos, af, none⟩ :: l) ρ m := sCall hv hk (by simpa [h1, h2, h3] using h) hK
theorem sCall4 (hv : evR ρ f = .func (.func g) #[] #[]) (hk : callable P g = true) (h1 : evR ρ x = a) (h2 : evR ρ y = b) (h3 : evR ρ z = c) (h4 : evR ρ u = e) (h : ACalls P g #[a, b, c, e] m v m') (hK : wpOps P ops K l (updO ρ d v) m') :
  wpOps P ops K (⟨d, .call ⟨.value f, ⟨[x, y, z, u]⟩, tys⟩, ty, pos, af, none⟩ :: l) ρ m := sCall hv hk (by simpa [h1, h2, h3, h4] using h) hK
end
end Go.AM
namespace Go.AM
section
variable {P : Program} {n : Nat} {H : Nat → List (Nat × Nat)} {Q : AExit → Env → Mem → Prop} {ρ : Env} {m m' : Mem} {x y z : Code}
theorem cCondT' {c : Operand} {p : Prop} [Decidable p] (hc : evR ρ c = .bool (decide p)) (hp : p) (h : wpC P n H x Q ρ m) : wpC P n H (.cond c x y) Q ρ m := cCondT (by rw [hc, decide_eq_true hp]) h
/-- A relation between two pieces of code. -/
theorem cCut (I : Env → Mem → Prop) (h : wpC P n H x (seqK I Q) ρ m) (hI : ∀ ρ m, I ρ m → wpC P n H y Q ρ m) : wpC P n H (.seq x y) Q ρ m :=
 wpC_mono x (fun e ρ m hh => by cases e with
  | normal => exact hI _ _ hh
  | exit i => exact hh
  | ret => exact hh) ρ m h
end
end Go.AM
namespace Go.AM
theorem cLabel {P : Program} {n : Nat} {H : Nat → List (Nat × Nat)} {Q : AExit → Env → Mem → Prop} {ρ : Env} {m : Mem} {id : Nat} (h : Q .normal ρ m) : wpC P n H (.label id) Q ρ m := h
end Go.AM
namespace Go.AM
theorem sGnoU {P : Program} {ρ : Env} {m : Mem} {K : Env → Mem → Prop} {ops : Array Oper} {l : List Oper} {d : Option Nat} {op : Op} {ty : TypeId} {pos : String} {af : Array Edge} {j : Nat} {q : Bool} {dj : Nat} (hd : (ops.toList[j]?).bind (·.dst) = some dj) (hq : ρ dj = Go.undef) (h : wpOps P ops K l (updO ρ d Go.undef) m) :
  wpOps P ops K (⟨d, op, ty, pos, af, some (j, q)⟩ :: l) ρ m :=
 ⟨fun hw => absurd hw (by unfold wantR; simp only [hd]; rw [hq]; intro h; cases h), fun _ => h⟩
end Go.AM

/-! C5 -/
namespace Go.AM
/-- A number of Go's 'int' that is not below 0. -/
abbrev nv (a : Nat) : Value := .int .i64 (Int.ofNat a)
theorem wrapN {a : Nat} (h : a < 9223372036854775808) : IntKind.i64.wrap (Int.ofNat a) = Int.ofNat a := wrap_i64 (by simp) (by simp; omega)
theorem bvN {a : Nat} (h : a < 9223372036854775808) : (BitVec.ofInt 64 (Int.ofNat a)).toNat = a := by
 simp; omega
theorem aInt_add {a b : Nat} (h : a + b < 9223372036854775808) : aInt .add .i64 (Int.ofNat a) (Int.ofNat b) = some (nv (a + b)) := by
 show some (Value.int .i64 (IntKind.i64.wrap (Int.ofNat (a + b)))) = _
 rw [wrapN h]
theorem aInt_sub {a b : Nat} (h : b ≤ a ∧ a < 9223372036854775808) : aInt .sub .i64 (Int.ofNat a) (Int.ofNat b) = some (nv (a - b)) := by
 have : Int.ofNat a - Int.ofNat b = Int.ofNat (a - b) := by simp; omega
 show some (Value.int .i64 (IntKind.i64.wrap (Int.ofNat a - Int.ofNat b))) = _
 rw [this, wrapN (by omega)]
theorem aInt_mul {a b : Nat} (h : a * b < 9223372036854775808) : aInt .mul .i64 (Int.ofNat a) (Int.ofNat b) = some (nv (a * b)) := by
 show some (Value.int .i64 (IntKind.i64.wrap (Int.ofNat (a * b)))) = _
 rw [wrapN h]
theorem aInt_rem {a b : Nat} (h : 0 < b) : aInt .rem .i64 (Int.ofNat a) (Int.ofNat b) = some (nv (a % b)) := by
 have hb : ¬ Int.ofNat b = 0 := by simp; omega
 have e : (Int.ofNat a).tmod (Int.ofNat b) = Int.ofNat (a % b) := rfl
 simp only [aInt, if_neg hb, e]
theorem aInt_and {a b : Nat} (h : a < 9223372036854775808 ∧ b < 9223372036854775808) : aInt .and .i64 (Int.ofNat a) (Int.ofNat b) = some (nv (a &&& b)) := by
 show some (Value.int .i64 (IntKind.i64.wrap (Int.ofNat (BitVec.ofInt 64 (Int.ofNat a) &&& BitVec.ofInt 64 (Int.ofNat b)).toNat))) = _
 rw [BitVec.toNat_and, bvN h.1, bvN h.2, wrapN (Nat.lt_of_le_of_lt Nat.and_le_left h.1)]
theorem aInt_or {a b : Nat} (h : a < 9223372036854775808 ∧ b < 9223372036854775808) : aInt .or .i64 (Int.ofNat a) (Int.ofNat b) = some (nv (a ||| b)) := by
 show some (Value.int .i64 (IntKind.i64.wrap (Int.ofNat (BitVec.ofInt 64 (Int.ofNat a) ||| BitVec.ofInt 64 (Int.ofNat b)).toNat))) = _
 rw [BitVec.toNat_or, bvN h.1, bvN h.2, wrapN (Nat.or_lt_two_pow (n := 63) h.1 h.2)]
theorem aInt_xor {a b : Nat} (h : a < 9223372036854775808 ∧ b < 9223372036854775808) : aInt .xor .i64 (Int.ofNat a) (Int.ofNat b) = some (nv (a ^^^ b)) := by
 show some (Value.int .i64 (IntKind.i64.wrap (Int.ofNat (BitVec.ofInt 64 (Int.ofNat a) ^^^ BitVec.ofInt 64 (Int.ofNat b)).toNat))) = _
 rw [BitVec.toNat_xor, bvN h.1, bvN h.2, wrapN (Nat.xor_lt_two_pow (n := 63) h.1 h.2)]
theorem aInt_shl {a b : Nat} (h : b < 64 ∧ a * 2 ^ b < 9223372036854775808) : aInt .shl .i64 (Int.ofNat a) (Int.ofNat b) = some (nv (a <<< b)) := by
 have hb : ¬ Int.ofNat b < 0 := by simp
 have hm : min (Int.ofNat b).toNat IntKind.i64.bits = b := by
  show min b 64 = b
  omega
 have e : Int.ofNat a * 2 ^ b = Int.ofNat (a * 2 ^ b) := by simp
 simp only [aInt, if_neg hb, hm, e]
 rw [wrapN h.2, Nat.shiftLeft_eq]
theorem aInt_shr {a b : Nat} (h : a < 9223372036854775808) : aInt .shr .i64 (Int.ofNat a) (Int.ofNat b) = some (nv (a >>> b)) := by
 have hb : ¬ Int.ofNat b < 0 := by simp
 simp only [aInt, if_neg hb]
 have e : (Int.ofNat a).fdiv (2 ^ min (Int.ofNat b).toNat IntKind.i64.bits) = Int.ofNat (a / 2 ^ min b 64) := by
  show (Int.ofNat a).fdiv (2 ^ min b 64) = _
  rw [show (2 : Int) ^ min b 64 = Int.ofNat (2 ^ min b 64) by simp]
  rw [Int.fdiv_eq_ediv_of_nonneg _ (show (0 : Int) ≤ Int.ofNat (2 ^ min b 64) from Int.natCast_nonneg _)]
  rfl
 rw [e]
 congr 2
 rw [Nat.shiftRight_eq_div_pow]
 congr 1
 by_cases hb : b ≤ 64
 ·rw [Nat.min_eq_left hb]
 ·rw [Nat.min_eq_right (by omega), Nat.div_eq_of_lt (by omega), Nat.div_eq_of_lt]
  exact Nat.lt_of_lt_of_le (by omega) (Nat.pow_le_pow_right (by omega) (show 64 ≤ b by omega))
theorem aInt_lss {a b : Nat} : aInt .lss .i64 (Int.ofNat a) (Int.ofNat b) = some (.bool (decide (a < b))) := by simp [aInt]
theorem aInt_leq {a b : Nat} : aInt .leq .i64 (Int.ofNat a) (Int.ofNat b) = some (.bool (decide (a ≤ b))) := by simp [aInt]
theorem aInt_gtr {a b : Nat} : aInt .gtr .i64 (Int.ofNat a) (Int.ofNat b) = some (.bool (decide (b < a))) := by simp [aInt]
theorem aInt_eql {a b : Nat} : aInt .eql .i64 (Int.ofNat a) (Int.ofNat b) = some (.bool (decide (a = b))) := by
 simp only [aInt, Option.some.injEq, Value.bool.injEq]
 rw [Bool.eq_iff_iff]; simp; omega
theorem aInt_neq {a b : Nat} : aInt .neq .i64 (Int.ofNat a) (Int.ofNat b) = some (.bool (decide (a ≠ b))) := by
 simp only [aInt, Option.some.injEq, Value.bool.injEq]
 rw [Bool.eq_iff_iff]; simp; omega
theorem aInt_addI {a b : Int} (h : -9223372036854775808 ≤ a + b ∧ a + b ≤ 9223372036854775807) : aInt .add .i64 a b = some (.int .i64 (a + b)) := by
 simp only [aInt]; rw [IntWalk.i64_in _ h]
theorem aInt_subI {a b : Int} (h : -9223372036854775808 ≤ a - b ∧ a - b ≤ 9223372036854775807) : aInt .sub .i64 a b = some (.int .i64 (a - b)) := by
 simp only [aInt]; rw [IntWalk.i64_in _ h]
theorem aInt_neqI {k : IntKind} {a b : Int} : aInt .neq k a b = some (.bool (decide (a ≠ b))) := by
 simp only [aInt, Option.some.injEq, Value.bool.injEq]
 rw [Bool.eq_iff_iff]; simp
theorem aInt_eqlI {k : IntKind} {a b : Int} : aInt .eql k a b = some (.bool (decide (a = b))) := by
 simp only [aInt, Option.some.injEq, Value.bool.injEq]
 rw [Bool.eq_iff_iff]; simp
section
variable {P : Program} {n : Nat} {ρ : Env} {m m' : Mem} {K : Env → Mem → Prop} {ops : Array Oper} {l : List Oper}
  {d : Option Nat} {i : Nat} {op : Op} {ty t tz : TypeId} {pos : String} {af : Array Edge} {v : Value} {x y : Operand} {a b : Nat}
theorem sBin {o : BinOp} (hx : evR ρ x = nv a) (hy : evR ρ y = nv b) (h : aInt o .i64 (Int.ofNat a) (Int.ofNat b) = some v) (hk : wpOps P ops K l (updO ρ d v) m) :
  wpOps P ops K (⟨d, .binOp o t x y tz, ty, pos, af, none⟩ :: l) ρ m := by
 refine sP (v := v) ?_ hk
 simp only [aPure, hx, hy, aBin, h]
 split <;> rfl
/-- The same, with whatever whole numbers. -/
theorem sBinI {o : BinOp} {k : IntKind} {a b : Int} (hx : evR ρ x = .int k a) (hy : evR ρ y = .int k b) (h : aInt o k a b = some v) (hk : wpOps P ops K l (updO ρ d v) m) :
  wpOps P ops K (⟨d, .binOp o t x y tz, ty, pos, af, none⟩ :: l) ρ m := by
 refine sP (v := v) ?_ hk
 simp only [aPure, hx, hy, aBin, h]
 split <;> rfl
/-! ### Memory -/
theorem cell1 (v : Value) (h : v.cells = #[v]) (c : Array Value) (o : Nat) (ho : o < c.size) : lay c o v.cells = c.setIfInBounds o v := by
 rw [h]; simp [lay]
theorem sLen {e : TypeId} {q : Option Addr} {len cap : Nat} {tys : TypeId} (ht : undOf P tys = some (.slice e)) (hx : evR ρ x = .slice q len cap) (hk : wpOps P ops K l (updO ρ d (nv len)) m) :
  wpOps P ops K (⟨d, .call ⟨.builtin .len, ⟨[x]⟩, ⟨[tys]⟩⟩, ty, pos, af, none⟩ :: l) ρ m := by
 refine sP (v := nv len) ?_ hk
 simp only [aPure, aLen, ht, hx]
 rfl
/-- The address of a slice's element. -/
theorem sIx {e : TypeId} {bl o s sp len cap : Nat} (ht : undOf P t = some (.slice e)) (hs : szOf P e = some s) (hx : evR ρ x = .slice (some ⟨bl, o, some sp⟩) len cap) (hi : evR ρ y = nv i) (h : i < len)
  (hk : wpOps P ops K l (updO ρ d (.pointer (some ⟨bl, o + i * s, none⟩))) m) : wpOps P ops K (⟨d, .indexAddr t x y, ty, pos, af, none⟩ :: l) ρ m := by
 refine sP ?_ hk
 simp only [aPure, hx, hi, aIndexAddr, ht, hs]
 rw [if_pos ⟨by simp, by simpa using h⟩]
 rfl
/-- The address of an array's element. -/
theorem sIxA {e : TypeId} {bl o s len : Nat} (ht : undOf P t = some (.array len e)) (hs : szOf P e = some s) (hx : evR ρ x = .pointer (some ⟨bl, o, none⟩)) (hi : evR ρ y = nv i) (h : i < len)
  (hk : wpOps P ops K l (updO ρ d (.pointer (some ⟨bl, o + i * s, none⟩))) m) : wpOps P ops K (⟨d, .indexAddr t x y, ty, pos, af, none⟩ :: l) ρ m := by
 refine sP ?_ hk
 simp only [aPure, hx, hi, aIndexAddr, ht, hs]
 rw [if_pos ⟨by simp, by simpa using h⟩]
 rfl
/-- One cell is read. -/
theorem sLd {bl o : Nat} {rw_ : Bool} {c : Array Value} (ht : isAggT P t = some false) (hx : evR ρ x = .pointer (some ⟨bl, o, none⟩)) (hb : Mem.get m bl = .cells rw_ c) (hc : c[o]? = some v)
  (hk : wpOps P ops K l (updO ρ d v) m) : wpOps P ops K (⟨d, .load t x, ty, pos, af, none⟩ :: l) ρ m := by
 refine sO (opF_read rfl ?_) hk
 simp only [aRead, aLoad, hx, hb, ht, hc]
/-- A struct or an array is read. -/
theorem sLdA {bl o s : Nat} {rw_ : Bool} {c : Array Value} (ht : isAggT P t = some true) (hs : szOf P t = some s) (hx : evR ρ x = .pointer (some ⟨bl, o, none⟩)) (hb : Mem.get m bl = .cells rw_ c) (hc : o + s ≤ c.size)
  (hk : wpOps P ops K l (updO ρ d (.agg (c.extract o (o + s)))) m) : wpOps P ops K (⟨d, .load t x, ty, pos, af, none⟩ :: l) ρ m := by
 refine sO (opF_read rfl ?_) hk
 simp only [aRead, aLoad, hx, hb, ht, hs, if_pos hc]
/-- One cell is written. -/
theorem sSt {bl o : Nat} {c : Array Value} (hs : szOf P t = some 1) (hx : evR ρ x = .pointer (some ⟨bl, o, none⟩)) (hy : evR ρ y = v) (hb : Mem.get m bl = .cells true c) (ho : o < c.size) (h1 : v.cells = #[v]) (h2 : Value.oneCell' v = true)
  (hk : wpOps P ops K l (updO ρ d Go.undef) (m.setIfInBounds bl (.cells true (c.setIfInBounds o v)))) : wpOps P ops K (⟨d, .store t x y, ty, pos, af, none⟩ :: l) ρ m := by
 refine sO (opF_eff rfl rfl ?_) hk
 simp only [aEff, aStore, hx, hy, hb]
 rw [if_pos ⟨by rw [hs, h1]; rfl, by rw [h1]; exact ho, by rw [h1]; simpa using h2⟩, cell1 v h1 c o ho]
 rfl
/-- A struct or an array is written. -/
theorem sStA {bl o s : Nat} {c vs : Array Value} (hs : szOf P t = some s) (hx : evR ρ x = .pointer (some ⟨bl, o, none⟩)) (hy : evR ρ y = .agg vs) (hb : Mem.get m bl = .cells true c) (hz : vs.size = s) (ho : o + s ≤ c.size) (h2 : vs.all Value.oneCell' = true)
  (hk : wpOps P ops K l (updO ρ d Go.undef) (m.setIfInBounds bl (.cells true (lay c o vs)))) : wpOps P ops K (⟨d, .store t x y, ty, pos, af, none⟩ :: l) ρ m := by
 refine sO (opF_eff rfl rfl ?_) hk
 simp only [aEff, aStore, hx, hy, hb]
 rw [show (Value.agg vs).cells = vs from rfl, if_pos ⟨by rw [hs, hz], by rw [hz]; exact ho, h2⟩]
 rfl
/-- A new variable. -/
theorem sAlloc {e : TypeId} {z : Value} (hz : zeroOf P e = some z) (hf : z.cells.all flat0 = true) (hk : wpOps P ops K l (updO ρ d (.pointer (some ⟨m.size, 0, none⟩))) (m.push (.cells true z.cells))) :
  wpOps P ops K (⟨d, .alloc e, ty, pos, af, none⟩ :: l) ρ m := by
 refine sO (opF_eff rfl rfl ?_) hk
 simp only [aEff, aAlloc, hz, if_pos hf]
theorem sBox {e : TypeId} (hx : evR ρ x = v) (hk : wpOps P ops K l (updO ρ d (.pointer (some ⟨m.size, 0, none⟩))) (m.push (.cells true v.cells))) :
  wpOps P ops K (⟨d, .box e x, ty, pos, af, none⟩ :: l) ρ m := by
 refine sO (opF_eff rfl rfl ?_) hk
 simp only [aEff, aBox, hx]
end
end Go.AM
namespace Go.AM
theorem aInt_geqI {k : IntKind} {a b : Int} : aInt .geq k a b = some (.bool (decide (b ≤ a))) := by simp [aInt]
theorem aInt_leqI {k : IntKind} {a b : Int} : aInt .leq k a b = some (.bool (decide (a ≤ b))) := by simp [aInt]
theorem aInt_lssI {k : IntKind} {a b : Int} : aInt .lss k a b = some (.bool (decide (a < b))) := by simp [aInt]
theorem aInt_gtrI {k : IntKind} {a b : Int} : aInt .gtr k a b = some (.bool (decide (b < a))) := by simp [aInt]
end Go.AM
namespace Go.AM
end Go.AM
namespace Go.AM
end Go.AM

/-! C18 -/
namespace Go.AM
section
variable {P : Program} {n : Nat} {H : Nat → List (Nat × Nat)} {Q : AExit → Env → Mem → Prop} {ρ : Env} {m : Mem} {K : Env → Mem → Prop} {ops : Array Oper} {l : List Oper}
  {d : Option Nat} {id : Nat} {op : Op} {ty : TypeId} {pos : String} {af : Array Edge} {y : Code}
theorem sN {N : Env → Mem → Prop} (h : N ρ m) : wpOps P ops (seqK N Q .normal) [] ρ m := h
theorem cSR {l : List Oper} (h : wpOps P ⟨l⟩ (seqK (wpC P n H y Q) Q .normal) l ρ m) : wpC P n H (.seq (.region id ⟨l⟩ false) y) Q ρ m := cSeq (cRegion h)
theorem sGF {j dj : Nat} (hd : (ops.toList[j]?).bind (·.dst) = some dj) (hq : ρ dj = .bool false) (h : wpOps P ops K l (updO ρ d Go.undef) m) : wpOps P ops K (⟨d, op, ty, pos, af, some (j, true)⟩ :: l) ρ m := sGno hd hq (by simp) h
theorem sGT {j dj : Nat} (hd : (ops.toList[j]?).bind (·.dst) = some dj) (hq : ρ dj = .bool true) (h : wpOps P ops K l (updO ρ d Go.undef) m) : wpOps P ops K (⟨d, op, ty, pos, af, some (j, false)⟩ :: l) ρ m := sGno hd hq (by simp) h
variable {x : Operand}
theorem sMn {n : Nat} (hx : evR ρ x = nv n) (hk : wpOps P ops K l (updO ρ d (nv n)) m) : wpOps P ops K (⟨d, .move x, ty, pos, af, none⟩ :: l) ρ m := sMv hx hk
theorem sMb {b : Bool} (hx : evR ρ x = .bool b) (hk : wpOps P ops K l (updO ρ d (.bool b)) m) : wpOps P ops K (⟨d, .move x, ty, pos, af, none⟩ :: l) ρ m := sMv hx hk
theorem sMs {q : Option Addr} {n c : Nat} (hx : evR ρ x = .slice q n c) (hk : wpOps P ops K l (updO ρ d (.slice q n c)) m) : wpOps P ops K (⟨d, .move x, ty, pos, af, none⟩ :: l) ρ m := sMv hx hk
theorem sAn {n : Nat} (hx : evR ρ x = nv n) (hk : wpOps P ops K l (updO ρ d (nv n)) m) : wpOps P ops K (⟨d, .assign x, ty, pos, af, none⟩ :: l) ρ m := sAs hx hk
theorem sAb {b : Bool} (hx : evR ρ x = .bool b) (hk : wpOps P ops K l (updO ρ d (.bool b)) m) : wpOps P ops K (⟨d, .assign x, ty, pos, af, none⟩ :: l) ρ m := sAs hx hk
theorem sPb {b : Bool} (hx : aPure P (evR ρ) op = some (.bool b)) (hk : wpOps P ops K l (updO ρ d (.bool b)) m) : wpOps P ops K (⟨d, op, ty, pos, af, none⟩ :: l) ρ m := sP hx hk
end
end Go.AM

/-! C6 -/
namespace Go.AM
/-- All that was there is as it was. -/
def Ext (m m' : Mem) : Prop := m.size ≤ m'.size ∧ ∀ b, b < m.size → Mem.get m' b = Mem.get m b
theorem Ext.refl (m : Mem) : Ext m m := ⟨Nat.le_refl _, fun _ _ => rfl⟩
theorem Ext.trans {m m' m'' : Mem} (h : Ext m m') (h' : Ext m' m'') : Ext m m'' :=
 ⟨Nat.le_trans h.1 h'.1, fun b hb => (h'.2 b (Nat.lt_of_lt_of_le hb h.1)).trans (h.2 b hb)⟩
theorem Ext.push (m : Mem) (o : AObj) : Ext m (m.push o) := ⟨by simp, fun b hb => by rw [get_push, if_neg (by omega)]⟩
theorem Ext.set {m m' : Mem} (h : Ext m m') {b : Nat} (hb : m.size ≤ b) (o : AObj) : Ext m (m'.setIfInBounds b o) :=
 ⟨by simpa using h.1, fun i hi => by rw [get_set, if_neg (by omega)]; exact h.2 i hi⟩
theorem Ext.cells {m m' : Mem} (h : Ext m m') {b : Nat} {r : Bool} {c : Array Value} (hb : Mem.get m b = .cells r c) : Mem.get m' b = .cells r c := by
 rw [h.2 b (Mem.lt_of_live (by rw [hb]; rfl)), hb]
/-- A slice of numbers that may be read. -/
def IntsAt (m : Mem) (v : Value) (l : List Int) : Prop :=
  (l = [] ∧ (v = .slice none 0 0 ∨ ∃ b o, v = .slice (some ⟨b, o, none⟩) 0 0)) ∨
  ∃ b o cap r c, v = .slice (some ⟨b, o, some 1⟩) l.length cap ∧ Mem.get m b = .cells r c ∧ ∀ i x, l[i]? = some x → c[o + i]? = some (.int .i64 x)
theorem IntsAt.ext {m m' : Mem} {v : Value} {l : List Int} (h : IntsAt m v l) (he : Ext m m') : IntsAt m' v l := by
 rcases h with h | ⟨b, o, cap, r, c, h1, h2, h3⟩
 ·exact .inl h
 ·exact .inr ⟨b, o, cap, r, c, h1, he.cells h2, h3⟩
theorem IntsAt.len {m : Mem} {v : Value} {l : List Int} (h : IntsAt m v l) : ∃ q cap, v = .slice q l.length cap := by
 rcases h with ⟨rfl, rfl | ⟨b, o, rfl⟩⟩ | ⟨b, o, cap, r, c, rfl, _, _⟩
 ·exact ⟨_, _, rfl⟩
 ·exact ⟨_, _, rfl⟩
 ·exact ⟨_, _, rfl⟩
theorem IntsAt.at {m : Mem} {v : Value} {l : List Int} (h : IntsAt m v l) (hl : 0 < l.length) : ∃ b o cap r c, v = .slice (some ⟨b, o, some 1⟩) l.length cap ∧ Mem.get m b = .cells r c ∧ ∀ i x, l[i]? = some x → c[o + i * 1]? = some (.int .i64 x) := by
 rcases h with ⟨rfl, _⟩ | h
 ·simp at hl
 ·simpa using h
end Go.AM

/-! C7 -/
namespace Go.AM
/-- A slice of numbers of the function's own: its block is from N on. -/
def OwnF (N : Nat) (m : Mem) (v : Value) (l : List Int) : Prop :=
  (l = [] ∧ v = .slice none 0 0) ∨ ∃ (b cap : Nat) (c : Array Value), v = .slice (some ⟨b, 0, some 1⟩) l.length cap ∧ N ≤ b ∧ Mem.get m b = .cells true c ∧ l.length ≤ cap ∧ cap = c.size ∧ ∀ (i : Nat) (x : Int), l[i]? = some x → c[i]? = some (Value.int .i64 x)
/-- Below N all is as it was. -/
def Low (N : Nat) (m m' : Mem) : Prop := m.size ≤ m'.size ∧ ∀ b, b < N → Mem.get m' b = Mem.get m b
theorem Low.refl (N : Nat) (m : Mem) : Low N m m := ⟨Nat.le_refl _, fun _ _ => rfl⟩
theorem Low.trans {N : Nat} {a b c : Mem} (h : Low N a b) (h' : Low N b c) : Low N a c := ⟨Nat.le_trans h.1 h'.1, fun i hi => (h'.2 i hi).trans (h.2 i hi)⟩
theorem Low.of_ext {N : Nat} {m m' : Mem} (h : Ext m m') (hN : N ≤ m.size) : Low N m m' := ⟨h.1, fun b hb => h.2 b (by omega)⟩
theorem OwnF.ints {N : Nat} {m : Mem} {v : Value} {l : List Int} (h : OwnF N m v l) : IntsAt m v l := by
 rcases h with ⟨rfl, rfl⟩ | ⟨b, cap, c, h1, h2, h3, h4, h5, h6⟩
 ·exact .inl ⟨rfl, .inl rfl⟩
 ·exact .inr ⟨b, 0, cap, true, c, h1, h3, fun i x hx => by rw [Nat.zero_add]; exact h6 i x hx⟩
def cellsI (l : List Int) : Array Value := (l.map (Value.int .i64)).toArray
theorem cellsI_get {l : List Int} {i : Nat} : (cellsI l)[i]? = (l[i]?).map (Value.int .i64) := by simp [cellsI]
theorem first_ints {m : Mem} {x : Value} {r : List Int} (h : IntsAt m x r) : aFirst m 1 r.length x = some (cellsI r) := by
 unfold aFirst
 by_cases h0 : r.length = 0
 ·rw [if_pos h0]
  have : r = [] := List.length_eq_zero_iff.1 h0
  subst this; rfl
 ·rw [if_neg h0]
  obtain ⟨b, o, cap, rw_, c, rfl, h2, h3⟩ := h.at (by omega)
  have hlast := h3 (r.length - 1) _ (List.getElem?_eq_getElem (by omega))
  have hsz : o + (r.length - 1) * 1 < c.size := by
   rw [Array.getElem?_eq_some_iff] at hlast
   exact hlast.1
  simp only [h2]
  rw [if_pos (by omega)]
  congr 1
  apply Array.ext_getElem?
  intro i
  rw [cellsI_get, Array.getElem?_extract]
  by_cases hi : i < r.length
  ·rw [if_pos (by omega), List.getElem?_eq_getElem hi]
   have := h3 i _ (List.getElem?_eq_getElem hi)
   simpa using this
  ·rw [if_neg (by omega), List.getElem?_eq_none (by omega)]; rfl
theorem cellsI_size (l : List Int) : (cellsI l).size = l.length := by simp [cellsI]
theorem cellsI_one (l : List Int) : (cellsI l).all Value.oneCell' = true := by
 rw [Array.all_eq_true]
 intro i hi
 have : (cellsI l)[i]? = some (cellsI l)[i] := Array.getElem?_eq_getElem hi
 rw [cellsI_get] at this
 obtain ⟨x, _, hx⟩ := Option.map_eq_some_iff.1 this
 rw [← hx]; rfl
theorem IntsAt.lenOf {m : Mem} {v : Value} {l : List Int} (h : IntsAt m v l) : aLenOf v = some l.length := by
 obtain ⟨q, cap, rfl⟩ := h.len; rfl
theorem OwnF.mono {N N' : Nat} {m : Mem} {v : Value} {l : List Int} (h : OwnF N m v l) (hN : N' ≤ N) : OwnF N' m v l := by
 rcases h with h | ⟨b, cap, c, h1, h2, h3⟩
 ·exact .inl h
 ·exact .inr ⟨b, cap, c, h1, by omega, h3⟩
theorem OwnF.nil (N : Nat) (m : Mem) : OwnF N m (.slice none 0 0) [] := .inl ⟨rfl, rfl⟩
/-- A slice of one's own stays, where all that was there is as it was. -/
theorem OwnF.ext {N : Nat} {m m' : Mem} {v : Value} {l : List Int} (h : OwnF N m v l) (he : Ext m m') : OwnF N m' v l := by
 rcases h with h | ⟨b, cap, c, h1, h2, h3, h4⟩
 ·exact .inl h
 ·exact .inr ⟨b, cap, c, h1, h2, he.cells h3, h4⟩
/-- What is known of the types of an 'append' of whole numbers. -/
structure AppT (P : Program) (t xt : TypeId) : Prop where
  e : ∃ e ux z, undOf P t = some (.slice e) ∧ undOf P xt = some ux ∧ isIntT ux = false ∧ szOf P e = some 1 ∧ zeroOf P e = some z ∧ z.cells.size = 1 ∧ bytesOf' P e = some 8
theorem own_append {P : Program} {t xt : TypeId} {N : Nat} {m : Mem} {v x : Value} {l r : List Int} (hT : AppT P t xt) (h : OwnF N m v l) (hx : IntsAt m x r) (hN : N ≤ m.size) (hl : l.length + r.length ≤ 1000000000) :
  ∃ v' m', aAppend P m t xt v x = some (v', m') ∧ OwnF N m' v' (l ++ r) ∧ Low N m m' := by
 obtain ⟨e, ux, z, h1, h2, h3, h4, h5, h6, h7⟩ := hT.e
 have hnew : ∀ (i : Nat) (x : Int), r[i]? = some x → (cellsI r)[i]? = some (Value.int .i64 x) := fun i x hi => by rw [cellsI_get, hi]; rfl
 unfold aAppend
 simp only [h1, h2, h3, h4, h5, h7, hx.lenOf, first_ints hx]
 rw [if_pos ⟨by omega, h6, by rw [cellsI_size]; omega, cellsI_one r⟩]
 rcases h with ⟨rfl, rfl⟩ | ⟨b, cap, c, rfl, g2, g3, g4, g5, g6⟩
 ·by_cases h0 : r.length = 0
  ·simp only [h0, if_true]
   obtain rfl := List.length_eq_zero_iff.1 h0
   exact ⟨_, _, rfl, .inl ⟨rfl, rfl⟩, .refl _ _⟩
  ·simp only [if_neg h0]
   rw [if_pos ⟨by omega, by omega⟩]
   refine ⟨_, _, rfl, .inr ⟨m.size, r.length, cellsI r, rfl, hN, by rw [get_push, if_pos rfl], by simp, (cellsI_size r).symm, by simpa using hnew⟩, by simp, fun i hi => ?_⟩
   rw [get_push, if_neg (by omega)]
 ·have hb : b < m.size := Mem.lt_of_live (by rw [g3]; rfl)
  simp only [if_true]
  by_cases h0 : r.length = 0
  ·simp only [h0, if_true]
   obtain rfl := List.length_eq_zero_iff.1 h0
   exact ⟨_, _, rfl, .inr ⟨b, cap, c, by simp, g2, g3, by simpa using g4, g5, by simpa using g6⟩, .refl _ _⟩
  ·simp only [if_neg h0, g3]
   by_cases hc : l.length + r.length ≤ cap
   ·rw [if_pos hc, if_pos (by omega)]
    refine ⟨_, _, rfl, .inr ⟨b, cap, lay c (0 + l.length * 1) (cellsI r), by simp, g2, by rw [get_set, if_pos ⟨rfl, hb⟩], by simpa using hc, by rw [lay_size]; exact g5, fun i x hi => ?_⟩, by simp, fun i hi => ?_⟩
    ·rw [lay_get', cellsI_size]
     by_cases hil : i < l.length
     ·rw [if_neg (by omega)]
      rw [List.getElem?_append_left hil] at hi
      exact g6 i x hi
     ·rw [List.getElem?_append_right (by omega)] at hi
      have := (List.getElem?_eq_some_iff.1 hi).1
      rw [if_pos (by omega)]
      have e1 : i - (0 + l.length * 1) = i - l.length := by omega
      rw [e1]
      exact hnew _ _ hi
    ·rw [get_set, if_neg (by omega)]
   ·rw [if_neg hc, if_pos ⟨trivial, by omega, by omega, by omega⟩]
    refine ⟨_, _, rfl, .inr ⟨m.size, l.length + r.length, c.extract 0 (l.length * 1) ++ cellsI r, by simp, hN, by rw [get_push, Array.size_setIfInBounds, if_pos rfl], by simp, ?_, fun i x hi => ?_⟩, by simp, fun i hi => ?_⟩
    ·simp [cellsI_size]; omega
    ·by_cases hil : i < l.length
     ·rw [List.getElem?_append_left hil] at hi
      rw [Array.getElem?_append_left (by simp; omega), Array.getElem?_extract, if_pos (by omega)]
      simpa using g6 i x hi
     ·rw [List.getElem?_append_right (by omega)] at hi
      rw [Array.getElem?_append_right (by simp; omega)]
      have e1 : i - (c.extract 0 (l.length * 1)).size = i - l.length := by simp; omega
      rw [e1]
      exact hnew _ _ hi
    ·rw [get_push, Array.size_setIfInBounds, if_neg (by omega), get_set, if_neg (by omega)]
section
variable {P : Program} {n : Nat} {ρ : Env} {m m' : Mem} {K : Env → Mem → Prop} {ops : Array Oper} {l : List Oper}
  {d : Option Nat} {i : Nat} {op : Op} {ty t xt tz : TypeId} {pos : String} {af : Array Edge} {v : Value} {x y : Operand} {a b : Nat}
/-- 'append' of whole numbers to a slice of one's own. -/
theorem sApp {N : Nat} {v w : Value} {p r : List Int} (hT : AppT P t xt) (hx : evR ρ x = v) (hy : evR ρ y = w) (h : OwnF N m v p) (hw : IntsAt m w r) (hN : N ≤ m.size) (hl : p.length + r.length ≤ 1000000000)
  (hk : ∀ v' m', OwnF N m' v' (p ++ r) → Low N m m' → wpOps P ops K l (updO ρ d v') m') : wpOps P ops K (⟨d, .call ⟨.builtin .append, ⟨[x, y]⟩, ⟨[t, xt]⟩⟩, ty, pos, af, none⟩ :: l) ρ m := by
 obtain ⟨v', m', h1, h2, h3⟩ := own_append hT h hw hN hl
 refine sO (opF_eff rfl rfl ?_) (hk v' m' h2 h3)
 simp only [aEff, hx, hy, h1]
/-- A slice that is built of given values. -/
theorem sBuildS {e : TypeId} {s len : Nat} {ps : Array (Nat × Operand)} {z : Value} {c : Array Value} (ht : undOf P t = some (.slice e)) (hs : szOf P e = some s) (hz : zeroOf P e = some z) (h0 : 0 < s) (h1 : len * s ≤ 16777216) (h2 : z.cells.size ≠ 0) (h3 : z.cells.all flat0 = true)
  (hf : Instr.fill (fun i => some (i * s, s)) (if len * s = 0 then #[] else (Array.range (len * s)).map (z.cells[· % z.cells.size]!)) (ps.toList.map fun p => (p.1, evR ρ p.2)) = some c) (hc : c.size = len * s)
  (hk : wpOps P ops K l (updO ρ d (.slice (some ⟨m.size, 0, some s⟩) len len)) (m.push (.cells true c))) : wpOps P ops K (⟨d, .buildSlice t len ps, ty, pos, af, none⟩ :: l) ρ m := by
 refine sO (opF_eff rfl rfl ?_) hk
 simp only [aEff, aBuildSlice, ht, hs, hz]
 rw [if_pos ⟨h0, h1, h2, h3⟩, hf]
 simp only [if_pos hc]
end
end Go.AM

/-! C8 -/
namespace Go.AM
def ofs (l : List Nat) : List Int := l.map Int.ofNat
@[simp] theorem ofs_length (l : List Nat) : (ofs l).length = l.length := by simp [ofs]
theorem ofs_get {l : List Nat} {i x : Nat} (h : l[i]? = some x) : (ofs l)[i]? = some (Int.ofNat x) := by simp [ofs, h]
theorem ofs_append (l r : List Nat) : ofs (l ++ r) = ofs l ++ ofs r := by simp [ofs]
/-- A slice of one's own that is not empty. -/
theorem OwnF.at {N : Nat} {m : Mem} {v : Value} {l : List Int} (h : OwnF N m v l) (hl : 0 < l.length) :
  ∃ (b cap : Nat) (c : Array Value), v = .slice (some ⟨b, 0, some 1⟩) l.length cap ∧ N ≤ b ∧ Mem.get m b = .cells true c ∧ l.length ≤ c.size ∧ (∀ (i : Nat) (x : Int), l[i]? = some x → c[0 + i * 1]? = some (Value.int .i64 x)) ∧
   (∀ (i : Nat) (x : Int), i < l.length → OwnF N (m.setIfInBounds b (.cells true (c.setIfInBounds (0 + i * 1) (.int .i64 x)))) (.slice (some ⟨b, 0, some 1⟩) l.length cap) (l.set i x)) := by
 rcases h with ⟨rfl, rfl⟩ | ⟨b, cap, c, rfl, h2, h3, h4, h5, h6⟩
 ·simp at hl
 ·have hb : b < m.size := Mem.lt_of_live (by rw [h3]; rfl)
  refine ⟨b, cap, c, rfl, h2, h3, by omega, fun i x hi => by rw [Nat.zero_add, Nat.mul_one]; exact h6 i x hi, fun i x hi => ?_⟩
  refine .inr ⟨b, cap, c.setIfInBounds (0 + i * 1) (.int .i64 x), by simp, h2, by rw [get_set, if_pos ⟨rfl, hb⟩], by simpa using h4, by simpa using h5, fun j y hj => ?_⟩
  rw [Nat.zero_add, Nat.mul_one, Array.getElem?_setIfInBounds]
  rw [List.getElem?_set] at hj
  by_cases e : i = j
  ·subst e
   rw [if_pos rfl, if_pos hi] at hj
   injection hj with hj; subst hj
   rw [if_pos rfl, if_pos (by omega)]
  ·rw [if_neg e] at hj ⊢
   exact h6 j y hj
theorem Low.set {N : Nat} {m : Mem} {b : Nat} (hb : N ≤ b) (o : AObj) : Low N m (m.setIfInBounds b o) :=
 ⟨by simp, fun i hi => by rw [get_set, if_neg (by omega)]⟩
theorem Low.push (N : Nat) {m : Mem} (hN : N ≤ m.size) (o : AObj) : Low N m (m.push o) :=
 ⟨by simp, fun i hi => by rw [get_push, if_neg (by omega)]⟩
theorem Low.cells {N : Nat} {m m' : Mem} (h : Low N m m') {b : Nat} {r : Bool} {c : Array Value} (hN : b < N) (hb : Mem.get m b = .cells r c) : Mem.get m' b = .cells r c := by rw [h.2 b hN, hb]
theorem Low.trans_ext {N : Nat} {a b c : Mem} (h : Low N a b) (h' : Ext b c) (hN : N ≤ b.size) : Low N a c := h.trans (.of_ext h' hN)
theorem Low.ints {N : Nat} {m m' : Mem} (h : Low N m m') {v : Value} {l : List Int} (hv : IntsAt m v l) (hN : m.size ≤ N) : IntsAt m' v l := by
 rcases hv with hv | ⟨b, o, cap, r, c, h1, h2, h3⟩
 ·exact .inl hv
 ·exact .inr ⟨b, o, cap, r, c, h1, h.cells (Nat.lt_of_lt_of_le (Mem.lt_of_live (by rw [h2]; rfl)) hN) h2, h3⟩
/-- What is there stays, where all below N is as it was, and N is not less than what there was. -/
theorem Low.to_ext {N : Nat} {m0 m m' : Mem} (h : Ext m0 m) (h' : Low N m m') (hN : m0.size ≤ N) : Ext m0 m' :=
 ⟨Nat.le_trans h.1 h'.1, fun b hb => (h'.2 b (by omega)).trans (h.2 b hb)⟩
end Go.AM
namespace Go.AM
theorem IntsAt.lenN {m : Mem} {v : Value} {l : List Nat} (h : IntsAt m v (ofs l)) : ∃ q cap, v = .slice q l.length cap := by
 obtain ⟨q, cap, h⟩ := h.len
 rw [ofs_length] at h; exact ⟨q, cap, h⟩
theorem IntsAt.atN {m : Mem} {v : Value} {l : List Nat} (h : IntsAt m v (ofs l)) (hl : 0 < l.length) : ∃ b o cap r c, v = .slice (some ⟨b, o, some 1⟩) l.length cap ∧ Mem.get m b = .cells r c ∧ ∀ i x, l[i]? = some x → c[o + i * 1]? = some (nv x) := by
 obtain ⟨b, o, cap, r, c, h1, h2, h3⟩ := h.at (by rw [ofs_length]; exact hl)
 rw [ofs_length] at h1
 exact ⟨b, o, cap, r, c, h1, h2, fun i x hx => h3 i _ (ofs_get hx)⟩
end Go.AM
namespace Go.AM
end Go.AM

/-! C9 -/
namespace Go.AM
theorem gP {m : Mem} {o : AObj} {b : Nat} (h : b = m.size) : Mem.get (m.push o) b = o := by rw [get_push, if_pos h]
theorem gPn {m : Mem} {o : AObj} {b : Nat} (h : b < m.size) : Mem.get (m.push o) b = Mem.get m b := by rw [get_push, if_neg (by omega)]
theorem gS {m : Mem} {o : AObj} {b i : Nat} (h : i = b) (hb : b < m.size) : Mem.get (m.setIfInBounds i o) b = o := by rw [get_set, if_pos ⟨h, hb⟩]
theorem gSn {m : Mem} {o : AObj} {b i : Nat} (h : i ≠ b) : Mem.get (m.setIfInBounds i o) b = Mem.get m b := by rw [get_set, if_neg (fun e => h e.1)]
theorem live {m : Mem} {b : Nat} {r : Bool} {c : Array Value} (h : Mem.get m b = .cells r c) : b < m.size := Mem.lt_of_live (by rw [h]; rfl)
theorem Ext.push' {m m' : Mem} (h : Ext m m') (o : AObj) : Ext m (m'.push o) := h.trans (.push m' o)
theorem Low.push' {N : Nat} {m m' : Mem} (h : Low N m m') (hN : N ≤ m'.size) (o : AObj) : Low N m (m'.push o) := h.trans (.push N hN o)
theorem push_set (m : Mem) (o o' : AObj) : (m.push o).setIfInBounds m.size o' = m.push o' := by
 apply Array.ext_getElem?
 intro i
 rw [Array.getElem?_setIfInBounds, Array.getElem?_push, Array.getElem?_push]
 by_cases h : i = m.size
 ·subst h; simp
 ·rw [if_neg (fun e => h e.symm), if_neg h, if_neg h]
section
variable {P : Program} {n : Nat} {ρ : Env} {m m' : Mem} {K : Env → Mem → Prop} {ops : Array Oper} {l : List Oper}
  {d : Option Nat} {i : Nat} {op : Op} {ty t tz : TypeId} {pos : String} {af : Array Edge} {v : Value} {x y : Operand} {a b : Nat}
/-- A new variable's first value. -/
theorem sStN {z : Array Value} (hs : szOf P t = some 1) (hx : evR ρ x = .pointer (some ⟨m.size, 0, none⟩)) (hy : evR ρ y = v) (hz : z.size = 1) (h1 : v.cells = #[v]) (h2 : Value.oneCell' v = true)
  (hk : wpOps P ops K l (updO ρ d Go.undef) (m.push (.cells true #[v]))) : wpOps P ops K (⟨d, .store t x y, ty, pos, af, none⟩ :: l) ρ (m.push (.cells true z)) := by
 refine sSt hs hx hy (gP rfl) (by omega) h1 h2 ?_
 rw [push_set]
 have : z.setIfInBounds 0 v = #[v] := by
  apply Array.ext
  ·simp [hz]
  ·intro j h3 h4; have : j = 0 := by simp at h4; omega
   subst this; simp
 rw [this]; exact hk
theorem lay_all (c d : Array Value) (h : c.size = d.size) : lay c 0 d = d := by
 apply Array.ext_getElem?
 intro i
 rw [lay_get']
 by_cases hi : i < d.size
 ·rw [if_pos (by omega)]; simp
 ·rw [if_neg (by omega), Array.getElem?_eq_none (by omega), Array.getElem?_eq_none (by omega)]
theorem sStNA {s : Nat} {z vs : Array Value} (hs : szOf P t = some s) (hx : evR ρ x = .pointer (some ⟨m.size, 0, none⟩)) (hy : evR ρ y = .agg vs) (hz : z.size = s) (hv : vs.size = s) (h2 : vs.all Value.oneCell' = true)
  (hk : wpOps P ops K l (updO ρ d Go.undef) (m.push (.cells true vs))) : wpOps P ops K (⟨d, .store t x y, ty, pos, af, none⟩ :: l) ρ (m.push (.cells true z)) := by
 refine sStA hs hx hy (gP rfl) hv (by omega) h2 ?_
 rw [push_set, lay_all _ _ (by omega)]; exact hk
/-- A struct's or an array's cells are all written. -/
theorem sStAll {bl s : Nat} {c vs : Array Value} (hs : szOf P t = some s) (hx : evR ρ x = .pointer (some ⟨bl, 0, none⟩)) (hy : evR ρ y = .agg vs) (hb : Mem.get m bl = .cells true c) (hc : c.size = s) (hv : vs.size = s) (h2 : vs.all Value.oneCell' = true)
  (hk : wpOps P ops K l (updO ρ d Go.undef) (m.setIfInBounds bl (.cells true vs))) : wpOps P ops K (⟨d, .store t x y, ty, pos, af, none⟩ :: l) ρ m := by
 refine sStA hs hx hy hb hv (by omega) h2 ?_
 rw [lay_all _ _ (by omega)]; exact hk
/-- A struct's or an array's cells are all read. -/
theorem sLdAll {bl s : Nat} {rw_ : Bool} {c : Array Value} (ht : isAggT P t = some true) (hs : szOf P t = some s) (hx : evR ρ x = .pointer (some ⟨bl, 0, none⟩)) (hb : Mem.get m bl = .cells rw_ c) (hc : c.size = s)
  (hk : wpOps P ops K l (updO ρ d (.agg c)) m) : wpOps P ops K (⟨d, .load t x, ty, pos, af, none⟩ :: l) ρ m := by
 refine sLdA ht hs hx hb (by omega) ?_
 rw [Nat.zero_add, ← hc, Array.extract_size]; exact hk
theorem sFA {f bl o : Nat} {p : Nat} (hf : aFieldAddr P t (.pointer (some ⟨bl, o, none⟩)) f = some (.pointer (some ⟨bl, p, none⟩))) (hx : evR ρ x = .pointer (some ⟨bl, o, none⟩)) (hk : wpOps P ops K l (updO ρ d (.pointer (some ⟨bl, p, none⟩))) m) :
  wpOps P ops K (⟨d, .fieldAddr t x f, ty, pos, af, none⟩ :: l) ρ m := by
 refine sP ?_ hk
 simp only [aPure, hx]; exact hf
theorem sNC {bl o : Nat} (hx : evR ρ x = .pointer (some ⟨bl, o, none⟩)) (hk : wpOps P ops K l (updO ρ d (.pointer (some ⟨bl, o, none⟩))) m) :
  wpOps P ops K (⟨d, .nilCheck x, ty, pos, af, none⟩ :: l) ρ m := by
 refine sP ?_ hk
 simp only [aPure, hx]; rfl
theorem sBuild {ps : Array (Nat × Operand)} (h : aBuild P t (ps.toList.map fun p => (p.1, evR ρ p.2)) = some v) (hk : wpOps P ops K l (updO ρ d v) m) : wpOps P ops K (⟨d, .build t ps, ty, pos, af, none⟩ :: l) ρ m := by
 refine sP ?_ hk
 simp only [aPure]; exact h
theorem sMF {f : Nat} {as cs : Array Operand} (hk : wpOps P ops K l (updO ρ d (.func (.func f) (as.map (evR ρ)) (cs.map (evR ρ)))) m) : wpOps P ops K (⟨d, .makeFunc (.func f) as cs, ty, pos, af, none⟩ :: l) ρ m :=
 sP rfl hk
end
end Go.AM
namespace Go.AM
theorem sAllocB {P : Program} {ρ : Env} {m : Mem} {K : Env → Mem → Prop} {ops : Array Oper} {l : List Oper} {d : Option Nat} {ty : TypeId} {pos : String} {af : Array Edge} {e : TypeId} {z : Value} {bl : Nat} (hb : bl = m.size) (hz : zeroOf P e = some z) (hf : z.cells.all flat0 = true)
  (hk : wpOps P ops K l (updO ρ d (.pointer (some ⟨bl, 0, none⟩))) (m.push (.cells true z.cells))) :
  wpOps P ops K (⟨d, .alloc e, ty, pos, af, none⟩ :: l) ρ m := by
 subst hb; exact sAlloc hz hf hk
theorem sBoxB {P : Program} {ρ : Env} {m : Mem} {K : Env → Mem → Prop} {ops : Array Oper} {l : List Oper} {d : Option Nat} {ty : TypeId} {pos : String} {af : Array Edge} {e : TypeId} {x : Operand} {v : Value} {bl : Nat} (hb : bl = m.size) (hx : evR ρ x = v)
  (hk : wpOps P ops K l (updO ρ d (.pointer (some ⟨bl, 0, none⟩))) (m.push (.cells true v.cells))) : wpOps P ops K (⟨d, .box e x, ty, pos, af, none⟩ :: l) ρ m := by
 subst hb; exact sBox hx hk
end Go.AM
namespace Go.AM
theorem resRs_agg {P : Program} {ρ : Env} {m : Mem} {a ty b s : Nat} {r : Bool} {c : Array Value} (ht : isAggT P ty = some true) (hs : szOf P ty = some s) (hx : ρ a = .pointer (some ⟨b, 0, none⟩)) (hb : Mem.get m b = .cells r c) (hc : c.size = s) :
  resRs P ρ m [.cell a ty] = some [.agg c] := by
 have : aLoad P m ty (ρ a) = some (.agg c) := by
  simp only [aLoad, hx, hb, ht, hs]
  rw [if_pos (by omega), Nat.zero_add, ← hc, Array.extract_size]
 simp only [resRs, resR, this]
theorem resRs_cell {P : Program} {ρ : Env} {m : Mem} {a ty b : Nat} {r : Bool} {c : Array Value} {v : Value} (ht : isAggT P ty = some false) (hx : ρ a = .pointer (some ⟨b, 0, none⟩)) (hb : Mem.get m b = .cells r c) (hc : c[0]? = some v) :
  resRs P ρ m [.cell a ty] = some [v] := by
 have : aLoad P m ty (ρ a) = some v := by
  simp only [aLoad, hx, hb, ht, hc]
 simp only [resRs, resR, this]
end Go.AM
namespace Go.AM
section
variable {P : Program} {n : Nat} {ρ : Env} {m m' : Mem} {K : Env → Mem → Prop} {ops : Array Oper} {l : List Oper}
  {d : Option Nat} {i : Nat} {op : Op} {ty t tz : TypeId} {pos : String} {af : Array Edge} {v : Value} {x y : Operand} {bl : Nat}
theorem sStNB {z : Array Value} (hb : bl = m.size) (hs : szOf P t = some 1) (hx : evR ρ x = .pointer (some ⟨bl, 0, none⟩)) (hy : evR ρ y = v) (hz : z.size = 1) (h1 : v.cells = #[v]) (h2 : Value.oneCell' v = true)
  (hk : wpOps P ops K l (updO ρ d Go.undef) (m.push (.cells true #[v]))) : wpOps P ops K (⟨d, .store t x y, ty, pos, af, none⟩ :: l) ρ (m.push (.cells true z)) := by
 subst hb; exact sStN hs hx hy hz h1 h2 hk
theorem sStNAB {s : Nat} {z vs : Array Value} (hb : bl = m.size) (hs : szOf P t = some s) (hx : evR ρ x = .pointer (some ⟨bl, 0, none⟩)) (hy : evR ρ y = .agg vs) (hz : z.size = s) (hv : vs.size = s) (h2 : vs.all Value.oneCell' = true)
  (hk : wpOps P ops K l (updO ρ d Go.undef) (m.push (.cells true vs))) : wpOps P ops K (⟨d, .store t x y, ty, pos, af, none⟩ :: l) ρ (m.push (.cells true z)) := by
 subst hb; exact sStNA hs hx hy hz hv h2 hk
end
end Go.AM
namespace Go.AM
section
variable {P : Program} {ρ : Env} {m : Mem} {K : Env → Mem → Prop} {ops : Array Oper} {l : List Oper} {d : Option Nat} {ty : TypeId} {pos : String} {af : Array Edge} {x y z : Operand} {a b c : Value} {f : Nat}
theorem sMFf (h1 : evR ρ x = a) (hk : wpOps P ops K l (updO ρ d (.func (.func f) #[a] #[])) m) : wpOps P ops K (⟨d, .makeFunc (.func f) ⟨[x]⟩ ⟨[]⟩, ty, pos, af, none⟩ :: l) ρ m := sMF (by simpa [h1] using hk)
theorem sMFc1 (h1 : evR ρ x = a) (hk : wpOps P ops K l (updO ρ d (.func (.func f) #[] #[a])) m) : wpOps P ops K (⟨d, .makeFunc (.func f) ⟨[]⟩ ⟨[x]⟩, ty, pos, af, none⟩ :: l) ρ m := sMF (by simpa [h1] using hk)
theorem sMFc2 (h1 : evR ρ x = a) (h2 : evR ρ y = b) (hk : wpOps P ops K l (updO ρ d (.func (.func f) #[] #[a, b])) m) : wpOps P ops K (⟨d, .makeFunc (.func f) ⟨[]⟩ ⟨[x, y]⟩, ty, pos, af, none⟩ :: l) ρ m := sMF (by simpa [h1, h2] using hk)
end
end Go.AM

/-! C10 -/
namespace Go.AM
section
variable {P : Program} {n : Nat} {H : Nat → List (Nat × Nat)} {Q : AExit → Env → Mem → Prop} {ρ : Env} {m m' : Mem} {K : List Ent → Env → Mem → Prop} {ops : Array Oper} {l : List Oper} {log : List Ent}
  {d : Nat} {i id : Nat} {op : Op} {ty t : TypeId} {pos : String} {af : Array Edge} {v : Value} {x y : Operand}
theorem cDrawH {l : List Oper} {hs : List (Nat × Nat)} (hh : H id = hs) (hne : hs ≠ [] ∧ hs.head?.map (·.1) ≠ some 999998) (h : wpLog P ⟨l⟩ (fun log ρ' m' => obl P ⟨l⟩ log m' hs ∧ Q .normal ρ' m') l [] ρ m) : wpC P n H (.region id ⟨l⟩ true) Q ρ m := by
 simp only [wpC, if_true, hh]
 cases hs with
 | nil => exact absurd rfl hne.1
 | cons a r =>
  have ha : a.1 ≠ 999998 := fun e => hne.2 (by simp [e])
  simp only [opsH, movesOf, restOf, if_neg ha, if_true]
  exact h
theorem wpOp_mono' {P : Program} {op : Op} {ρ : Operand → Value} {m : Mem} {K K' : Value → Mem → Prop} (h : ∀ v m, K v m → K' v m) (hw : wpOp P op ρ m K) : wpOp P op ρ m K' := by
 unfold wpOp at *
 split at hw
 ·obtain ⟨v, m', h1, h2⟩ := hw; exact ⟨v, m', h1, h _ _ h2⟩
 ·obtain ⟨v, h1, h2⟩ := hw; exact ⟨v, h1, h _ _ h2⟩
theorem readLd {m : Mem} {bl o : Nat} {rw_ : Bool} {c : Array Value} (ht : isAggT P t = some false) (hx : evR ρ x = .pointer (some ⟨bl, o, none⟩)) (hb : Mem.get m bl = .cells rw_ c) (hc : c[o]? = some v) : aRead P m (evR ρ) (.load t x) = some v := by
 simp only [aRead, aLoad, hx, hb, ht, hc]
end
end Go.AM
namespace Go.AM
section
variable {P : Program} {n : Nat} {H : Nat → List (Nat × Nat)} {Q : AExit → Env → Mem → Prop} {ρ : Env} {m m' : Mem} {K : List Ent → Env → Mem → Prop} {ops : Array Oper} {l : List Oper} {log : List Ent}
  {d : Option Nat} {i id : Nat} {op : Op} {ty t : TypeId} {pos : String} {af : Array Edge} {v : Value} {x y : Operand}
theorem lStepO (h : wpOps P ops (fun ρ' m' => ∀ e : Ent, e.m = m → wpLog P ops K l (log ++ [e]) ρ' m') [⟨d, op, ty, pos, af, none⟩] ρ m) : wpLog P ops K (⟨d, op, ty, pos, af, none⟩ :: l) log ρ m := by
 refine ⟨fun hw => wpOp_mono' (fun v m' hk => ?_) (h.1 hw), fun hn => absurd trivial hn⟩
 exact hk ⟨ρ, m, v⟩ rfl
theorem lStepLd {bl o : Nat} {rw_ : Bool} {c : Array Value} (ht : isAggT P t = some false) (hx : evR ρ x = .pointer (some ⟨bl, o, none⟩)) (hb : Mem.get m bl = .cells rw_ c) (hc : c[o]? = some v)
  (hk : ∀ e : Ent, e.m = m → e.v = v → (∀ M r c', Mem.get M bl = .cells r c' → c'[o]? = some v → aRead P M (evR e.ρ) (.load t x) = some v) → wpLog P ops K l (log ++ [e]) (updO ρ d v) m) :
  wpLog P ops K (⟨d, .load t x, ty, pos, af, none⟩ :: l) log ρ m := by
 refine ⟨fun hw => ?_, fun hn => absurd trivial hn⟩
 refine wpOp_opF (v := v) (m' := m) (opF_read rfl (readLd ht hx hb hc)) ?_
 exact hk ⟨ρ, m, v⟩ rfl rfl fun M r c' h1 h2 => readLd ht hx h1 h2
end
end Go.AM
namespace Go.AM
theorem obl_cons {P : Program} {l : List Oper} {log : List Ent} {m' : Mem} {i k : Nat} {hs : List (Nat × Nat)} {e : Ent} {o : Oper} {M : Mem} (h1 : log[i]? = some e) (h2 : l[i]? = some o) (h3 : memAt log m' k = M)
  (h : aRead P M (evR e.ρ) o.op = some e.v) (hr : obl P ⟨l⟩ log m' hs) : obl P ⟨l⟩ log m' ((i, k) :: hs) := by
 refine ⟨?_, hr⟩
 subst h3
 have h2' : (Array.mk l).toList[i]? = some o := h2
 rw [h1, h2']
 exact fun _ => .inl h
end Go.AM
namespace Go.AM
theorem obl_atE {P : Program} {l : List Oper} {log : List Ent} {m' : Mem} {i k : Nat} {hs : List (Nat × Nat)} {e e' : Ent} {o : Oper} (h1 : log[i]? = some e) (h2 : l[i]? = some o) (h3 : log[k]? = some e')
  (h : aRead P e'.m (evR e.ρ) o.op = some e.v) (hr : obl P ⟨l⟩ log m' hs) : obl P ⟨l⟩ log m' ((i, k) :: hs) :=
 obl_cons h1 h2 (by simp only [memAt, h3]) h hr
end Go.AM
namespace Go.AM
theorem obl_fl {P : Program} {l : List Oper} {log : List Ent} {m' : Mem} {hs : List (Nat × Nat)} (h : log.length ≤ 999999) (hr : obl P ⟨l⟩ log m' hs) : obl P ⟨l⟩ log m' ((999999, 0) :: hs) :=
 ⟨by rw [List.getElem?_eq_none h]; trivial, hr⟩
/-- Reads of what was there at the region's beginning, where all that comes leaves it as it is. -/
theorem obl_ext {P : Program} {l : List Oper} {log : List Ent} {m' m0 : Mem} (hE : ∀ e ∈ log, Ext m0 e.m) (hE' : Ext m0 m') : ∀ {hs : List (Nat × Nat)},
  (∀ p ∈ hs, ∀ e o, log[p.1]? = some e → l[p.1]? = some o → ∀ M, Ext m0 M → aRead P M (evR e.ρ) o.op = some e.v ∨ aPure P (evR e.ρ) o.op = some e.v) → obl P ⟨l⟩ log m' hs
 | [], _ => trivial
 | (i, k) :: hs, h => by
  refine ⟨?_, obl_ext hE hE' fun p hp => h p (by simp [hp])⟩
  split
  ·rename_i e o h1 h2
   intro _
   refine h (i, k) (by simp) e o h1 h2 _ ?_
   unfold memAt
   cases hk : log[k]? with
   | none => exact hE'
   | some e' => exact hE e' (List.mem_of_getElem? hk)
  ·trivial
end Go.AM

/-! C11 -/
namespace Go.AM
theorem aBound_nv {a n : Nat} (h : a ≤ n) : aBound (nv a) n = some a := by
 simp [aBound]; omega
theorem aSlice_lo {P : Program} {m : Mem} {t e : TypeId} {b o len cap i : Nat} (ht : undOf P t = some (.slice e)) (hs : szOf P e = some 1) (hi : i ≤ len) (hc : i < cap) :
  aSlice P m t (.slice (some ⟨b, o, some 1⟩) len cap) (some (nv i)) none none = some (.slice (some ⟨b, o + i * 1, some 1⟩) (len - i) (cap - i)) := by
 simp only [aSlice, ht, hs, if_true, aBounds, aBound_nv hi, Option.map_some, cut, Option.isSome_none]
 rw [if_neg (by simp), if_neg (by omega)]
theorem aSlice_hi {P : Program} {m : Mem} {t e : TypeId} {b o len cap h : Nat} (ht : undOf P t = some (.slice e)) (hs : szOf P e = some 1) (hh : h ≤ cap) :
  aSlice P m t (.slice (some ⟨b, o, some 1⟩) len cap) none (some (nv h)) none = some (.slice (some ⟨b, o, some 1⟩) h cap) := by
 simp only [aSlice, ht, hs, if_true, aBounds, aBound_nv hh, Option.map_some, cut, Option.isSome_none]
 rw [if_neg (by simp), if_neg (by omega)]
 simp
theorem aSlice_arr {P : Program} {m : Mem} {t e : TypeId} {b o n : Nat} {r : Bool} {c : Array Value} (ht : undOf P t = some (.array n e)) (hs : szOf P e = some 1) (hb : Mem.get m b = .cells r c) (hn : o + n ≤ c.size) (hn2 : n ≤ 1099511627776 := by decide) :
  aSlice P m t (.pointer (some ⟨b, o, none⟩)) none none none = some (.slice (some ⟨b, o, some 1⟩) n n) := by
 simp only [aSlice, ht, hs, hb, Nat.zero_add]
 rw [if_pos ⟨by omega, hn2⟩]
 simp only [aBounds, Option.map_some, cut, Option.isSome_none]
 rw [if_neg (by simp), if_neg (by omega)]
 simp
theorem zeroCells_nv (n : Nat) : Builtin.zeroCells #[nv 0] n = Array.replicate n (nv 0) := by
 apply Array.ext
 ·simp [Builtin.zeroCells]
 ·intro i h1 h2
  simp [Builtin.zeroCells, Nat.mod_one]
section
variable {P : Program} {ρ : Env} {m : Mem} {K : Env → Mem → Prop} {ops : Array Oper} {l : List Oper} {d : Option Nat} {ty t e : TypeId} {pos : String} {af : Array Edge} {x y z : Operand} {a b c : Value}
theorem sSlLo {i : Operand} {b o len cap k : Nat} (ht : undOf P t = some (.slice e)) (hs : szOf P e = some 1) (hx : evR ρ x = .slice (some ⟨b, o, some 1⟩) len cap) (hi : evR ρ i = nv k) (h1 : k ≤ len) (h2 : k < cap)
  (hk : wpOps P ops K l (updO ρ d (.slice (some ⟨b, o + k * 1, some 1⟩) (len - k) (cap - k))) m) : wpOps P ops K (⟨d, .slice t x (some i) none none, ty, pos, af, none⟩ :: l) ρ m := by
 refine sO (opF_read rfl ?_) hk
 simp only [aRead, hx, Option.map_some, hi, Option.map_none]
 exact aSlice_lo ht hs h1 h2
theorem sSlHi {i : Operand} {b o len cap k : Nat} (ht : undOf P t = some (.slice e)) (hs : szOf P e = some 1) (hx : evR ρ x = .slice (some ⟨b, o, some 1⟩) len cap) (hi : evR ρ i = nv k) (h1 : k ≤ cap)
  (hk : wpOps P ops K l (updO ρ d (.slice (some ⟨b, o, some 1⟩) k cap)) m) : wpOps P ops K (⟨d, .slice t x none (some i) none, ty, pos, af, none⟩ :: l) ρ m := by
 refine sO (opF_read rfl ?_) hk
 simp only [aRead, hx, Option.map_some, hi, Option.map_none]
 exact aSlice_hi ht hs h1
theorem sSlArr {b o n : Nat} {r : Bool} {c : Array Value} (ht : undOf P t = some (.array n e)) (hs : szOf P e = some 1) (hx : evR ρ x = .pointer (some ⟨b, o, none⟩)) (hb : Mem.get m b = .cells r c) (hn : o + n ≤ c.size)
  (hk : wpOps P ops K l (updO ρ d (.slice (some ⟨b, o, some 1⟩) n n)) m) (hn2 : n ≤ 1099511627776 := by decide) : wpOps P ops K (⟨d, .slice t x none none none, ty, pos, af, none⟩ :: l) ρ m := by
 refine sO (opF_read rfl ?_) hk
 simp only [aRead, hx, Option.map_none]
 exact aSlice_arr ht hs hb hn hn2
/-- 'clear' of a slice of numbers. -/
theorem sClr {b o n cap : Nat} {c : Array Value} (ht : undOf P t = some (.slice e)) (hz : zeroOf P e = some (nv 0)) (hx : evR ρ x = .slice (some ⟨b, o, some 1⟩) n cap) (hb : Mem.get m b = .cells true c) (hn : o + n ≤ c.size)
  (hk : wpOps P ops K l (updO ρ d (.tuple #[])) (m.setIfInBounds b (.cells true (lay c o (Array.replicate n (nv 0)))))) : wpOps P ops K (⟨d, .call ⟨.builtin .clear, ⟨[x]⟩, ⟨[t]⟩⟩, ty, pos, af, none⟩ :: l) ρ m := by
 have hcl : (nv 0).cells = #[nv 0] := rfl
 by_cases h0 : n = 0
 ·subst h0
  have : lay c o (Array.replicate 0 (nv 0)) = c := by
   apply Array.ext_getElem?; intro i; rw [lay_get']; simp; omega
  rw [this] at hk
  have hm : m.setIfInBounds b (.cells true c) = m := by
   apply Array.ext_getElem?
   intro i
   rw [Array.getElem?_setIfInBounds]
   by_cases e : b = i
   ·subst e
    have hlt : b < m.size := Mem.lt_of_live (by rw [hb]; rfl)
    rw [if_pos rfl, if_pos hlt]
    simp [Mem.get, Array.getD_eq_getD_getElem?, hlt] at hb
    simp [hlt, hb]
   ·rw [if_neg e]
  rw [hm] at hk
  refine sO (opF_eff rfl rfl ?_) hk
  simp only [aEff, hx, aClear, ht, if_true]
 ·refine sO (opF_eff rfl rfl ?_) hk
  simp only [aEff, hx, aClear, ht, if_neg h0, hz, hb, hcl]
  rw [zeroCells_nv, if_pos ⟨by simp, by kernel_rfl, by simp; omega, by rw [Array.all_eq_true]; intro i hi; simp; rfl⟩]
end
end Go.AM
namespace Go.AM
end Go.AM

/-! C12 -/
namespace Go.AM
theorem setParams_fr {n p : Nat} {ρ : Env} {x : Value} (hp : p < n) : setParams (fr n ρ) #[p] #[x] = fr n (upd ρ p x) := by
 have : setParams (fr n ρ) #[p] #[x] = (fr n ρ).setIfInBounds p x := by simp [setParams]
 rw [this]
 apply Array.ext_getElem?
 intro i
 simp only [fr, Array.getElem?_setIfInBounds, Array.getElem?_ofFn, Array.size_ofFn]
 by_cases e : p = i
 ·subst e; simp [hp, upd_same]
 ·rw [if_neg e]
  by_cases hi : i < n
  ·simp [hi, upd_ne _ _ (fun h => e h.symm)]
  ·simp [hi]
section
variable {P : Program} {n : Nat} {H : Nat → List (Nat × Nat)} {Q : AExit → Env → Mem → Prop} {ρ : Env} {m m' : Mem}
/-- The record of a round. -/
def recOf (n : Nat) (ρ : Env) (p : Nat) (as bd : Code) : ALoop := { state := .ready, pending := none, tmps := fr n ρ, params := #[p], assign := as, body := bd }
def busyOf (n : Nat) (ρ : Env) (p : Nat) (as bd : Code) : ALoop := { recOf n ρ p as bd with state := .busy }
theorem round_of {p : Nat} {as bd : Code} {l : Nat} {x : Value} (hm : P.follows .mixedOrders = true)
  (hok : (okC P.globals.size n as && okH H as && okC P.globals.size n bd && okH H bd && decide (p < n)) = true) (hl : Mem.get m l = .loop (recOf n ρ p as bd)) {K : Mem → Prop}
  (h : wpC P n H as (fun e ρ2 m2 => e = .normal ∧ Mem.get m2 l = .loop (recOf n ρ p as bd) ∧ wpC P n H bd (fun e4 ρ4 m4 => e4 = .normal ∧ Mem.get m4 l = .loop (busyOf n ρ p as bd) ∧ K (m4.setIfInBounds l (.loop (recOf n ρ p as bd)))) ρ2 (m2.setIfInBounds l (.loop (busyOf n ρ p as bd)))) (upd ρ p x) m) :
  ∃ m'', ARound P l #[x] m (.bool true) m'' ∧ K m'' := by
 simp only [Bool.and_eq_true, decide_eq_true_eq] at hok
 obtain ⟨⟨⟨⟨h1, h2⟩, h3⟩, h4⟩, h5⟩ := hok
 obtain ⟨e, ρ2, m2, a2, rfl, g2, w2⟩ := wpC_sound hm as h1 h2 _ _ _ h
 obtain ⟨e4, ρ4, m4, a4, rfl, g4, k4⟩ := wpC_sound hm bd h3 h4 _ _ _ w2
 refine ⟨_, ⟨recOf n ρ p as bd, fr n ρ2, m2, recOf n ρ p as bd, .normal, fr n ρ4, m4, busyOf n ρ p as bd, hl, rfl, ?_, g2, rfl, a4, g4, rfl, rfl⟩, k4⟩
 have : setParams (recOf n ρ p as bd).tmps (recOf n ρ p as bd).params #[x] = fr n (upd ρ p x) := setParams_fr h5
 rw [this]; exact a2
theorem cRange {f : Operand} {p : Nat} {as bd : Code} {g : FuncId} {a cap : Array Value} (hX : okX P.globals.size n f = true) (hv : evR ρ f = .func (.func g) a cap) (hk : callable P g = true)
  (h : ∃ v m2, ACalls P g (a ++ #[.func (.yield m.size) #[] #[]] ++ cap) (m.push (.loop (recOf n ρ p as bd))) v m2 ∧ Mem.get m2 m.size = .loop (recOf n ρ p as bd) ∧ Q .normal ρ (m2.setIfInBounds m.size .dead)) :
  wpC P n H (.rangeFunc f #[p] as bd) Q ρ m := by
 obtain ⟨v, m2, h1, h2, h3⟩ := h
 refine ⟨.normal, _, ?_, h3⟩
 refine ACd.rangeFunc (g := g) (a := a) (cap := cap) (v := v) (L := recOf n ρ p as bd) (e := .normal) ?_ ?_ hk h1 h2 (fun h => by cases h) rfl
 ·have := hX; simp only [okX, Bool.and_eq_true] at this; exact this.1
 ·rw [ev_fr hX]; exact hv
theorem sYield1 {K : Env → Mem → Prop} {ops : Array Oper} {l : List Oper} {d : Option Nat} {ty : TypeId} {pos : String} {af : Array Edge} {v : Value} {f x : Operand} {tys : Array TypeId} {lp : Nat} {b : Value}
  (hv : evR ρ f = .func (.yield lp) #[] #[]) (h1 : evR ρ x = b) (h : ARound P lp #[b] m v m') (hK : wpOps P ops K l (updO ρ d v) m') :
  wpOps P ops K (⟨d, .call ⟨.value f, ⟨[x]⟩, tys⟩, ty, pos, af, none⟩ :: l) ρ m :=
 sO' ⟨v, m', .yield _ f lp rfl rfl hv (by simpa [h1] using h), hK⟩
end
end Go.AM
namespace Go.AM
/-- Ranging over a function; what the record of the rounds is does not matter. -/
theorem cRangeJ {P : Program} {n : Nat} {H : Nat → List (Nat × Nat)} {Q : AExit → Env → Mem → Prop} {ρ : Env} {m : Mem} {f : Operand} {p : Nat} {as bd : Code} {g : FuncId} {a cap : Array Value}
  (hX : okX P.globals.size n f = true) (hm : P.follows .mixedOrders = true) (hok : (okC P.globals.size n as && okH H as && okC P.globals.size n bd && okH H bd && decide (p < n)) = true)
  (hv : evR ρ f = .func (.func g) a cap) (hk : callable P g = true)
  (h : ∀ R B : ALoop, (∀ (m' : Mem) (x : Value) (K : Mem → Prop), Mem.get m' m.size = .loop R →
    wpC P n H as (fun e ρ2 m2 => e = .normal ∧ Mem.get m2 m.size = .loop R ∧ wpC P n H bd (fun e4 ρ4 m4 => e4 = .normal ∧ Mem.get m4 m.size = .loop B ∧ K (m4.setIfInBounds m.size (.loop R))) ρ2 (m2.setIfInBounds m.size (.loop B))) (upd ρ p x) m' →
    ∃ m'', ARound P m.size #[x] m' (.bool true) m'' ∧ K m'') →
   ∃ v m2, ACalls P g (a ++ #[.func (.yield m.size) #[] #[]] ++ cap) (m.push (.loop R)) v m2 ∧ Mem.get m2 m.size = .loop R ∧ Q .normal ρ (m2.setIfInBounds m.size .dead)) :
  wpC P n H (.rangeFunc f #[p] as bd) Q ρ m :=
 cRange hX hv hk (h _ (busyOf n ρ p as bd) fun m' x K hl hw => round_of hm hok hl hw)
theorem OwnF.up {N : Nat} {m m' : Mem} {v : Value} {l : List Int} (h : OwnF N m v l) (hu : ∀ b, N ≤ b → b < m.size → Mem.get m' b = Mem.get m b) : OwnF N m' v l := by
 rcases h with h | ⟨b, cap, c, h1, h2, h3, h4⟩
 ·exact .inl h
 ·exact .inr ⟨b, cap, c, h1, h2, by rw [hu b h2 (Mem.lt_of_live (by rw [h3]; rfl)), h3], h4⟩
end Go.AM

/-! C13 -/
namespace Go.AM
section
variable {P : Program} {n : Nat} {ρ : Env} {m m' : Mem} {K : Env → Mem → Prop} {ops : Array Oper} {l : List Oper}
  {d : Option Nat} {i : Nat} {op : Op} {ty t tz : TypeId} {pos : String} {af : Array Edge} {v : Value} {x y : Operand}
end
section
variable {P : Program} {n : Nat} {ρ : Env} {m m' : Mem} {K : List Ent → Env → Mem → Prop} {ops : Array Oper} {l : List Oper} {log : List Ent}
  {d : Option Nat} {i : Nat} {op : Op} {ty t tz : TypeId} {pos : String} {af : Array Edge} {v : Value} {x y : Operand}
end
theorem obl_pure {P : Program} {l : List Oper} {log : List Ent} {m' : Mem} {i k : Nat} {hs : List (Nat × Nat)} {e : Ent} {o : Oper} (h1 : log[i]? = some e) (h2 : l[i]? = some o)
  (h : aPure P (evR e.ρ) o.op = some e.v) (hr : obl P ⟨l⟩ log m' hs) : obl P ⟨l⟩ log m' ((i, k) :: hs) := by
 refine ⟨?_, hr⟩
 have h2' : (Array.mk l).toList[i]? = some o := h2
 rw [h1, h2']
 exact fun _ => .inr h
/-- All but one place is as it was. -/
def Only (b : Nat) (m m' : Mem) : Prop := m'.size = m.size ∧ ∀ c, c ≠ b → Mem.get m' c = Mem.get m c
theorem Only.trans {b : Nat} {m m' m'' : Mem} (h : Only b m m') (h' : Only b m' m'') : Only b m m'' := ⟨h'.1.trans h.1, fun c hc => (h'.2 c hc).trans (h.2 c hc)⟩
theorem Only.set (b : Nat) (m : Mem) (o : AObj) : Only b m (m.setIfInBounds b o) := ⟨by simp, fun c hc => gSn hc.symm⟩
/-- Below N all but one place is as it was. -/
def LowX (N b : Nat) (m m' : Mem) : Prop := m.size ≤ m'.size ∧ ∀ c, c < N → c ≠ b → Mem.get m' c = Mem.get m c
theorem LowX.trans {N b : Nat} {m m' m'' : Mem} (h : LowX N b m m') (h' : LowX N b m' m'') : LowX N b m m'' := ⟨Nat.le_trans h.1 h'.1, fun c h1 h2 => (h'.2 c h1 h2).trans (h.2 c h1 h2)⟩
theorem Low.x {N b : Nat} {m m' : Mem} (h : Low N m m') : LowX N b m m' := ⟨h.1, fun c h1 _ => h.2 c h1⟩
theorem Only.x {N b : Nat} {m m' : Mem} (h : Only b m m') : LowX N b m m' := ⟨by rw [h.1]; exact Nat.le_refl _, fun c _ h2 => h.2 c h2⟩
theorem OwnF.only {N b : Nat} {m m' : Mem} {v : Value} {l : List Int} (h : OwnF N m v l) (ho : Only b m m') (hb : b < N) : OwnF N m' v l := h.up fun c hc _ => ho.2 c (by omega)
end Go.AM

/-! C14 -/
namespace Go.AM
/-- Two slices do not lie in one block. -/
def Apart (v u : Value) : Prop := ∀ b o s n c b' o' s' n' c', v = .slice (some ⟨b, o, s⟩) n c → u = .slice (some ⟨b', o', s'⟩) n' c' → b ≠ b'
theorem Apart.symm {v u : Value} (h : Apart v u) : Apart u v := fun b o s n c b' o' s' n' c' e1 e2 e => h b' o' s' n' c' b o s n c e2 e1 e.symm
theorem Apart.nil (u : Value) : Apart (.slice none 0 0) u := fun b o s n c b' o' s' n' c' e1 _ => by cases e1
structure Own2 (N : Nat) (m : Mem) (v : Value) (l : List Int) (u : Value) (k : List Int) : Prop where
  fst : OwnF N m v l
  snd : OwnF N m u k
  apart : Apart v u
theorem Own2.symm {N : Nat} {m : Mem} {v u : Value} {l k : List Int} (h : Own2 N m v l u k) : Own2 N m u k v l := ⟨h.2, h.1, h.3.symm⟩
theorem Own2.nil (N : Nat) (m : Mem) : Own2 N m (.slice none 0 0) [] (.slice none 0 0) [] := ⟨.nil _ _, .nil _ _, .nil _⟩
theorem Own2.up {N : Nat} {m m' : Mem} {v u : Value} {l k : List Int} (h : Own2 N m v l u k) (hu : ∀ b, N ≤ b → b < m.size → Mem.get m' b = Mem.get m b) : Own2 N m' v l u k := ⟨h.1.up hu, h.2.up hu, h.3⟩
theorem Own2.only {N b : Nat} {m m' : Mem} {v u : Value} {l k : List Int} (h : Own2 N m v l u k) (ho : Only b m m') (hb : b < N) : Own2 N m' v l u k := h.up fun c hc _ => ho.2 c (by omega)
end Go.AM

/-! C15 -/
namespace Go.AM
/-- A row that may be read, growing or not. -/
def RowAt (m : Mem) (b : Nat) (c : Array Value) : Prop := (∃ r, Mem.get m b = .cells r c) ∨ Mem.get m b = .grow c
theorem RowAt.lt {m : Mem} {b : Nat} {c : Array Value} (h : RowAt m b c) : b < m.size := by
 rcases h with ⟨r, h⟩ | h
 ·exact Mem.lt_of_live (by rw [h]; rfl)
 ·exact Mem.lt_of_live (by rw [h]; rfl)
section
variable {P : Program} {n : Nat} {ρ : Env} {m m' : Mem} {K : Env → Mem → Prop} {ops : Array Oper} {l : List Oper}
  {d : Option Nat} {i : Nat} {op : Op} {ty t xt tz e : TypeId} {pos : String} {af : Array Edge} {v : Value} {x y : Operand}
end
end Go.AM

/-! C16 -/
namespace Go.AM
section
variable {P : Program} {n : Nat} {H : Nat → List (Nat × Nat)} {Q : AExit → Env → Mem → Prop} {ρ : Env} {m m' : Mem}
/-- The record of the rounds behind one that has come to an end. -/
def doneOf (n : Nat) (ρ : Env) (p : Nat) (as bd : Code) (e : AExit) : ALoop := { recOf n ρ p as bd with state := if e.jump.isNone then .ready else .done, pending := e.jump }
theorem round_ofX {p : Nat} {as bd : Code} {l : Nat} {x : Value} (hm : P.follows .mixedOrders = true)
  (hok : (okC P.globals.size n as && okH H as && okC P.globals.size n bd && okH H bd && decide (p < n)) = true) (hl : Mem.get m l = .loop (recOf n ρ p as bd)) {K : AExit → Mem → Prop}
  (h : wpC P n H as (fun e ρ2 m2 => e = .normal ∧ Mem.get m2 l = .loop (recOf n ρ p as bd) ∧ wpC P n H bd (fun e4 ρ4 m4 => Mem.get m4 l = .loop (busyOf n ρ p as bd) ∧ K e4 (m4.setIfInBounds l (.loop (doneOf n ρ p as bd e4)))) ρ2 (m2.setIfInBounds l (.loop (busyOf n ρ p as bd)))) (upd ρ p x) m) :
  ∃ e m'', ARound P l #[x] m (.bool e.jump.isNone) m'' ∧ K e m'' := by
 simp only [Bool.and_eq_true, decide_eq_true_eq] at hok
 obtain ⟨⟨⟨⟨h1, h2⟩, h3⟩, h4⟩, h5⟩ := hok
 obtain ⟨e, ρ2, m2, a2, rfl, g2, w2⟩ := wpC_sound hm as h1 h2 _ _ _ h
 obtain ⟨e4, ρ4, m4, a4, g4, k4⟩ := wpC_sound hm bd h3 h4 _ _ _ w2
 refine ⟨e4, _, ⟨recOf n ρ p as bd, fr n ρ2, m2, recOf n ρ p as bd, e4, fr n ρ4, m4, busyOf n ρ p as bd, hl, rfl, ?_, g2, rfl, a4, g4, rfl, rfl⟩, k4⟩
 have : setParams (recOf n ρ p as bd).tmps (recOf n ρ p as bd).params #[x] = fr n (upd ρ p x) := setParams_fr h5
 rw [this]; exact a2
/-- Ranging over a function; the rounds may leave it: D tells the record behind each end. -/
theorem cRangeX {f : Operand} {p : Nat} {as bd : Code} {g : FuncId} {a cap : Array Value}
  (hX : okX P.globals.size n f = true) (hm : P.follows .mixedOrders = true) (hok : (okC P.globals.size n as && okH H as && okC P.globals.size n bd && okH H bd && decide (p < n)) = true)
  (hv : evR ρ f = .func (.func g) a cap) (hk : callable P g = true)
  (h : ∀ (R B : ALoop) (D : AExit → ALoop), D .normal = R → (∀ (m' : Mem) (x : Value) (K : AExit → Mem → Prop), Mem.get m' m.size = .loop R →
    wpC P n H as (fun e ρ2 m2 => e = .normal ∧ Mem.get m2 m.size = .loop R ∧ wpC P n H bd (fun e4 ρ4 m4 => Mem.get m4 m.size = .loop B ∧ K e4 (m4.setIfInBounds m.size (.loop (D e4)))) ρ2 (m2.setIfInBounds m.size (.loop B))) (upd ρ p x) m' →
    ∃ e m'', ARound P m.size #[x] m' (.bool e.jump.isNone) m'' ∧ K e m'') →
   ∃ v m2 e, ACalls P g (a ++ #[.func (.yield m.size) #[] #[]] ++ cap) (m.push (.loop R)) v m2 ∧ Mem.get m2 m.size = .loop (D e) ∧ Q e ρ (m2.setIfInBounds m.size .dead)) :
  wpC P n H (.rangeFunc f #[p] as bd) Q ρ m := by
 obtain ⟨v, m2, e, h1, h2, h3⟩ := h _ (busyOf n ρ p as bd) (doneOf n ρ p as bd) rfl fun m' x K hl hw => round_ofX hm hok hl hw
 refine ⟨e, _, ?_, h3⟩
 refine ACd.rangeFunc (g := g) (a := a) (cap := cap) (v := v) (L := doneOf n ρ p as bd e) (e := e) ?_ ?_ hk h1 h2 ?_ rfl
 ·have := hX; simp only [okX, Bool.and_eq_true] at this; exact this.1
 ·rw [ev_fr hX]; exact hv
 ·unfold doneOf
  cases e.jump.isNone <;> simp
end
end Go.AM
