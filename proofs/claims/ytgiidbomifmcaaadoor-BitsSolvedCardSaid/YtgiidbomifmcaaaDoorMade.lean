/- Contracts of what the outright laws make and count with: stores of bytes, made rows; what bits answers for right rows. -/
import Derived.Test.YtgiidbomifmcaaaDoorWalks
import Derived.Test.YtgiidbomifmcaaaDoorBitsC
import Derived.Test.YtgiidbomifmcaaaDoorPlainC
import Derived.Test.YtgiidbomifmcaaaDoorPlainD
set_option linter.unusedVariables false
set_option linter.unusedSimpArgs false
/-! ### C13 -/
namespace Go.AM
set_option linter.unusedVariables false
section
variable {P : Program} {n : Nat} {ρ : Env} {m m' : Mem} {K : Env → Mem → Prop} {ops : Array Oper} {l : List Oper}
  {d : Option Nat} {i : Nat} {op : Op} {ty t tz : TypeId} {pos : String} {af : Array Edge} {v : Value} {x y : Operand}
theorem sShf {o : BinOp} {k k' : IntKind} {a b : Int} (ho : o = .shl ∨ o = .shr) (hx : evR ρ x = .int k a) (hy : evR ρ y = .int k' b) (h : aInt o k a b = some v) (hk : wpOps P ops K l (updO ρ d v) m) :
    wpOps P ops K (⟨d, .binOp o t x y tz, ty, pos, af, none⟩ :: l) ρ m := by
  refine sP (v := v) ?_ hk
  simp only [aPure, hx, hy, aBin, h, if_pos ho]
/-- A number that is not below 0 is shifted right by a number of any kind. -/
theorem sShrN {k' : IntKind} {a b : Nat} (hx : evR ρ x = nv a) (hy : evR ρ y = .int k' (Int.ofNat b)) (h : a < 9223372036854775808) (hk : wpOps P ops K l (updO ρ d (nv (a >>> b))) m) :
    wpOps P ops K (⟨d, .binOp .shr t x y tz, ty, pos, af, none⟩ :: l) ρ m := sShf (.inr rfl) hx hy (aInt_shr h) hk
theorem wrap32 (z : Int) : ∃ a : Nat, a < 4294967296 ∧ IntKind.u32.wrap z = Int.ofNat a := by
  refine ⟨(z % 4294967296).toNat, by omega, ?_⟩
  simp [IntKind.wrap, IntKind.bits, IntKind.signed]; omega
def wraps : BinOp → Bool
  | .add | .sub | .mul | .and | .or | .xor => true
  | _ => false
/-- What comes out is some number of 32 bits: it does not matter which. -/
theorem sU32 {o : BinOp} {a b : Int} (ho : wraps o = true) (hx : evR ρ x = .int .u32 a) (hy : evR ρ y = .int .u32 b) (hk : ∀ z : Nat, z < 4294967296 → wpOps P ops K l (updO ρ d (.int .u32 (Int.ofNat z))) m) :
    wpOps P ops K (⟨d, .binOp o t x y tz, ty, pos, af, none⟩ :: l) ρ m := by
  obtain ⟨w, hw⟩ : ∃ w, aInt o .u32 a b = some (.int .u32 (IntKind.u32.wrap w)) := by
    cases o <;> first | (cases ho; done) | exact ⟨_, rfl⟩
  obtain ⟨z, hz, e⟩ := wrap32 w
  rw [e] at hw
  exact sBinI hx hy hw (hk z hz)
theorem sShl32 {k' : IntKind} {a : Int} {b : Nat} (hx : evR ρ x = .int .u32 a) (hy : evR ρ y = .int k' (Int.ofNat b)) (hk : ∀ z : Nat, z < 4294967296 → wpOps P ops K l (updO ρ d (.int .u32 (Int.ofNat z))) m) :
    wpOps P ops K (⟨d, .binOp .shl t x y tz, ty, pos, af, none⟩ :: l) ρ m := by
  have hw : aInt .shl .u32 a (Int.ofNat b) = some (.int .u32 (IntKind.u32.wrap (a * 2 ^ min (Int.ofNat b).toNat IntKind.u32.bits))) := by
    have hb : ¬ Int.ofNat b < 0 := by simp
    simp only [aInt, if_neg hb]
  obtain ⟨z, hz, e⟩ := wrap32 (a * 2 ^ min (Int.ofNat b).toNat IntKind.u32.bits)
  rw [e] at hw
  exact sShf (.inl rfl) hx hy hw (hk z hz)
theorem aInt_shr32 {a b : Nat} (hb : b ≤ 32) : aInt .shr .u32 (Int.ofNat a) (Int.ofNat b) = some (.int .u32 (Int.ofNat (a >>> b))) := by
  have hb' : ¬ Int.ofNat b < 0 := by simp
  simp only [aInt, if_neg hb']
  have e : (Int.ofNat a).fdiv (2 ^ min (Int.ofNat b).toNat IntKind.u32.bits) = Int.ofNat (a / 2 ^ b) := by
    have : min (Int.ofNat b).toNat IntKind.u32.bits = b := by show min b 32 = b; omega
    rw [this]
    rw [show (2 : Int) ^ b = Int.ofNat (2 ^ b) by simp]
    rw [Int.fdiv_eq_ediv_of_nonneg _ (show (0 : Int) ≤ Int.ofNat (2 ^ b) from Int.natCast_nonneg _)]
    rfl
  rw [e, Nat.shiftRight_eq_div_pow]
theorem sShr32 {k' : IntKind} {a b : Nat} (hx : evR ρ x = .int .u32 (Int.ofNat a)) (hy : evR ρ y = .int k' (Int.ofNat b)) (hb : b ≤ 32) (hk : wpOps P ops K l (updO ρ d (.int .u32 (Int.ofNat (a >>> b)))) m) :
    wpOps P ops K (⟨d, .binOp .shr t x y tz, ty, pos, af, none⟩ :: l) ρ m := sShf (.inr rfl) hx hy (aInt_shr32 hb) hk
/-- 'append', where its outcome is known. -/
theorem sAppX {xt : TypeId} {v w v' : Value} (hx : evR ρ x = v) (hy : evR ρ y = w) (h : aAppend P m t xt v w = some (v', m')) (hk : wpOps P ops K l (updO ρ d v') m') :
    wpOps P ops K (⟨d, .call ⟨.builtin .append, ⟨[x, y]⟩, ⟨[t, xt]⟩⟩, ty, pos, af, none⟩ :: l) ρ m := by
  refine sO (opF_eff rfl rfl ?_) hk
  simp only [aEff, hx, hy, h]
end
section
variable {P : Program} {n : Nat} {ρ : Env} {m m' : Mem} {K : List Ent → Env → Mem → Prop} {ops : Array Oper} {l : List Oper} {log : List Ent}
  {d : Option Nat} {i : Nat} {op : Op} {ty t tz : TypeId} {pos : String} {af : Array Edge} {v : Value} {x y : Operand}
theorem lStepP (h : aPure P (evR ρ) op = some v) (hk : ∀ e : Ent, e.m = m → e.v = v → aPure P (evR e.ρ) op = some v → wpLog P ops K l (log ++ [e]) (updO ρ d v) m) : wpLog P ops K (⟨d, op, ty, pos, af, none⟩ :: l) log ρ m := by
  refine ⟨fun hw => ?_, fun hn => absurd trivial hn⟩
  exact wpOp_opF (v := v) (m' := m) (opF_pure h) (hk ⟨ρ, m, v⟩ rfl rfl h)
end
theorem obl_pure {P : Program} {l : List Oper} {log : List Ent} {m' : Mem} {i k : Nat} {hs : List (Nat × Nat)} {e : Ent} {o : Oper} (h1 : log[i]? = some e) (h2 : l[i]? = some o)
    (h : aPure P (evR e.ρ) o.op = some e.v) (hr : obl P ⟨l⟩ log m' hs) : obl P ⟨l⟩ log m' ((i, k) :: hs) := by
  refine ⟨?_, hr⟩
  have h2' : (Array.mk l).toList[i]? = some o := h2
  rw [h1, h2']
  exact fun _ => .inr h
/-- All but one place is as it was. -/
def Only (b : Nat) (m m' : Mem) : Prop := m'.size = m.size ∧ ∀ c, c ≠ b → Mem.get m' c = Mem.get m c
theorem Only.refl (b : Nat) (m : Mem) : Only b m m := ⟨rfl, fun _ _ => rfl⟩
theorem Only.trans {b : Nat} {m m' m'' : Mem} (h : Only b m m') (h' : Only b m' m'') : Only b m m'' := ⟨h'.1.trans h.1, fun c hc => (h'.2 c hc).trans (h.2 c hc)⟩
theorem Only.set (b : Nat) (m : Mem) (o : AObj) : Only b m (m.setIfInBounds b o) := ⟨by simp, fun c hc => gSn hc.symm⟩
/-- Below N all but one place is as it was. -/
def LowX (N b : Nat) (m m' : Mem) : Prop := m.size ≤ m'.size ∧ ∀ c, c < N → c ≠ b → Mem.get m' c = Mem.get m c
theorem LowX.refl (N b : Nat) (m : Mem) : LowX N b m m := ⟨Nat.le_refl _, fun _ _ _ => rfl⟩
theorem LowX.trans {N b : Nat} {m m' m'' : Mem} (h : LowX N b m m') (h' : LowX N b m' m'') : LowX N b m m'' := ⟨Nat.le_trans h.1 h'.1, fun c h1 h2 => (h'.2 c h1 h2).trans (h.2 c h1 h2)⟩
theorem Low.x {N b : Nat} {m m' : Mem} (h : Low N m m') : LowX N b m m' := ⟨h.1, fun c h1 _ => h.2 c h1⟩
theorem Only.x {N b : Nat} {m m' : Mem} (h : Only b m m') : LowX N b m m' := ⟨by rw [h.1]; exact Nat.le_refl _, fun c _ h2 => h.2 c h2⟩
theorem LowX.le {N N' b : Nat} {m m' : Mem} (h : LowX N b m m') (hN : N' ≤ N) : LowX N' b m m' := ⟨h.1, fun c h1 h2 => h.2 c (by omega) h2⟩
theorem OwnF.only {N b : Nat} {m m' : Mem} {v : Value} {l : List Int} (h : OwnF N m v l) (ho : Only b m m') (hb : b < N) : OwnF N m' v l := h.up fun c hc _ => ho.2 c (by omega)
theorem Only.ext {N : Nat} {b : Nat} {m m' : Mem} {v : Value} {l : List Int} (ho : Only b m m') (h : OwnF N m v l) (hb : b < N) : OwnF N m' v l := h.only ho hb
/-- What is there, from N0 to N, is as it was: so is a slice that lies there. -/
theorem OwnF.at_most {N M : Nat} {m m' : Mem} {v : Value} {l : List Int} (h : OwnF N m v l) (hM : m.size ≤ M) (hh : ∀ c, N ≤ c → c < M → Mem.get m' c = Mem.get m c) : OwnF N m' v l :=
  h.up fun c h1 h2 => hh c h1 (by omega)
end Go.AM

/-! ### C14 -/
namespace Go.AM
set_option linter.unusedVariables false
/-- Two slices do not lie in one block. -/
def Apart (v u : Value) : Prop := ∀ b o s n c b' o' s' n' c', v = .slice (some ⟨b, o, s⟩) n c → u = .slice (some ⟨b', o', s'⟩) n' c' → b ≠ b'
theorem Apart.symm {v u : Value} (h : Apart v u) : Apart u v := fun b o s n c b' o' s' n' c' e1 e2 e => h b' o' s' n' c' b o s n c e2 e1 e.symm
theorem Apart.nil (u : Value) : Apart (.slice none 0 0) u := fun b o s n c b' o' s' n' c' e1 _ => by cases e1
structure Own2 (N : Nat) (m : Mem) (v : Value) (l : List Int) (u : Value) (k : List Int) : Prop where
  fst : OwnF N m v l
  snd : OwnF N m u k
  apart : Apart v u
theorem Own2.symm {N : Nat} {m : Mem} {v u : Value} {l k : List Int} (h : Own2 N m v l u k) : Own2 N m u k v l := ⟨h.2, h.1, h.3.symm⟩
theorem Own2.nil (N : Nat) (m : Mem) : Own2 N m (.slice none 0 0) [] (.slice none 0 0) [] := ⟨.nil _ _, .nil _ _, .nil _⟩
theorem Own2.up {N : Nat} {m m' : Mem} {v u : Value} {l k : List Int} (h : Own2 N m v l u k) (hu : ∀ b, N ≤ b → b < m.size → Mem.get m' b = Mem.get m b) : Own2 N m' v l u k := ⟨h.1.up hu, h.2.up hu, h.3⟩
theorem Own2.ext {N : Nat} {m m' : Mem} {v u : Value} {l k : List Int} (h : Own2 N m v l u k) (he : Ext m m') : Own2 N m' v l u k := h.up fun b _ hb => he.2 b hb
theorem Own2.only {N b : Nat} {m m' : Mem} {v u : Value} {l k : List Int} (h : Own2 N m v l u k) (ho : Only b m m') (hb : b < N) : Own2 N m' v l u k := h.up fun c hc _ => ho.2 c (by omega)

theorem own2_append {P : Program} {t xt : TypeId} {N : Nat} {m : Mem} {v x u : Value} {l r k : List Int} (hT : AppT P t xt) (h2 : Own2 N m v l u k) (hx : IntsAt m x r) (hN : N ≤ m.size) (hl : l.length + r.length ≤ 1000000000) :
    ∃ v' m', aAppend P m t xt v x = some (v', m') ∧ Own2 N m' v' (l ++ r) u k ∧ Low N m m' := by
  obtain ⟨v', m', ha, hO, hL⟩ := own_append hT h2.1 hx hN hl
  refine ⟨v', m', ha, ?_, hL⟩
  obtain ⟨e, ux, z, h1, h2', h3, h4, h5, h6, h7⟩ := hT.e
  obtain ⟨hv, hu, hap⟩ := h2
  unfold aAppend at ha
  simp only [h1, h2', h3, h4, h5, h7, hx.lenOf, first_ints hx] at ha
  rw [if_pos ⟨by omega, h6, by rw [cellsI_size]; omega, cellsI_one r⟩] at ha
  rcases hv with ⟨rfl, rfl⟩ | ⟨b, cap, c, rfl, g2, g3, g4, g5, g6⟩
  · by_cases h0 : r.length = 0
    · simp only [h0, if_true] at ha
      injection ha with ha; injection ha with ha1 ha2; subst ha1 ha2
      exact ⟨hO, hu, .nil _⟩
    · simp only [if_neg h0] at ha
      rw [if_pos ⟨by omega, by omega⟩] at ha
      injection ha with ha; injection ha with ha1 ha2; subst ha1 ha2
      refine ⟨hO, hu.ext (.push _ _), fun b o s n c b' o' s' n' c' e1 e2 e => ?_⟩
      injection e1 with e1; injection e1 with e1; injection e1 with e1
      rcases hu with ⟨_, rfl⟩ | ⟨b2, cap2, c2, rfl, _, q3, _⟩
      · cases e2
      · injection e2 with e2; injection e2 with e2; injection e2 with e2
        have := Mem.lt_of_live (m := m) (b := b2) (by rw [q3]; rfl)
        omega
  · have hb : b < m.size := Mem.lt_of_live (by rw [g3]; rfl)
    simp only [if_true] at ha
    by_cases h0 : r.length = 0
    · simp only [h0, if_true] at ha
      injection ha with ha; injection ha with ha1 ha2; subst ha1 ha2
      exact ⟨hO, hu, hap⟩
    · simp only [if_neg h0, g3] at ha
      have hne : ∀ b2 o2 s2 n2 c2, u = .slice (some ⟨b2, o2, s2⟩) n2 c2 → b ≠ b2 := fun b2 o2 s2 n2 c2 e => hap _ _ _ _ _ _ _ _ _ _ rfl e
      by_cases hc : l.length + r.length ≤ cap
      · rw [if_pos hc, if_pos (by omega)] at ha
        injection ha with ha; injection ha with ha1 ha2; subst ha1 ha2
        refine ⟨hO, ?_, fun b1 o s n c b' o' s' n' c' e1 e2 => ?_⟩
        · rcases hu with hu | ⟨b2, cap2, c2, rfl, q2, q3, q4⟩
          · exact .inl hu
          · exact .inr ⟨b2, cap2, c2, rfl, q2, by rw [gSn (hne _ _ _ _ _ rfl)]; exact q3, q4⟩
        · injection e1 with e1; injection e1 with e1; injection e1 with e1
          rw [← e1]; exact hne _ _ _ _ _ e2
      · rw [if_neg hc, if_pos ⟨trivial, by omega, by omega, by omega⟩] at ha
        injection ha with ha; injection ha with ha1 ha2; subst ha1 ha2
        refine ⟨hO, ?_, fun b1 o s n c b' o' s' n' c' e1 e2 e => ?_⟩
        · rcases hu with hu | ⟨b2, cap2, c2, rfl, q2, q3, q4⟩
          · exact .inl hu
          · exact .inr ⟨b2, cap2, c2, rfl, q2, by rw [gPn (by simpa using live q3), gSn (hne _ _ _ _ _ rfl)]; exact q3, q4⟩
        · injection e1 with e1; injection e1 with e1; injection e1 with e1
          rcases hu with ⟨_, rfl⟩ | ⟨b2, cap2, c2, rfl, _, q3, _⟩
          · cases e2
          · injection e2 with e2; injection e2 with e2; injection e2 with e2
            have := live q3
            omega
end Go.AM

/-! ### E37 -/
namespace Go.AM
open Go.Proofs
set_option maxRecDepth 100000
set_option linter.unusedVariables false
set_option linter.unusedSimpArgs false
theorem call31 : callable Tryd.prog 31 = true := by kernel_rfl
theorem call32 : callable Tryd.prog 32 = true := by kernel_rfl
theorem call33 : callable Tryd.prog 33 = true := by kernel_rfl
theorem call34 : callable Tryd.prog 34 = true := by kernel_rfl
theorem call35 : callable Tryd.prog 35 = true := by kernel_rfl
theorem call36 : callable Tryd.prog 36 = true := by kernel_rfl
theorem call37 : callable Tryd.prog 37 = true := by kernel_rfl
theorem call41 : callable Tryd.prog 41 = true := by kernel_rfl
theorem call69 : callable Tryd.prog 69 = true := by kernel_rfl
theorem call84 : callable Tryd.prog 84 = true := by kernel_rfl
theorem call85 : callable Tryd.prog 85 = true := by kernel_rfl
theorem call87 : callable Tryd.prog 87 = true := by kernel_rfl
theorem xorB {a b : Bool} : aBin Tryd.prog .neq 4 (.bool a) (.bool b) = some (.bool (a ^^ b)) := by cases a <;> cases b <;> kernel_rfl
def oddB (x : Nat) : Bool := decide (parity x = 1)
theorem oddB_step {y : Nat} (h : 0 < y) (o : Bool) : ((o ^^ decide (y &&& 1 = 1)) ^^ oddB (y >>> 1)) = (o ^^ oddB y) := by
  unfold oddB
  rw [parity_pos h, Nat.and_one_is_mod, show y >>> 1 = y / 2 by rw [Nat.shiftRight_eq_div_pow], dec_xor (Nat.mod_lt _ (by omega)) (parity_lt _), Bool.xor_assoc]

theorem okf34 : okF Tryd.prog H0 34 14 = true := by kernel_rfl
theorem spec_odd {m : Mem} {x : Nat} (hx : x < 2 ^ 62) : ∃ v m', ACalls Tryd.prog 34 #[nv x] m v m' ∧ (v = .bool (oddB x) ∧ m' = m) := by
  refine wpF (args := [_]) mixed okf34 (fn := Tryd.f34) rfl rfl rfl (by simp) ?_
  refine cSeq ?_
  refine cRegion ?_
  refine sAs (v := .bool _) rfl ?_
  refine sNil (kSeqN ?_)
  refine cSeq ?_
  refine cRegion ?_
  refine sAs (v := .bool false) rfl ?_
  refine sNil (kSeqN ?_)
  refine cSeq ?_
  refine cBlock ?_
  refine wpC_loop (fun k ρ m' => ∃ y o, k = y ∧ y ≤ x ∧ (o ^^ oddB y) = oddB x ∧ m' = m ∧ Has ρ [(0, nv y), (3, .bool o)]) ⟨x, false, rfl, Nat.le_refl _, by simp, rfl, rfl, rfl, trivial⟩ ?_
  rintro k ρ _ ⟨y, o, rfl, hy, hp, rfl, hh⟩
  rw [hh.env]; clear hh
  refine cSeq ?_   -- seq 3
  refine cSeq ?_
  refine cRegion ?_
  refine sMv (v := nv _) rfl ?_
  refine sBin rfl rfl (aInt_gtr (b := 0)) ?_
  refine sNil (kSeqN ?_)
  refine cCond rfl (fun c0 => ?_) (fun c0 => ?_)
  ·
    refine cSkip (kSeqN ?_)
    refine cSeq ?_
    refine cBlock ?_
    refine cRegion ?_
    refine sMv (v := .bool o) rfl ?_
    refine sMv (v := nv _) rfl ?_
    refine sBin rfl rfl (aInt_and (b := 1) (by omega)) ?_
    refine sBin rfl rfl (aInt_eql (b := 1)) ?_
    refine sBinA rfl rfl xorB ?_
    refine sAs (v := .bool _) rfl ?_
    refine sNil (kBlkN (kSeqN ?_))
    refine cRegion ?_
    refine sMv (v := nv _) rfl ?_
    refine sShrN (b := 1) rfl rfl (by omega) ?_
    refine sAs (v := nv _) rfl ?_
    refine sNil (kSeqN ?_)
    refine ⟨_, ?_, k >>> 1, _, rfl, ?_, ?_, rfl, rfl, rfl, trivial⟩
    · rw [Nat.shiftRight_eq_div_pow]; omega
    · rw [Nat.shiftRight_eq_div_pow]; omega
    · rw [oddB_step c0, hp]
  ·
    refine cExit (kSeqE (kSeqE (kBlkS (kSeqN ?_))))
    refine cSeq ?_
    refine cRegion ?_
    refine sMv (v := .bool o) rfl ?_
    refine sAs (v := .bool _) rfl ?_
    refine sNil (kSeqN ?_)
    refine cRet ?_
    obtain rfl : k = 0 := by omega
    refine ⟨.inr rfl, _, rfl, ?_, rfl⟩
    rw [← hp]; show Value.bool o = .bool (o ^^ oddB 0); rw [oddB, parity_zero]; simp

theorem okf69 : okF Tryd.prog H0 69 13 = true := by kernel_rfl
theorem spec_ones {m : Mem} {x : Nat} (hx : x < 2 ^ 62) : ∃ v m', ACalls Tryd.prog 69 #[nv x] m v m' ∧ (v = nv (popc x) ∧ m' = m) := by
  refine wpF (args := [_]) mixed okf69 (fn := Tryd.f69) rfl rfl rfl (by simp) ?_
  refine cSeq ?_
  refine cRegion ?_
  refine sAs (v := nv 0) rfl ?_
  refine sNil (kSeqN ?_)
  refine cSeq ?_
  refine cRegion ?_
  refine sAs (v := nv 0) rfl ?_
  refine sNil (kSeqN ?_)
  refine cSeq ?_
  refine cBlock ?_
  refine wpC_loop (fun k ρ m' => ∃ y o, k = y ∧ y ≤ x ∧ o + popc y = popc x ∧ m' = m ∧ Has ρ [(0, nv y), (3, nv o)]) ⟨x, 0, rfl, Nat.le_refl _, by simp, rfl, rfl, rfl, trivial⟩ ?_
  rintro k ρ _ ⟨y, o, rfl, hy, hp, rfl, hh⟩
  rw [hh.env]; clear hh
  refine cSeq ?_   -- seq 3
  refine cSeq ?_
  refine cRegion ?_
  refine sMv (v := nv _) rfl ?_
  refine sBin rfl rfl (aInt_gtr (b := 0)) ?_
  refine sNil (kSeqN ?_)
  refine cCond rfl (fun c0 => ?_) (fun c0 => ?_)
  ·
    have hpl := popc_le x
    have h1 : k &&& 1 = k % 2 := Nat.and_one_is_mod k
    refine cSkip (kSeqN ?_)
    refine cSeq ?_
    refine cBlock ?_
    refine cRegion ?_
    refine sMv (v := nv _) rfl ?_
    refine sMv (v := nv _) rfl ?_
    refine sBin rfl rfl (aInt_and (b := 1) (by omega)) ?_
    refine sBin rfl rfl (aInt_add (by omega)) ?_
    refine sAs (v := nv _) rfl ?_
    refine sNil (kBlkN (kSeqN ?_))
    refine cRegion ?_
    refine sMv (v := nv _) rfl ?_
    refine sShrN (b := 1) rfl rfl (by omega) ?_
    refine sAs (v := nv _) rfl ?_
    refine sNil (kSeqN ?_)
    refine ⟨_, ?_, k >>> 1, _, rfl, ?_, ?_, rfl, rfl, rfl, trivial⟩
    · rw [Nat.shiftRight_eq_div_pow]; omega
    · rw [Nat.shiftRight_eq_div_pow]; omega
    · rw [← hp, popc_pos c0, h1, show k >>> 1 = k / 2 by rw [Nat.shiftRight_eq_div_pow]]; omega
  ·
    refine cExit (kSeqE (kSeqE (kBlkS (kSeqN ?_))))
    refine cSeq ?_
    refine cRegion ?_
    refine sMv (v := nv _) rfl ?_
    refine sAs (v := nv _) rfl ?_
    refine sNil (kSeqN ?_)
    refine cRet ?_
    obtain rfl : k = 0 := by omega
    refine ⟨.inr rfl, _, rfl, ?_, rfl⟩
    rw [← hp]; show nv o = nv (o + popc 0); rfl

theorem bit_one (w i : Nat) : (w >>> i &&& 1 = 1) ↔ w.testBit i = true := by
  rw [Nat.testBit, Nat.and_one_is_mod, Nat.one_and_eq_mod_two]; simp

theorem okf37 : okF Tryd.prog H0 37 25 = true := by kernel_rfl
theorem spec_total {m : Mem} {a : Value} {l : List Nat} {w : Nat} (ha : IntsAt m a (ofs l)) (hl : l.length < 1000000) (hx : ∀ x ∈ l, x < 2 ^ 62) (hw : w < 2 ^ 62) : ∃ v m', ACalls Tryd.prog 37 #[a, nv w] m v m' ∧ (v = nv (total l w) ∧ m' = m) := by
  obtain ⟨q, cap, rfl⟩ := ha.lenN
  refine wpF (args := [_, _]) mixed okf37 (fn := Tryd.f37) rfl rfl rfl (by simp) ?_
  refine cSeq ?_
  refine cRegion ?_
  refine sAs (v := nv 0) rfl ?_
  refine sNil (kSeqN ?_)
  refine cSeq ?_
  refine cRegion ?_
  refine sAs (v := nv 0) rfl ?_
  refine sNil (kSeqN ?_)
  refine cSeq ?_
  refine cSeq ?_
  refine cRegion ?_
  refine sMv (v := .slice _ _ _) rfl ?_
  refine sLen T22 rfl ?_
  refine sMv (v := nv 0) rfl ?_
  refine sNil (kSeqN ?_)
  refine cBlock ?_
  refine wpC_loop (fun k ρ m' => ∃ i, k = l.length - i ∧ i ≤ l.length ∧ m' = m ∧ Has ρ [(1, nv w), (5, nv (total (l.take i) w)), (8, .slice q l.length cap), (9, nv l.length), (10, nv i)]) ⟨0, rfl, by omega, rfl, rfl, rfl, rfl, rfl, rfl, trivial⟩ ?_
  rintro k ρ _ ⟨i, rfl, hi, rfl, hh⟩
  rw [hh.env]; clear hh
  refine cSeq ?_
  refine cRegion ?_
  refine sBin rfl rfl (aInt_lss) ?_
  refine sNil (kSeqN ?_)
  refine cSeq ?_   -- seq 5
  refine cCond rfl (fun c0 => ?_) (fun c0 => ?_)
  ·
    obtain ⟨b1, o1, p1, r1, c1, e1, g1, x1⟩ := ha.atN (by omega)
    obtain ⟨rfl, rfl, rfl⟩ := e1
    have hli : l[i]? = some (l.getD i 0) := by rw [List.getD_eq_getElem?_getD, List.getElem?_eq_getElem c0]; rfl
    have hx1 := hx _ (getD_mem c0)
    have ht := total_lt (fun x hx' => hx x (List.mem_of_mem_take (i := i) hx')) w
    have hs := total_take_succ l i w
    refine cSkip (kSeqN ?_)
    refine cSeq ?_
    refine cBlock ?_
    refine cSeq ?_
    refine cRegion ?_
    refine sMv (v := nv _) rfl ?_
    refine sIx T22 S3 rfl rfl (by omega) ?_
    refine sLd (v := nv (l.getD i 0)) A3 rfl g1 (x1 _ _ hli) ?_
    refine sAs (v := nv _) rfl ?_
    refine sAs (v := nv _) rfl ?_
    refine sNil (kSeqN ?_)
    refine cSeq ?_
    refine cRegion ?_
    refine sMv (v := nv _) rfl ?_
    refine sMv (v := nv _) rfl ?_
    refine sBin rfl rfl (aInt_shr (by omega)) ?_
    refine sBin (b := 1) rfl rfl (aInt_and ⟨by have := Nat.shiftRight_le w i; omega, by omega⟩) ?_
    refine sBin rfl rfl (aInt_eql (b := 1)) ?_
    refine sNil (kSeqN ?_)
    refine cCond rfl (fun c1 => ?_) (fun c1 => ?_)
    ·
      refine cRegion ?_
      refine sMv (v := nv _) rfl ?_
      refine sMv (v := nv _) rfl ?_
      refine sBin rfl rfl (aInt_xor (by omega)) ?_
      refine sAs (v := nv _) rfl ?_
      refine sNil (kBlkN (kSeqN ?_))
      refine cRegion ?_
      refine sBin rfl rfl (aInt_add (b := 1) (by omega)) ?_
      refine sMv (v := nv _) rfl ?_
      refine sNil (kSeqN ?_)
      refine ⟨_, ?_, i + 1, rfl, by omega, rfl, rfl, ?_, rfl, rfl, rfl, trivial⟩
      · omega
      · rw [hs, if_pos ((bit_one w i).1 c1)]; rfl
    ·
      refine cSkip (kBlkN (kSeqN ?_))
      refine cRegion ?_
      refine sBin rfl rfl (aInt_add (b := 1) (by omega)) ?_
      refine sMv (v := nv _) rfl ?_
      refine sNil (kSeqN ?_)
      refine ⟨_, ?_, i + 1, rfl, by omega, rfl, rfl, ?_, rfl, rfl, rfl, trivial⟩
      · omega
      · rw [hs, if_neg (fun h => c1 ((bit_one w i).2 h)), Nat.xor_zero]; rfl
  ·
    refine cExit (kSeqE (kSeqE (kBlkS (kSeqN ?_))))
    refine cSeq ?_
    refine cRegion ?_
    refine sMv (v := nv _) rfl ?_
    refine sAs (v := nv _) rfl ?_
    refine sNil (kSeqN ?_)
    refine cRet ?_
    obtain rfl : i = l.length := by omega
    refine ⟨.inr rfl, _, rfl, ?_, rfl⟩
    rw [List.take_length]; rfl

theorem okf87 : okF Tryd.prog H0 87 12 = true := by kernel_rfl
theorem spec_rows1 {m : Mem} {b : Nat} {x : Int} {n : Nat} {r : Bool} (hb : Mem.get m b = .cells r #[nv n]) (hn : n ≤ 24) : ACalls Tryd.prog 87 #[.int .i64 x, .pointer (some ⟨b, 0, none⟩)] m (.bool (decide (¬ (0 ≤ x ∧ x < 2 ^ n)))) m := by
  refine ACalls.callee ?_
  refine wpF (args := [_, _]) mixed okf87 (fn := Tryd.f87) rfl rfl rfl (by simp) ?_
  refine cSeq ?_
  refine cRegion ?_
  refine sAs (v := .bool _) rfl ?_
  refine sNil (kSeqN ?_)
  refine cSeq ?_
  refine cRegion ?_
  refine sMv (v := .int .i64 x) rfl ?_
  refine sBinI (v := .bool (decide (x < 0))) rfl rfl rfl ?_
  refine sMv (v := .bool _) rfl ?_
  by_cases h1 : x < 0
  ·
    rw [decide_eq_true h1]
    refine sGno (q' := true) rfl rfl (by simp) ?_
    refine sGno (q' := true) rfl rfl (by simp) ?_
    refine sGno (q' := true) rfl rfl (by simp) ?_
    refine sGno (q' := true) rfl rfl (by simp) ?_
    refine sP (v := .bool _) rfl ?_
    refine sAs (v := .bool _) rfl ?_
    refine sNil (kSeqN ?_)
    refine cRet ?_
    refine ⟨.inr rfl, _, rfl, ?_, rfl⟩
    have : ¬ (0 ≤ x ∧ x < 2 ^ n) := by omega
    rw [decide_eq_true this]; rfl
  ·
    rw [decide_eq_false h1]
    have h2n : 2 ^ n ≤ 2 ^ 24 := Nat.pow_le_pow_right (by omega) hn
    refine sG rfl rfl ?_
    refine sMv (v := .int .i64 x) rfl ?_
    refine sG rfl rfl ?_
    refine sLd (v := nv n) A3 rfl (by simp (disch := first | omega | (simp only [Array.size_push, Array.size_setIfInBounds]; done) | (simp only [Array.size_push, Array.size_setIfInBounds]; omega)) only [gP, gPn, gS, gSn, hb]; try rfl) rfl ?_
    refine sG rfl rfl ?_
    refine sBin rfl rfl (aInt_shl (a := 1) (by omega)) ?_
    rw [Nat.shiftLeft_eq, Nat.one_mul]
    refine sG rfl rfl ?_
    refine sBinI (v := .bool (decide (Int.ofNat (2 ^ n) ≤ x))) rfl rfl rfl ?_
    refine sP (v := .bool _) rfl ?_
    refine sAs (v := .bool _) rfl ?_
    refine sNil (kSeqN ?_)
    refine cRet ?_
    refine ⟨.inr rfl, _, rfl, ?_, rfl⟩
    show Value.bool _ = _
    congr 1
    refine decide_eq_decide.2 ?_
    have : (Int.ofNat (2 ^ n) : Int) = 2 ^ n := by simp
    omega

theorem okf41 : okF Tryd.prog H0 41 9 = true := by kernel_rfl
theorem spec_rows {m : Mem} {a : Value} {l : List Nat} {n : Nat} (ha : IntsAt m a (ofs l)) (hl : l.length < 1000000) (hn : n ≤ 24) (hx : ∀ x ∈ l, x < 2 ^ n) : ∃ v m', ACalls Tryd.prog 41 #[a, nv n] m v m' ∧ (v = .bool true ∧ Ext m m') := by
  refine wpF (args := [_, _]) mixed okf41 (fn := Tryd.f41) rfl rfl rfl (by simp) ?_
  refine cSeq ?_
  refine cRegion ?_
  refine sBox (v := nv n) rfl ?_
  refine sAs (v := .bool _) rfl ?_
  refine sNil (kSeqN ?_)
  refine cSeq ?_
  refine cRegion ?_
  obtain ⟨q, cap, rfl⟩ := ha.lenN
  refine sMv (v := .slice q l.length cap) rfl ?_
  refine sMFc1 rfl ?_
  have hany : ((ofs l).any fun x => decide (¬ (0 ≤ x ∧ x < (2 : Int) ^ n))) = false := by
    rw [List.any_eq_false]
    intro z hz
    obtain ⟨y, hy, rfl⟩ := List.mem_map.1 hz
    have := hx y hy
    have e : ((2 ^ n : Nat) : Int) = 2 ^ n := by simp
    simp; omega
  have h7 := spec_ContainsFunc (m := m.push (.cells true #[nv n])) (g := 87) (cp := #[.pointer (some ⟨m.size, 0, none⟩)]) (p := fun x => decide (¬ (0 ≤ x ∧ x < (2 : Int) ^ n))) (ha.ext (.push _ _)) (by rw [ofs_length]; omega) call87 (fun x hx => spec_rows1 (gP rfl) hn)
  rw [hany] at h7
  refine sCall2 rfl call44 rfl rfl h7 ?_
  refine sP (v := .bool true) rfl ?_
  refine sAs (v := .bool _) rfl ?_
  refine sNil (kSeqN ?_)
  refine cRet ?_
  exact ⟨.inr rfl, _, rfl, rfl, .push _ _⟩

/-- A slice of bytes that lies from N0 to N. -/
def BytesIn (N0 N : Nat) (m : Mem) (v : Value) (l : List Int) : Prop :=
  (l = [] ∧ ∃ q c, v = .slice q 0 c) ∨ ∃ b o cap r c, v = .slice (some ⟨b, o, some 1⟩) l.length cap ∧ N0 ≤ b ∧ b < N ∧ Mem.get m b = .cells r c ∧ ∀ i x, l[i]? = some x → c[o + i * 1]? = some (.int .u8 x)
theorem BytesIn.keep {N0 N : Nat} {m m' : Mem} {v : Value} {l : List Int} (h : BytesIn N0 N m v l) (hh : ∀ c, N0 ≤ c → c < N → Mem.get m' c = Mem.get m c) : BytesIn N0 N m' v l := by
  rcases h with h | ⟨b, o, cap, r, c, h1, h2, h3, h4, h5⟩
  · exact .inl h
  · exact .inr ⟨b, o, cap, r, c, h1, h2, h3, by rw [hh b h2 h3]; exact h4, h5⟩
/-- A store of bytes, that has been asked no more than k times: it lies from N0 to N. -/
def StoreAt (N0 N : Nat) (m : Mem) (b k : Nat) : Prop :=
  N ≤ b + 1 ∧ b < N ∧ N ≤ m.size ∧ ∃ bs nx st l, Mem.get m b = .cells true #[bs, nv nx, .int .u32 (Int.ofNat st)] ∧ nx ≤ k ∧ st < 4294967296 ∧ BytesIn N0 b m bs l ∧ l.length ≤ 300
theorem StoreAt.keep {N0 N : Nat} {m m' : Mem} {b k : Nat} (h : StoreAt N0 N m b k) (hN : N0 ≤ b) (hs : m.size ≤ m'.size) (hh : ∀ c, N0 ≤ c → c < N → Mem.get m' c = Mem.get m c) : StoreAt N0 N m' b k := by
  obtain ⟨h1, h2, h3, bs, nx, st, l, g1, g2, g3, g4, g5⟩ := h
  exact ⟨h1, h2, by omega, bs, nx, st, l, by rw [hh b (by omega) h2]; exact g1, g2, g3, g4.keep fun c a1 a2 => hh c a1 (by omega), g5⟩
end Go.AM

/-! ### E38 -/
namespace Go.AM
open Go.Proofs
set_option maxRecDepth 100000
set_option linter.unusedVariables false
set_option linter.unusedSimpArgs false
theorem F75_0 {b o : Nat} : aFieldAddr Tryd.prog 75 (.pointer (some ⟨b, o, none⟩)) 0 = some (.pointer (some ⟨b, o, none⟩)) := by kernel_rfl
theorem F75_1 {b o : Nat} : aFieldAddr Tryd.prog 75 (.pointer (some ⟨b, o, none⟩)) 1 = some (.pointer (some ⟨b, o + 1, none⟩)) := by kernel_rfl
theorem F75_2 {b o : Nat} : aFieldAddr Tryd.prog 75 (.pointer (some ⟨b, o, none⟩)) 2 = some (.pointer (some ⟨b, o + 2, none⟩)) := by kernel_rfl
theorem B75 {q : Option Addr} {n c : Nat} {a : Int} : aBuild Tryd.prog 75 [(0, .slice q n c), (2, .int .u32 a)] = some (.agg #[.slice q n c, nv 0, .int .u32 a]) := by kernel_rfl
theorem eq35 {q : Option Addr} {n c : Nat} : aBin Tryd.prog .eql 35 (.slice q n c) (.slice none 0 0) = some (.bool (decide (q = none))) := by
  cases q <;> kernel_rfl
theorem Z5 : zeroOf Tryd.prog 5 = some (.int .u8 0) := by kernel_rfl
theorem U73 : undOf Tryd.prog 73 = some (.int .u32) := by kernel_rfl
theorem U5 : undOf Tryd.prog 5 = some (.int .u8) := by kernel_rfl
theorem conv5_73 {a : Int} : ∃ z : Nat, z < 4294967296 ∧ aConv Tryd.prog 5 73 (.int .u8 a) = some (.int .u32 (Int.ofNat z)) := by
  obtain ⟨z, hz, e⟩ := wrap32 a
  exact ⟨z, hz, by simp only [aConv, U5, U73, e]⟩
theorem conv73_3 {a : Nat} (h : a < 4294967296) : aConv Tryd.prog 73 3 (.int .u32 (Int.ofNat a)) = some (nv a) := by
  simp only [aConv, U73, U3]
  rw [wrapN (by omega)]
theorem min300 {a : Nat} : aFold aMin2 (nv a) [nv 300] = some (nv (min a 300)) := by
  simp only [aFold, aMin2, if_true]
  congr 2
  split <;> simp at * <;> omega
/-- A slice of bytes that may be read. -/
def BytesAt (m : Mem) (v : Value) (l : List Int) : Prop :=
  (l = [] ∧ (v = .slice none 0 0 ∨ ∃ b o, v = .slice (some ⟨b, o, none⟩) 0 0)) ∨
  ∃ b o cap r c, v = .slice (some ⟨b, o, some 1⟩) l.length cap ∧ l.length ≤ cap ∧ Mem.get m b = .cells r c ∧ ∀ i x, l[i]? = some x → c[o + i]? = some (.int .u8 x)
theorem BytesAt.ext {m m' : Mem} {v : Value} {l : List Int} (h : BytesAt m v l) (he : Ext m m') : BytesAt m' v l := by
  rcases h with h | ⟨b, o, cap, r, c, h1, h2, h3, h4⟩
  · exact .inl h
  · exact .inr ⟨b, o, cap, r, c, h1, h2, he.cells h3, h4⟩
theorem BytesAt.len {m : Mem} {v : Value} {l : List Int} (h : BytesAt m v l) : ∃ q cap, v = .slice q l.length cap := by
  rcases h with ⟨rfl, rfl | ⟨b, o, rfl⟩⟩ | ⟨b, o, cap, r, c, rfl, _, _⟩
  · exact ⟨_, _, rfl⟩
  · exact ⟨_, _, rfl⟩
  · exact ⟨_, _, rfl⟩
theorem BytesIn.len {N0 N : Nat} {m : Mem} {v : Value} {l : List Int} (h : BytesIn N0 N m v l) : ∃ q cap, v = .slice q l.length cap := by
  rcases h with ⟨rfl, q, c, rfl⟩ | ⟨b, o, cap, r, c, rfl, _⟩
  · exact ⟨_, _, rfl⟩
  · exact ⟨_, _, rfl⟩
def cellsU (l : List Int) : Array Value := (l.map (Value.int .u8)).toArray
theorem cellsU_get {l : List Int} {i : Nat} : (cellsU l)[i]? = (l[i]?).map (Value.int .u8) := by simp [cellsU]
theorem cellsU_size (l : List Int) : (cellsU l).size = l.length := by simp [cellsU]
theorem cellsU_one (l : List Int) : (cellsU l).all Value.oneCell' = true := by
  rw [Array.all_eq_true]
  intro i hi
  have : (cellsU l)[i]? = some (cellsU l)[i] := Array.getElem?_eq_getElem hi
  rw [cellsU_get] at this
  obtain ⟨x, _, hx⟩ := Option.map_eq_some_iff.1 this
  rw [← hx]; rfl
theorem first_bytes {m : Mem} {x : Value} {r : List Int} (h : BytesAt m x r) : aFirst m 1 r.length x = some (cellsU r) := by
  unfold aFirst
  by_cases h0 : r.length = 0
  · rw [if_pos h0]
    have : r = [] := List.length_eq_zero_iff.1 h0
    subst this; rfl
  · rw [if_neg h0]
    rcases h with ⟨rfl, _⟩ | ⟨b, o, cap, rw_, c, rfl, _, h2, h3⟩
    · exact absurd rfl h0
    have hlast := h3 (r.length - 1) _ (List.getElem?_eq_getElem (by omega))
    have hsz : o + (r.length - 1) < c.size := (Array.getElem?_eq_some_iff.1 hlast).1
    simp only [h2]
    rw [if_pos (by omega)]
    congr 1
    apply Array.ext_getElem?
    intro i
    rw [cellsU_get, Array.getElem?_extract]
    by_cases hi : i < r.length
    · rw [if_pos (by omega), List.getElem?_eq_getElem hi]
      exact h3 i _ (List.getElem?_eq_getElem hi)
    · rw [if_neg (by omega), List.getElem?_eq_none (by omega)]; rfl
theorem cut_bytes {m : Mem} {v : Value} {l : List Int} {k : Nat} (h : BytesAt m v l) (hk : k ≤ l.length) : ∃ v2, aSlice Tryd.prog m 35 v none (some (nv k)) none = some v2 ∧ BytesAt m v2 (l.take k) := by
  rcases h with ⟨rfl, rfl | ⟨b, o, rfl⟩⟩ | ⟨b, o, cap, r, c, rfl, h1, h2, h3⟩
  · obtain rfl : k = 0 := by simpa using hk
    exact ⟨.slice none 0 0, by simp only [aSlice, T35, S5, aBounds]; rfl, .inl ⟨rfl, .inl rfl⟩⟩
  · obtain rfl : k = 0 := by simpa using hk
    exact ⟨.slice (some ⟨0, 0, none⟩) 0 0, by simp only [aSlice, T35, S5, aBounds]; rfl, .inl ⟨rfl, .inr ⟨_, _, rfl⟩⟩⟩
  · refine ⟨_, aSlice_hi T35 S5 (by omega), .inr ⟨b, o, cap, r, c, by rw [List.length_take, Nat.min_eq_left hk], by rw [List.length_take]; omega, h2, fun i x hx => ?_⟩⟩
    rw [List.getElem?_take] at hx
    split at hx
    · exact h3 i x hx
    · cases hx
theorem app_bytes {m : Mem} {v : Value} {l : List Int} (h : BytesAt (m.push (.cells true #[])) v l) (hl : l.length ≤ 1000) :
    ∃ v' m', aAppend Tryd.prog (m.push (.cells true #[])) 35 35 (.slice (some ⟨m.size, 0, some 1⟩) 0 0) v = some (v', m') ∧ BytesIn m.size m'.size m' v' l ∧ Ext m m' := by
  have hb : bytesOf' Tryd.prog 5 = some 1 := by kernel_rfl
  obtain ⟨q, cap, rfl⟩ := h.len
  have hal : aLenOf (.slice q l.length cap) = some l.length := rfl
  have h35 : isIntT (.slice 5) = false := rfl
  have hz : (Value.int .u8 0).cells.size = 1 := rfl
  have hg : Mem.get (m.push (.cells true #[])) m.size = .cells true #[] := gP rfl
  unfold aAppend
  simp only [T35, S5, Z5, hb, h35, hal, first_bytes h]
  rw [if_pos ⟨by omega, hz, by rw [cellsU_size]; omega, cellsU_one l⟩]
  simp only [if_true]
  by_cases h0 : l.length = 0
  · simp only [h0, if_true]
    exact ⟨_, _, rfl, .inl ⟨List.length_eq_zero_iff.1 h0, _, _, rfl⟩, .push _ _⟩
  · simp only [if_neg h0, hg]
    rw [if_neg (by omega), if_pos ⟨trivial, by simp, by omega, by omega⟩]
    refine ⟨_, _, rfl, .inr ⟨m.size + 1, 0, l.length, true, _, by simp, by omega, by simp, gP (by simp), fun i x hx => ?_⟩, by simp; omega, fun b hb => ?_⟩
    · have : (cellsU l)[i]? = some (.int .u8 x) := by rw [cellsU_get, hx]; rfl
      simpa using this
    · rw [gPn (by simp; omega), gSn (by omega), gPn hb]

theorem okf84 : okF Tryd.prog H0 84 8 = true := by kernel_rfl
theorem spec_CloneB {m : Mem} {a : Value} {l : List Int} (ha : BytesAt m a l) (hl : l.length ≤ 1000) : ∃ v m', ACalls Tryd.prog 84 #[a] m v m' ∧ (BytesIn m.size m'.size m' v l ∧ Ext m m') := by
  obtain ⟨q, cap, rfl⟩ := ha.len
  refine wpF (args := [_]) mixed okf84 (fn := Tryd.f84) rfl rfl rfl (by simp) ?_
  refine cSeq ?_
  refine cRegion ?_
  refine sAs (v := .slice _ _ _) rfl ?_
  refine sNil (kSeqN ?_)
  refine cSeq ?_   -- seq 1
  refine cSeq ?_
  refine cRegion ?_
  refine sMv (v := .slice _ _ _) rfl ?_
  refine sP (v := .bool (decide (q = none))) eq35 ?_
  refine sNil (kSeqN ?_)
  refine cCond rfl (fun c0 => ?_) (fun c0 => ?_)
  ·
    refine cSeq ?_
    refine cRegion ?_
    refine sAs (v := .slice _ _ _) rfl ?_
    refine sNil (kSeqN ?_)
    refine cRet (kSeqR ?_)
    subst c0
    refine ⟨.inr rfl, _, rfl, .inl ⟨?_, _, _, rfl⟩, .refl _⟩
    rcases ha with ⟨h, _⟩ | ⟨b, o, cp, r, c, h, _⟩
    · exact h
    · cases h
  ·
    refine cSkip (kSeqN ?_)
    refine cSeq ?_
    refine cRegion ?_
    refine sBuildS (c := #[]) T35 S5 Z5 (by decide) (by decide) (by decide) (by kernel_rfl) rfl rfl ?_
    refine sMv (v := .slice _ _ _) rfl ?_
    obtain ⟨v3, m3, h3, hO3, hE3⟩ := app_bytes (ha.ext (.push _ _)) hl
    obtain ⟨q3, cp3, rfl⟩ := hO3.len
    refine sAppX rfl rfl h3 ?_
    refine sAs (v := .slice _ _ _) rfl ?_
    refine sNil (kSeqN ?_)
    refine cRet ?_
    exact ⟨.inr rfl, _, rfl, hO3, hE3⟩

theorem okf31 : okF Tryd.prog H0 31 11 = true := by kernel_rfl
theorem spec_Of {m : Mem} {a : Value} {l : List Int} (ha : BytesAt m a l) : ∃ v m', ACalls Tryd.prog 31 #[a] m v m' ∧ (∃ b, v = .pointer (some ⟨b, 0, none⟩) ∧ m.size ≤ b ∧ StoreAt m.size m'.size m' b 0 ∧ Ext m m') := by
  obtain ⟨q, cap, rfl⟩ := ha.len
  obtain ⟨v7, h7, hB7⟩ := cut_bytes ha (k := min l.length 300) (by omega)
  obtain ⟨q7, c7, rfl⟩ := hB7.len
  have hl7 : (l.take (min l.length 300)).length ≤ 300 := by rw [List.length_take]; omega
  generalize l.take (min l.length 300) = l7 at *
  refine wpF (args := [_]) mixed okf31 (fn := Tryd.f31) rfl rfl rfl (by simp) ?_
  refine cSeq ?_
  refine cRegion ?_
  refine sAs (v := .pointer _) rfl ?_
  refine sNil (kSeqN ?_)
  refine cSeq ?_
  refine cRegion ?_
  refine sMv (v := .slice _ _ _) rfl ?_
  refine sMv (v := .slice _ _ _) rfl ?_
  refine sLen T35 rfl ?_
  refine sP (v := nv (min l.length 300)) min300 ?_
  refine sO (v := .slice q7 l7.length c7) (m' := m) (opF_read rfl h7) ?_
  obtain ⟨v8, m8, h8, hO8, hE8⟩ := spec_CloneB hB7 (by omega)
  obtain ⟨q8, c8, rfl⟩ := hO8.len
  refine sCall1 rfl call84 rfl h8 ?_
  refine sBuild B75 ?_
  refine sBox (v := .agg _) rfl ?_
  refine sAs (v := .pointer _) rfl ?_
  refine sNil (kSeqN ?_)
  refine cRet ?_
  refine ⟨.inr rfl, _, rfl, m8.size, rfl, hE8.1, ⟨by simp, by simp, by simp, .slice q8 l7.length c8, 0, 2463534242, l7, gP rfl, Nat.le_refl _, by omega, hO8.keep fun c _ hc => gPn hc, hl7⟩, hE8.push' _⟩

theorem okf85 : okF Tryd.prog H0 85 104 = true := by kernel_rfl
theorem spec_draw {m : Mem} {N0 N b k : Nat} (h : StoreAt N0 N m b k) (hk : k < 1000000) : ∃ v m', ACalls Tryd.prog 85 #[.pointer (some ⟨b, 0, none⟩)] m v m' ∧ ((∃ z : Nat, v = .int .u32 (Int.ofNat z) ∧ z < 4294967296) ∧ StoreAt N0 N m' b (k + 1) ∧ Only b m m') := by
  obtain ⟨hb1, hb2, hN, bs, nx, st, l, g0, hnx, hst, hBs, hl⟩ := h
  obtain ⟨q, cap, rfl⟩ := hBs.len
  have hbm := live g0
  refine wpF (args := [_]) mixed okf85 (fn := Tryd.f85) rfl rfl rfl (by simp) ?_
  refine cSeq ?_
  refine cRegion ?_
  refine sAs (v := .int .u32 _) rfl ?_
  refine sNil (kSeqN ?_)
  refine cSeq ?_
  refine cDraw rfl ?_
  refine sMv (v := .pointer _) rfl ?_
  refine sNC rfl ?_
  refine sFA F75_2 rfl ?_
  refine sLd A73 rfl (by simp (disch := first | omega | (simp only [Array.size_push, Array.size_setIfInBounds]; done) | (simp only [Array.size_push, Array.size_setIfInBounds]; omega)) only [gP, gPn, gS, gSn, g0]; try rfl) rfl ?_
  refine sMv (v := .pointer _) rfl ?_
  refine sNC rfl ?_
  refine sFA F75_2 rfl ?_
  refine sLd A73 rfl (by simp (disch := first | omega | (simp only [Array.size_push, Array.size_setIfInBounds]; done) | (simp only [Array.size_push, Array.size_setIfInBounds]; omega)) only [gP, gPn, gS, gSn, g0]; try rfl) rfl ?_
  refine sShl32 (b := 13) rfl rfl fun z12 hz12 => ?_
  refine sU32 rfl rfl rfl fun z13 hz13 => ?_
  refine sNC rfl ?_
  refine sFA F75_2 rfl ?_
  refine sSt (v := .int .u32 _) S73 rfl rfl (by simp (disch := first | omega | (simp only [Array.size_push, Array.size_setIfInBounds]; done) | (simp only [Array.size_push, Array.size_setIfInBounds]; omega)) only [gP, gPn, gS, gSn, g0]; try rfl) (by first | decide | omega | simp) rfl rfl ?_
  refine sNil (kSeqN ?_)
  refine cSeq ?_
  refine cDraw rfl ?_
  refine sMv (v := .pointer _) rfl ?_
  refine sNC rfl ?_
  refine sFA F75_2 rfl ?_
  refine sLd A73 rfl (by simp (disch := first | omega | (simp only [Array.size_push, Array.size_setIfInBounds]; done) | (simp only [Array.size_push, Array.size_setIfInBounds]; omega)) only [gP, gPn, gS, gSn, g0]; try rfl) rfl ?_
  refine sMv (v := .pointer _) rfl ?_
  refine sNC rfl ?_
  refine sFA F75_2 rfl ?_
  refine sLd A73 rfl (by simp (disch := first | omega | (simp only [Array.size_push, Array.size_setIfInBounds]; done) | (simp only [Array.size_push, Array.size_setIfInBounds]; omega)) only [gP, gPn, gS, gSn, g0]; try rfl) rfl ?_
  refine sShr32 (b := 17) rfl rfl (by omega) ?_
  refine sU32 rfl rfl rfl fun z25 hz25 => ?_
  refine sNC rfl ?_
  refine sFA F75_2 rfl ?_
  refine sSt (v := .int .u32 _) S73 rfl rfl (by simp (disch := first | omega | (simp only [Array.size_push, Array.size_setIfInBounds]; done) | (simp only [Array.size_push, Array.size_setIfInBounds]; omega)) only [gP, gPn, gS, gSn, g0]; try rfl) (by first | decide | omega | simp) rfl rfl ?_
  refine sNil (kSeqN ?_)
  refine cSeq ?_
  refine cDraw rfl ?_
  refine sMv (v := .pointer _) rfl ?_
  refine sNC rfl ?_
  refine sFA F75_2 rfl ?_
  refine sLd A73 rfl (by simp (disch := first | omega | (simp only [Array.size_push, Array.size_setIfInBounds]; done) | (simp only [Array.size_push, Array.size_setIfInBounds]; omega)) only [gP, gPn, gS, gSn, g0]; try rfl) rfl ?_
  refine sMv (v := .pointer _) rfl ?_
  refine sNC rfl ?_
  refine sFA F75_2 rfl ?_
  refine sLd A73 rfl (by simp (disch := first | omega | (simp only [Array.size_push, Array.size_setIfInBounds]; done) | (simp only [Array.size_push, Array.size_setIfInBounds]; omega)) only [gP, gPn, gS, gSn, g0]; try rfl) rfl ?_
  refine sShl32 (b := 5) rfl rfl fun z36 hz36 => ?_
  refine sU32 rfl rfl rfl fun z37 hz37 => ?_
  refine sNC rfl ?_
  refine sFA F75_2 rfl ?_
  refine sSt (v := .int .u32 _) S73 rfl rfl (by simp (disch := first | omega | (simp only [Array.size_push, Array.size_setIfInBounds]; done) | (simp only [Array.size_push, Array.size_setIfInBounds]; omega)) only [gP, gPn, gS, gSn, g0]; try rfl) (by first | decide | omega | simp) rfl rfl ?_
  refine sNil (kSeqN ?_)
  refine cSeq ?_
  refine cRegion ?_
  refine sMv (v := .pointer _) rfl ?_
  refine sNC rfl ?_
  refine sFA F75_2 rfl ?_
  refine sLd A73 rfl (by simp (disch := first | omega | (simp only [Array.size_push, Array.size_setIfInBounds]; done) | (simp only [Array.size_push, Array.size_setIfInBounds]; omega)) only [gP, gPn, gS, gSn, g0]; try rfl) rfl ?_
  refine sShr32 (b := 3) rfl rfl (by omega) ?_
  have hz44 := Nat.shiftRight_le z37 3
  generalize z37 >>> 3 = z44 at *
  refine sAs (v := .int .u32 _) rfl ?_
  refine sNil (kSeqN ?_)
  refine cSeq ?_   -- seq 5
  refine cSeq ?_
  refine cRegion ?_
  refine sMv (v := .pointer _) rfl ?_
  refine sNC rfl ?_
  refine sFA F75_0 rfl ?_
  refine sLd A35 rfl (by simp (disch := first | omega | (simp only [Array.size_push, Array.size_setIfInBounds]; done) | (simp only [Array.size_push, Array.size_setIfInBounds]; omega)) only [gP, gPn, gS, gSn, g0]; try rfl) rfl ?_
  refine sLen T35 rfl ?_
  refine sBin rfl rfl (aInt_gtr (b := 0)) ?_
  refine sNil (kSeqN ?_)
  refine cCond rfl (fun c0 => ?_) (fun c0 => ?_)
  ·
    rcases hBs with ⟨rfl, _⟩ | ⟨bb, o, cap', r, c, e1, e2, e3, e4, e5⟩
    · exact absurd c0 (by simp)
    injection e1 with e1 e1' e1''
    subst e1; subst e1''
    have hm : nx % l.length < l.length := Nat.mod_lt _ c0
    have hx := e5 _ _ (List.getElem?_eq_getElem hm)
    generalize l[nx % l.length] = by_ at *
    obtain ⟨zc, hzc, hconv⟩ := conv5_73 (a := by_)
    refine cSeq ?_
    refine cDraw rfl ?_
    refine sMv (v := .int .u32 _) rfl ?_
    refine sMv (v := .pointer _) rfl ?_
    refine sNC rfl ?_
    refine sFA F75_0 rfl ?_
    refine sLd A35 rfl (by simp (disch := first | omega | (simp only [Array.size_push, Array.size_setIfInBounds]; done) | (simp only [Array.size_push, Array.size_setIfInBounds]; omega)) only [gP, gPn, gS, gSn, g0]; try rfl) rfl ?_
    refine sMv (v := .pointer _) rfl ?_
    refine sNC rfl ?_
    refine sFA F75_1 rfl ?_
    refine sLd A3 rfl (by simp (disch := first | omega | (simp only [Array.size_push, Array.size_setIfInBounds]; done) | (simp only [Array.size_push, Array.size_setIfInBounds]; omega)) only [gP, gPn, gS, gSn, g0]; try rfl) rfl ?_
    refine sMv (v := .pointer _) rfl ?_
    refine sNC rfl ?_
    refine sFA F75_0 rfl ?_
    refine sLd A35 rfl (by simp (disch := first | omega | (simp only [Array.size_push, Array.size_setIfInBounds]; done) | (simp only [Array.size_push, Array.size_setIfInBounds]; omega)) only [gP, gPn, gS, gSn, g0]; try rfl) rfl ?_
    refine sLen T35 rfl ?_
    refine sBin rfl rfl (aInt_rem (by omega)) ?_
    refine sIx T35 S5 rfl rfl hm ?_
    refine sLd (v := .int .u8 by_) A5 rfl (by simp (disch := first | omega | (simp only [Array.size_push, Array.size_setIfInBounds]; done) | (simp only [Array.size_push, Array.size_setIfInBounds]; omega)) only [gP, gPn, gS, gSn, e4]; try rfl) hx ?_
    refine sP (v := .int .u32 (Int.ofNat zc)) hconv ?_
    refine sU32 rfl rfl rfl fun z69 hz69 => ?_
    refine sU32 rfl rfl rfl fun z70 hz70 => ?_
    refine sAs (v := .int .u32 _) rfl ?_
    refine sNil (kSeqN ?_)
    refine cSeq ?_
    refine cDraw rfl ?_
    refine sMv (v := .pointer _) rfl ?_
    refine sNC rfl ?_
    refine sFA F75_2 rfl ?_
    refine sLd A73 rfl (by simp (disch := first | omega | (simp only [Array.size_push, Array.size_setIfInBounds]; done) | (simp only [Array.size_push, Array.size_setIfInBounds]; omega)) only [gP, gPn, gS, gSn, g0]; try rfl) rfl ?_
    refine sMv (v := .pointer _) rfl ?_
    refine sNC rfl ?_
    refine sFA F75_0 rfl ?_
    refine sLd A35 rfl (by simp (disch := first | omega | (simp only [Array.size_push, Array.size_setIfInBounds]; done) | (simp only [Array.size_push, Array.size_setIfInBounds]; omega)) only [gP, gPn, gS, gSn, g0]; try rfl) rfl ?_
    refine sMv (v := .pointer _) rfl ?_
    refine sNC rfl ?_
    refine sFA F75_1 rfl ?_
    refine sLd A3 rfl (by simp (disch := first | omega | (simp only [Array.size_push, Array.size_setIfInBounds]; done) | (simp only [Array.size_push, Array.size_setIfInBounds]; omega)) only [gP, gPn, gS, gSn, g0]; try rfl) rfl ?_
    refine sMv (v := .pointer _) rfl ?_
    refine sNC rfl ?_
    refine sFA F75_0 rfl ?_
    refine sLd A35 rfl (by simp (disch := first | omega | (simp only [Array.size_push, Array.size_setIfInBounds]; done) | (simp only [Array.size_push, Array.size_setIfInBounds]; omega)) only [gP, gPn, gS, gSn, g0]; try rfl) rfl ?_
    refine sLen T35 rfl ?_
    refine sBin rfl rfl (aInt_rem (by omega)) ?_
    refine sIx T35 S5 rfl rfl hm ?_
    refine sLd (v := .int .u8 by_) A5 rfl (by simp (disch := first | omega | (simp only [Array.size_push, Array.size_setIfInBounds]; done) | (simp only [Array.size_push, Array.size_setIfInBounds]; omega)) only [gP, gPn, gS, gSn, e4]; try rfl) hx ?_
    refine sP (v := .int .u32 (Int.ofNat zc)) hconv ?_
    refine sU32 rfl rfl rfl fun z92 hz92 => ?_
    refine sU32 rfl rfl rfl fun z93 hz93 => ?_
    refine sNC rfl ?_
    refine sFA F75_2 rfl ?_
    refine sSt (v := .int .u32 _) S73 rfl rfl (by simp (disch := first | omega | (simp only [Array.size_push, Array.size_setIfInBounds]; done) | (simp only [Array.size_push, Array.size_setIfInBounds]; omega)) only [gP, gPn, gS, gSn, g0]; try rfl) (by first | decide | omega | simp) rfl rfl ?_
    refine sNil (kSeqN ?_)
    refine cRegion ?_
    refine sMv (v := .pointer _) rfl ?_
    refine sNC rfl ?_
    refine sFA F75_1 rfl ?_
    refine sLd A3 rfl (by simp (disch := first | omega | (simp only [Array.size_push, Array.size_setIfInBounds]; done) | (simp only [Array.size_push, Array.size_setIfInBounds]; omega)) only [gP, gPn, gS, gSn, g0]; try rfl) rfl ?_
    refine sBin rfl rfl (aInt_add (b := 1) (by omega)) ?_
    refine sNC rfl ?_
    refine sFA F75_1 rfl ?_
    refine sSt (v := nv _) S3 rfl rfl (by simp (disch := first | omega | (simp only [Array.size_push, Array.size_setIfInBounds]; done) | (simp only [Array.size_push, Array.size_setIfInBounds]; omega)) only [gP, gPn, gS, gSn, g0]; try rfl) (by first | decide | omega | simp) rfl rfl ?_
    refine sNil (kSeqN ?_)
    refine cSeq ?_
    refine cRegion ?_
    refine sMv (v := .int .u32 _) rfl ?_
    refine sAs (v := .int .u32 _) rfl ?_
    refine sNil (kSeqN ?_)
    refine cRet ?_
    refine ⟨.inr rfl, _, rfl, ⟨_, rfl, by omega⟩, ⟨hb1, hb2, by simp; omega, .slice (some ⟨bb, o, some 1⟩) l.length cap, nx + 1, z93, l, ?_, by omega, hz93, ?_, hl⟩, ?_⟩
    · simp (disch := first | omega | (simp only [Array.size_push, Array.size_setIfInBounds]; done) | (simp only [Array.size_push, Array.size_setIfInBounds]; omega)) only [gP, gPn, gS, gSn, g0]; try rfl
    · exact .inr ⟨bb, o, cap, r, c, rfl, e2, e3, (by simp (disch := first | omega | (simp only [Array.size_push, Array.size_setIfInBounds]; done) | (simp only [Array.size_push, Array.size_setIfInBounds]; omega)) only [gP, gPn, gS, gSn, e4]; try rfl), e5⟩
    · exact ((((Only.set b m _).trans (.set _ _ _)).trans (.set _ _ _)).trans (.set _ _ _)).trans (.set _ _ _)
  ·
    refine cSkip (kSeqN ?_)
    refine cSeq ?_
    refine cRegion ?_
    refine sMv (v := .int .u32 _) rfl ?_
    refine sAs (v := .int .u32 _) rfl ?_
    refine sNil (kSeqN ?_)
    refine cRet ?_
    refine ⟨.inr rfl, _, rfl, ⟨_, rfl, by omega⟩, ⟨hb1, hb2, by simp; omega, .slice q l.length cap, nx, z37, l, ?_, by omega, hz37, ?_, hl⟩, ?_⟩
    · simp (disch := first | omega | (simp only [Array.size_push, Array.size_setIfInBounds]; done) | (simp only [Array.size_push, Array.size_setIfInBounds]; omega)) only [gP, gPn, gS, gSn, g0]; try rfl
    · exact hBs.keep fun c h1 h2 => by rw [gSn (by omega), gSn (by omega), gSn (by omega)]
    · exact ((Only.set b m _).trans (.set _ _ _)).trans (.set _ _ _)

theorem okf33 : okF Tryd.prog H0 33 13 = true := by kernel_rfl
theorem spec_Less {m : Mem} {N0 N b k n : Nat} (h : StoreAt N0 N m b k) (hk : k < 1000000) (hn : 0 < n) (hn2 : n < 2 ^ 62) : ∃ v m', ACalls Tryd.prog 33 #[.pointer (some ⟨b, 0, none⟩), nv n] m v m' ∧ ((∃ x, v = nv x ∧ x < n) ∧ StoreAt N0 N m' b (k + 1) ∧ Only b m m') := by
  refine wpF (args := [_, _]) mixed okf33 (fn := Tryd.f33) rfl rfl rfl (by simp) ?_
  refine cSeq ?_
  refine cRegion ?_
  refine sAs (v := nv 0) rfl ?_
  refine sNil (kSeqN ?_)
  refine cSeq ?_   -- seq 1
  refine cSeq ?_
  refine cRegion ?_
  refine sMv (v := nv _) rfl ?_
  refine sBin (b := 0) rfl rfl (aInt_leq) ?_
  refine sNil (kSeqN ?_)
  refine cCondF' rfl (by omega) ?_
  refine cSkip (kSeqN ?_)
  refine cSeq ?_
  refine cRegion ?_
  refine sMv (v := .pointer _) rfl ?_
  obtain ⟨v8, m8, h8, ⟨z, rfl, hz⟩, hS8, hO8⟩ := spec_draw h hk
  refine sCall1 rfl call85 rfl h8 ?_
  refine sShr32 (b := 4) rfl rfl (by omega) ?_
  have hz9 := Nat.shiftRight_le z 4
  generalize z >>> 4 = z9 at *
  refine sP (v := nv z9) (conv73_3 (by omega)) ?_
  refine sMv (v := nv _) rfl ?_
  refine sBin rfl rfl (aInt_rem (by omega)) ?_
  refine sAs (v := nv _) rfl ?_
  refine sNil (kSeqN ?_)
  refine cRet ?_
  exact ⟨.inr rfl, _, rfl, ⟨_, rfl, Nat.mod_lt _ hn⟩, hS8, hO8⟩

theorem okf35 : okF Tryd.prog H0 35 9 = true := by kernel_rfl
theorem spec_Seldom {m : Mem} {N0 N b k n : Nat} (h : StoreAt N0 N m b k) (hk : k < 1000000) (hn : 0 < n) (hn2 : n < 2 ^ 62) : ∃ v m', ACalls Tryd.prog 35 #[.pointer (some ⟨b, 0, none⟩), nv n] m v m' ∧ ((∃ x : Nat, v = .bool (decide (x = 0))) ∧ StoreAt N0 N m' b (k + 1) ∧ Only b m m') := by
  obtain ⟨v7, m7, h7, ⟨x, rfl, hx⟩, hS7, hO7⟩ := spec_Less h hk hn hn2
  refine wpF (args := [_, _]) mixed okf35 (fn := Tryd.f35) rfl rfl rfl (by simp) ?_
  refine cSeq ?_
  refine cRegion ?_
  refine sAs (v := .bool _) rfl ?_
  refine sNil (kSeqN ?_)
  refine cSeq ?_
  refine cRegion ?_
  refine sMv (v := .pointer _) rfl ?_
  refine sMv (v := nv _) rfl ?_
  refine sCall2 rfl call33 rfl rfl h7 ?_
  refine sBin (b := 0) rfl rfl (aInt_eql) ?_
  refine sAs (v := .bool _) rfl ?_
  refine sNil (kSeqN ?_)
  refine cRet ?_
  exact ⟨.inr rfl, _, rfl, ⟨x, rfl⟩, hS7, hO7⟩

end Go.AM

/-! ### E39 -/
namespace Go.AM
open Go.Proofs
set_option maxRecDepth 100000
set_option linter.unusedVariables false
set_option linter.unusedSimpArgs false
theorem StoreAt.low {N0 N M : Nat} {m m' : Mem} {b k : Nat} (h : StoreAt N0 N m b k) (hN0 : N0 ≤ b) (hl : Low M m m') (hM : N ≤ M) : StoreAt N0 N m' b k := h.keep hN0 hl.1 fun c _ hc => hl.2 c (by omega)
theorem StoreAt.le {N0 N : Nat} {m : Mem} {b k k' : Nat} (h : StoreAt N0 N m b k) (hk : k ≤ k') : StoreAt N0 N m b k' := by
  obtain ⟨h1, h2, h3, bs, nx, st, l, g1, g2, g3⟩ := h
  exact ⟨h1, h2, h3, bs, nx, st, l, g1, by omega, g3⟩
theorem mk_own {m m' : Mem} {M : Nat} {x : Nat} (hM : M ≤ m.size) (hl : Low M (m.push (.cells true #[nv x])) m') : Low M m m' := (Low.push M hM _).trans hl

def H32 : Nat → List (Nat × Nat) := fun id => if id = 6 then [(6, 12), (10, 0)] else []
theorem okf32 : okF Tryd.prog H32 32 47 = true := by kernel_rfl
theorem spec_Made {m : Mem} {N0 N b k n most : Nat} (h : StoreAt N0 N m b k) (hk : k < 100000) (hN0 : N0 ≤ b) (hn : n ≤ 16) (hmost : most ≤ 8) : ∃ v m', ACalls Tryd.prog 32 #[.pointer (some ⟨b, 0, none⟩), nv n, nv most] m v m' ∧
      (∃ L : List Nat, OwnF m.size m' v (ofs L) ∧ L.length ≤ most ∧ (∀ x ∈ L, x < 2 ^ n) ∧ StoreAt N0 N m' b (k + 40) ∧ LowX m.size b m m') := by
  have hbm : b < m.size := by have := h.2.1; have := h.2.2.1; omega
  have hNm : N ≤ m.size := h.2.2.1
  have h2n : 2 ^ n ≤ 2 ^ 16 := Nat.pow_le_pow_right (by omega) hn
  have h2p : 0 < 2 ^ n := Nat.two_pow_pos n
  refine wpF (args := [_, _, _]) mixed okf32 (fn := Tryd.f32) rfl rfl rfl (by simp) ?_
  refine cSeq ?_
  refine cRegion ?_
  refine sAs (v := .slice _ _ _) rfl ?_
  refine sNil (kSeqN ?_)
  refine cSeq ?_
  refine cRegion ?_
  refine sAs (v := .slice _ _ _) rfl ?_
  refine sNil (kSeqN ?_)
  refine cSeq ?_
  refine cSeq ?_
  refine cRegion ?_
  refine sMv (v := .pointer _) rfl ?_
  refine sMv (v := nv _) rfl ?_
  refine sBin rfl rfl (aInt_add (b := 1) (by omega)) ?_
  obtain ⟨v12, m12, h12, ⟨cnt, rfl, hcnt⟩, hS12, hO12⟩ := spec_Less (n := most + 1) h (by omega) (by omega) (by omega)
  refine sCall2 rfl call33 rfl rfl h12 ?_
  refine sMv (v := nv 0) rfl ?_
  refine sNil (kSeqN ?_)
  refine cBlock ?_
  refine wpC_loop (fun k' ρ m' => ∃ i v L, k' = cnt - i ∧ i ≤ cnt ∧ L.length = i ∧ (∀ x ∈ L, x < 2 ^ n) ∧ OwnF m.size m' v (ofs L) ∧ StoreAt N0 N m' b (k + 1 + 4 * i) ∧ LowX m.size b m m' ∧ Has ρ [(0, .pointer (some ⟨b, 0, none⟩)), (1, nv n), (7, v), (12, nv cnt), (13, nv i)])
    ⟨0, _, [], rfl, by omega, rfl, by simp, .nil _ _, hS12, hO12.x, rfl, rfl, rfl, rfl, rfl, trivial⟩ ?_
  rintro k' ρ m' ⟨i, v, L, rfl, hi, hLi, hLx, hO, hS, hX, hh⟩
  obtain ⟨qv, cv, rfl⟩ := hO.ints.lenN
  rw [hh.env]; clear hh
  refine cSeq ?_
  refine cRegion ?_
  refine sBin rfl rfl (aInt_lss) ?_
  refine sNil (kSeqN ?_)
  refine cSeq ?_   -- seq 5
  refine cCond rfl (fun c0 => ?_) (fun c0 => ?_)
  ·
    refine cSkip (kSeqN ?_)
    refine cSeq ?_
    refine cBlock ?_
    refine cSeq ?_
    refine cRegion ?_
    refine sMv (v := .pointer _) rfl ?_
    refine sMv (v := nv _) rfl ?_
    refine sBin rfl rfl (aInt_shl (a := 1) (by omega)) ?_
    rw [Nat.shiftLeft_eq, Nat.one_mul]
    obtain ⟨v18, m18, h18, ⟨x, rfl, hx⟩, hS18, hO18⟩ := spec_Less (n := 2 ^ n) hS (by omega) (by omega) (by omega)
    refine sCall2 rfl call33 rfl rfl h18 ?_
    have hOa := hO.only hO18 hbm
    have hXa := hX.trans hO18.x
    refine sAs (v := nv _) rfl ?_
    refine sNil (kSeqN ?_)
    refine cSeq ?_   -- seq 8
    refine cSeq ?_
    refine cRegion ?_
    refine sMv (v := .slice _ _ _) rfl ?_
    refine sLen T22 rfl ?_
    refine sBin (b := 0) rfl rfl (aInt_gtr) ?_
    refine sMv (v := .bool _) rfl ?_
    by_cases h1 : 0 < L.length
    ·
      rw [decide_eq_true h1]
      refine sG rfl rfl ?_
      refine sMv (v := .pointer _) rfl ?_
      refine sG rfl rfl ?_
      obtain ⟨v24, m24, h24, ⟨y, rfl⟩, hS24, hO24⟩ := spec_Seldom (n := 3) hS18 (by omega) (by omega) (by omega)
      refine sCall2 rfl call35 rfl rfl h24 ?_
      have hOb := hOa.only hO24 hbm
      have hXb := hXa.trans hO24.x
      refine sP (v := .bool _) rfl ?_
      refine sNil (kSeqN ?_)
      refine cCond rfl (fun c1 => ?_) (fun c1 => ?_)
      ·
        obtain ⟨bl, cap1, c1, e1, hbl, g1, hsz1, x1, _⟩ := hOb.atN h1
        obtain ⟨rfl, rfl, rfl⟩ := e1
        refine cDrawH (hs := [(6, 12), (10, 0)]) rfl (by decide) ?_
        refine lStepO (sMv (v := .slice _ _ _) rfl (sNil fun e0 hm0 => ?_))
        refine lStepO (sMv (v := .pointer _) rfl (sNil fun e1 hm1 => ?_))
        refine lStepO (sMv (v := .slice _ _ _) rfl (sNil fun e2 hm2 => ?_))
        refine lStepO (sLen T22 rfl (sNil fun e3 hm3 => ?_))
        obtain ⟨v30, m30, h30, ⟨p, rfl, hp⟩, hS30, hO30⟩ := spec_Less (n := L.length) hS24 (by omega) (by omega) (by omega)
        have g30 : Mem.get m30 bl = _ := (hO30.2 bl (by omega)).trans g1
        have hg30 := x1 p _ (by rw [List.getElem?_eq_getElem hp])
        refine lStepO (sCall2 rfl call33 rfl rfl h30 (sNil fun e4 hm4 => ?_))
        refine lStepO (sIx T22 S3 rfl rfl hp (sNil fun e5 hm5 => ?_))
        refine lStepLd (v := nv L[p]) A3 rfl g30 hg30 fun e6 hm6 hv6 hr6 => ?_
        refine lStepO (sMv (v := .slice _ _ _) rfl (sNil fun e7 hm7 => ?_))
        refine lStepO (sMv (v := .pointer _) rfl (sNil fun e8 hm8 => ?_))
        refine lStepO (sMv (v := .slice _ _ _) rfl (sNil fun e9 hm9 => ?_))
        refine (lStepP (v := nv L.length) (by simp only [aPure, aLen, T22]; rfl) (fun e10 hm10 hv10 hp10 => ?_))
        obtain ⟨v37, m37, h37, ⟨q, rfl, hq⟩, hS37, hO37⟩ := spec_Less (n := L.length) hS30 (by omega) (by omega) (by omega)
        have g37 : Mem.get m37 bl = _ := (hO37.2 bl (by omega)).trans g30
        have hg37 := x1 q _ (by rw [List.getElem?_eq_getElem hq])
        have hxp := hLx _ (List.getElem_mem hp)
        have hxq := hLx _ (List.getElem_mem hq)
        refine lStepO (sCall2 rfl call33 rfl rfl h37 (sNil fun e11 hm11 => ?_))
        refine lStepO (sIx T22 S3 rfl rfl hq (sNil fun e12 hm12 => ?_))
        refine lStepLd (v := nv L[q]) A3 rfl g37 hg37 fun e13 hm13 hv13 hr13 => ?_
        refine lStepO (sBin rfl rfl (aInt_xor (by omega)) (sNil fun e14 hm14 => ?_))
        refine lStepO (sAs (v := nv _) rfl (sNil fun e15 hm15 => ?_))
        refine ⟨?_, (kSeqN ?_)⟩
        ·
          refine obl_atE (e := e6) (e' := e12) (by simp) (by rfl) (by simp) ((hr6 e12.m _ _ (by rw [hm12]; exact g37) hg30).trans (congrArg some hv6.symm)) ?_
          refine obl_pure (e := e10) (by simp) (by rfl) (hp10.trans (congrArg some hv10.symm)) ?_
          trivial
        refine cRegion ?_
        refine sMv (v := .slice _ _ _) rfl ?_
        refine sMv (v := nv _) rfl ?_
        refine sBuildS T22 S3 Z3 (by decide) (by decide) (by decide) (by kernel_rfl) fill1 rfl ?_
        refine sApp App22 rfl rfl (N := m.size) (p := ofs L) (by first | exact ((hOb.only hO30 hbm).only hO37 hbm).ext (.push _ _) | exact hOb.ext (.push _ _) | exact hOa.ext (.push _ _)) one_ints (by have := hX.1; have := hO18.1; first | (have := hO24.1; have := hO30.1; have := hO37.1; simp; omega) | (have := hO24.1; simp; omega) | (simp; omega)) (by simp; omega) fun v3 m3 hO3 hL3 => ?_
        obtain ⟨q3, cp3, rfl⟩ := hO3.ints.len
        refine sAs (v := .slice _ _ _) rfl ?_
        refine sNil (kBlkN (kSeqN ?_))
        refine cRegion ?_
        refine sBin rfl rfl (aInt_add (b := 1) (by omega)) ?_
        refine sMv (v := nv _) rfl ?_
        refine sNil (kSeqN ?_)
        have hL4 := mk_own (by have := hX.1; have := hO18.1; have := hO24.1; have := hO30.1; have := hO37.1; omega) hL3
        refine ⟨_, ?_, i + 1, _, L ++ [L[p] ^^^ L[q]], rfl, by omega, by simp [hLi], snoc_lt hLx (Nat.xor_lt_two_pow hxp hxq), by rw [ofs_append]; exact hO3, (hS37.low hN0 hL4 hNm).le (by omega), ((hXb.trans hO30.x).trans hO37.x).trans hL4.x, rfl, rfl, rfl, rfl, rfl, trivial⟩
        omega
      ·
        refine cSkip (kSeqN ?_)
        refine cRegion ?_
        refine sMv (v := .slice _ _ _) rfl ?_
        refine sMv (v := nv _) rfl ?_
        refine sBuildS T22 S3 Z3 (by decide) (by decide) (by decide) (by kernel_rfl) fill1 rfl ?_
        refine sApp App22 rfl rfl (N := m.size) (p := ofs L) (by first | exact ((hOb.only hO30 hbm).only hO37 hbm).ext (.push _ _) | exact hOb.ext (.push _ _) | exact hOa.ext (.push _ _)) one_ints (by have := hX.1; have := hO18.1; first | (have := hO24.1; have := hO30.1; have := hO37.1; simp; omega) | (have := hO24.1; simp; omega) | (simp; omega)) (by simp; omega) fun v3 m3 hO3 hL3 => ?_
        obtain ⟨q3, cp3, rfl⟩ := hO3.ints.len
        refine sAs (v := .slice _ _ _) rfl ?_
        refine sNil (kBlkN (kSeqN ?_))
        refine cRegion ?_
        refine sBin rfl rfl (aInt_add (b := 1) (by omega)) ?_
        refine sMv (v := nv _) rfl ?_
        refine sNil (kSeqN ?_)
        have hL4 := mk_own (by have := hX.1; have := hO18.1; have := hO24.1; omega) hL3
        refine ⟨_, ?_, i + 1, _, L ++ [x], rfl, by omega, by simp [hLi], snoc_lt hLx hx, by rw [ofs_append]; exact hO3, (hS24.low hN0 hL4 hNm).le (by omega), hXb.trans hL4.x, rfl, rfl, rfl, rfl, rfl, trivial⟩
        omega
    ·
      rw [decide_eq_false h1]
      refine sGno (q' := false) rfl rfl (by simp) ?_
      refine sGno (q' := false) rfl rfl (by simp) ?_
      refine sP (v := .bool _) rfl ?_
      refine sNil (kSeqN ?_)
      refine cCondF rfl ?_
      refine cSkip (kSeqN ?_)
      refine cRegion ?_
      refine sMv (v := .slice _ _ _) rfl ?_
      refine sMv (v := nv _) rfl ?_
      refine sBuildS T22 S3 Z3 (by decide) (by decide) (by decide) (by kernel_rfl) fill1 rfl ?_
      refine sApp App22 rfl rfl (N := m.size) (p := ofs L) (by first | exact ((hOb.only hO30 hbm).only hO37 hbm).ext (.push _ _) | exact hOb.ext (.push _ _) | exact hOa.ext (.push _ _)) one_ints (by have := hX.1; have := hO18.1; first | (have := hO24.1; have := hO30.1; have := hO37.1; simp; omega) | (have := hO24.1; simp; omega) | (simp; omega)) (by simp; omega) fun v3 m3 hO3 hL3 => ?_
      obtain ⟨q3, cp3, rfl⟩ := hO3.ints.len
      refine sAs (v := .slice _ _ _) rfl ?_
      refine sNil (kBlkN (kSeqN ?_))
      refine cRegion ?_
      refine sBin rfl rfl (aInt_add (b := 1) (by omega)) ?_
      refine sMv (v := nv _) rfl ?_
      refine sNil (kSeqN ?_)
      have hL4 := mk_own (by have := hX.1; have := hO18.1; omega) hL3
      refine ⟨_, ?_, i + 1, _, L ++ [x], rfl, by omega, by simp [hLi], snoc_lt hLx hx, by rw [ofs_append]; exact hO3, (hS18.low hN0 hL4 hNm).le (by omega), hXa.trans hL4.x, rfl, rfl, rfl, rfl, rfl, trivial⟩
      omega
  ·
    refine cExit (kSeqE (kSeqE (kBlkS (kSeqN ?_))))
    refine cSeq ?_
    refine cRegion ?_
    refine sMv (v := .slice _ _ _) rfl ?_
    refine sAs (v := .slice _ _ _) rfl ?_
    refine sNil (kSeqN ?_)
    refine cRet ?_
    exact ⟨.inr rfl, _, rfl, L, hO, by omega, hLx, hS.le (by omega), hX⟩

theorem okf36 : okF Tryd.prog H0 36 27 = true := by kernel_rfl
theorem spec_solves {m : Mem} {a : Value} {l : List Nat} {x b : Nat} (ha : IntsAt m a (ofs l)) (hl : l.length < 1000) (hx : ∀ x ∈ l, x < 2 ^ 62) (hxx : x < 2 ^ 62) (hb : b < 2 ^ 62) : ∃ v m', ACalls Tryd.prog 36 #[a, nv x, nv b] m v m' ∧ (v = .bool (decide (∀ i, i < l.length → dot (l.getD i 0) x = b.testBit i)) ∧ m' = m) := by
  obtain ⟨q, cap, rfl⟩ := ha.lenN
  refine wpF (args := [_, _, _]) mixed okf36 (fn := Tryd.f36) rfl rfl rfl (by simp) ?_
  refine cSeq ?_
  refine cRegion ?_
  refine sAs (v := .bool _) rfl ?_
  refine sNil (kSeqN ?_)
  refine cSeq ?_
  refine cSeq ?_
  refine cRegion ?_
  refine sMv (v := .slice _ _ _) rfl ?_
  refine sLen T22 rfl ?_
  refine sMv (v := nv 0) rfl ?_
  refine sNil (kSeqN ?_)
  refine cBlock ?_
  refine wpC_loop (fun k ρ m' => ∃ i, k = l.length - i ∧ i ≤ l.length ∧ (∀ j, j < i → dot (l.getD j 0) x = b.testBit j) ∧ m' = m ∧ Has ρ [(1, nv x), (2, nv b), (9, .slice q l.length cap), (10, nv l.length), (11, nv i)]) ⟨0, rfl, by omega, by intro j hj; omega, rfl, rfl, rfl, rfl, rfl, rfl, trivial⟩ ?_
  rintro k ρ m' ⟨i, rfl, hi, hall, rfl, hh⟩
  rw [hh.env]; clear hh
  refine cSeq ?_
  refine cRegion ?_
  refine sBin rfl rfl (aInt_lss) ?_
  refine sNil (kSeqN ?_)
  refine cSeq ?_   -- seq 4
  refine cCond rfl (fun c0 => ?_) (fun c0 => ?_)
  ·
    obtain ⟨b1, o1, p1, r1, c1, e1, g1, x1⟩ := ha.atN (by omega)
    obtain ⟨rfl, rfl, rfl⟩ := e1
    have hli : l[i]? = some (l.getD i 0) := by rw [List.getD_eq_getElem?_getD, List.getElem?_eq_getElem c0]; rfl
    have hx1 := hx _ (getD_mem c0)
    have hand : l.getD i 0 &&& x ≤ x := Nat.and_le_right
    refine cSkip (kSeqN ?_)
    refine cSeq ?_
    refine cBlock ?_
    refine cSeq ?_
    refine cRegion ?_
    refine sMv (v := nv _) rfl ?_
    refine sIx T22 S3 rfl rfl (by omega) ?_
    refine sLd (v := nv (l.getD i 0)) A3 rfl g1 (x1 _ _ hli) ?_
    refine sAs (v := nv _) rfl ?_
    refine sAs (v := nv _) rfl ?_
    refine sNil (kSeqN ?_)
    refine cSeq ?_
    refine cDraw rfl ?_
    refine sMv (v := nv _) rfl ?_
    refine sMv (v := nv _) rfl ?_
    refine sBin rfl rfl (aInt_and (by omega)) ?_
    obtain ⟨v19, m19, h19, rfl, k19⟩ := spec_odd (m := m') (x := l.getD i 0 &&& x) (by omega)
    subst k19
    refine sCall1 rfl call34 rfl h19 ?_
    refine sMv (v := nv _) rfl ?_
    refine sMv (v := nv _) rfl ?_
    refine sBin rfl rfl (aInt_shr (by omega)) ?_
    refine sBin (b := 1) rfl rfl (aInt_and ⟨by have := Nat.shiftRight_le b i; omega, by omega⟩) ?_
    refine sBin rfl rfl (aInt_eql (b := 1)) ?_
    refine sBinA rfl rfl xorB ?_
    refine sNil (kSeqN ?_)
    refine cCond (p := ¬ dot (l.getD i 0) x = b.testBit i) ?_ (fun c2 => ?_) (fun c2 => ?_)
    · show Value.bool (oddB (l.getD i 0 &&& x) ^^ decide (b >>> i &&& 1 = 1)) = _
      congr 1
      have e : decide (b >>> i &&& 1 = 1) = b.testBit i := by rw [Bool.eq_iff_iff, decide_eq_true_eq]; exact bit_one b i
      rw [e]
      show (dot (l.getD i 0) x ^^ b.testBit i) = _
      cases dot (l.getD i 0) x <;> cases b.testBit i <;> rfl
    ·
      refine cSeq ?_
      refine cRegion ?_
      refine sAs (v := .bool _) rfl ?_
      refine sNil (kSeqN ?_)
      refine cRet (kBlkR (kSeqR (kSeqR (kBlkR (kSeqR ?_)))))
      refine ⟨.inr rfl, _, rfl, ?_, rfl⟩
      have hf : ¬ ∀ i, i < l.length → dot (l.getD i 0) x = b.testBit i := fun h => c2 (h i c0)
      rw [decide_eq_false hf]; rfl
    ·
      refine cSkip (kBlkN (kSeqN ?_))
      refine cRegion ?_
      refine sBin rfl rfl (aInt_add (b := 1) (by omega)) ?_
      refine sMv (v := nv _) rfl ?_
      refine sNil (kSeqN ?_)
      refine ⟨_, ?_, i + 1, rfl, by omega, fun j hj => ?_, rfl, rfl, rfl, rfl, rfl, rfl, trivial⟩
      · omega
      · by_cases e : j = i
        · rw [e]; exact Decidable.not_not.1 c2
        · exact hall j (by omega)
  ·
    refine cExit (kSeqE (kSeqE (kBlkS (kSeqN ?_))))
    refine cSeq ?_
    refine cRegion ?_
    refine sAs (v := .bool _) rfl ?_
    refine sNil (kSeqN ?_)
    refine cRet ?_
    obtain rfl : i = l.length := by omega
    refine ⟨.inr rfl, _, rfl, ?_, rfl⟩
    rw [decide_eq_true hall]; rfl

end Go.AM

/-! ### E40 -/
namespace Go.AM
open Go.Proofs
set_option maxRecDepth 100000
set_option linter.unusedVariables false
set_option linter.unusedSimpArgs false
theorem pcall (g : Nat) (h : callable Tryd.prog g = true) : callable Tryd.prog g = true := h
/-- Rows that are right. -/
structure Right (L : List Nat) (n : Nat) : Prop where
  n1 : 1 ≤ n
  n2 : n ≤ 16
  len : L.length ≤ 24
  lt : ∀ x ∈ L, x < 2 ^ n
theorem Right.lt24 {L : List Nat} {n : Nat} (h : Right L n) : ∀ x ∈ L, x < 2 ^ 24 := Go.AM.lt24 (by have := h.n2; omega) h.lt
theorem Right.n24 {L : List Nat} {n : Nat} (h : Right L n) : n ≤ 24 := by have := h.n2; omega
theorem Right.big {L : List Nat} {n : Nat} (h : Right L n) : (ofs L).length < 4611686018427387904 := by rw [ofs_length]; have := h.len; omega
theorem Right.check {L : List Nat} {n : Nat} (h : Right L n) : checkF (ofs L) (Int.ofNat n) = 0 := by
  obtain ⟨h1, h2, h3, h4⟩ := h
  unfold checkF
  rw [if_neg (by simp; omega), if_neg (by rw [ofs_length]; omega), if_pos]
  rw [List.all_eq_true]
  intro x hx
  obtain ⟨y, hy, rfl⟩ := List.mem_map.1 hx
  have := h4 y hy
  have e : ((2 ^ n : Nat) : Int) = 2 ^ n := by simp
  simp; omega
theorem Right.one {L : List Nat} {n x : Nat} (h : Right L n) (hx : x < 2 ^ n) : oneF (ofs L) (Int.ofNat n) (Int.ofNat x) = 0 := by
  unfold oneF
  rw [if_neg, h.check]
  rintro ⟨_, hn⟩
  apply hn
  have e : ((2 ^ n : Nat) : Int) = 2 ^ n := by simp
  simp; omega
theorem Right.both {L R : List Nat} {n : Nat} (h : Right L n) (h' : Right R n) : bothF (ofs L) (ofs R) (Int.ofNat n) = 0 := by
  unfold bothF; rw [if_pos h.check, h'.check]
theorem Right.null {L : List Nat} {n : Nat} (h : Right L n) : Right (nullM L n) n :=
  ⟨h.n1, h.n2, by have := nullM_len L n h.n24; have := h.n2; omega, nullM_lt h.n24⟩
theorem Right.red {L : List Nat} {n : Nat} (h : Right L n) : Right (redM L) n :=
  ⟨h.n1, h.n2, redM_length L, redM_lt h.n24 h.lt⟩
section
variable {m : Mem} {a b : Value} {L R : List Nat} {n x : Nat}
theorem sp_Rank (h : Right L n) (ha : IntsAt m a (ofs L)) : ∃ v m', ACalls Tryd.prog 40 #[a, nv n] m v m' ∧ (v = .tuple #[nv (redM L).length, nv 0] ∧ Ext m m') := by
  have := spec_Rank (n := Int.ofNat n) ha h.big
  rwa [h.check, ifOk_0 rfl, nats_ofs] at this
theorem sp_Reduce (h : Right L n) (ha : IntsAt m a (ofs L)) : ∃ v m', ACalls Tryd.prog 43 #[a, nv n] m v m' ∧ (∃ w, v = .tuple #[w, nv 0] ∧ OwnF m.size m' w (ofs (redM L)) ∧ Ext m m') := by
  have := spec_Reduce (n := Int.ofNat n) ha h.big
  rwa [h.check, ifOk_0 rfl, nats_ofs] at this
theorem sp_Null (hG : Glob m) (h : Right L n) (ha : IntsAt m a (ofs L)) : ∃ v m', ACalls Tryd.prog 39 #[a, nv n] m v m' ∧ (∃ w, v = .tuple #[w, nv 0] ∧ OwnF m.size m' w (ofs (nullM L n)) ∧ Ext m m') := by
  have := spec_Null (n := Int.ofNat n) hG ha h.big
  rw [h.check, ifOk_0 rfl, nats_ofs] at this
  exact this
theorem sp_Free (hG : Glob m) (h : Right L n) (ha : IntsAt m a (ofs L)) : ∃ v m', ACalls Tryd.prog 59 #[a, nv n] m v m' ∧ (∃ w, v = .tuple #[w, nv 0] ∧ OwnF m.size m' w (ofs (ledM (tableM L) n false)) ∧ Ext m m') := by
  have := spec_Free (n := Int.ofNat n) hG ha h.big
  rw [h.check, ifOk_0 rfl, nats_ofs] at this
  exact this
theorem sp_Member (h : Right L n) (hx : x < 2 ^ n) (ha : IntsAt m a (ofs L)) : ∃ v m', ACalls Tryd.prog 46 #[a, nv n, nv x] m v m' ∧ (v = .tuple #[.bool (decide ((whichM L x).1 = 0)), nv 0] ∧ Ext m m') := by
  have := spec_Member (n := Int.ofNat n) (row := Int.ofNat x) ha h.big
  rw [h.one hx, ifOk_0 rfl, nats_ofs] at this
  exact this
theorem sp_Which (h : Right L n) (hx : x < 2 ^ n) (ha : IntsAt m a (ofs L)) : ∃ v m', ACalls Tryd.prog 38 #[a, nv n, nv x] m v m' ∧
    (v = .tuple #[nv (if (whichM L x).1 = 0 then (whichM L x).2 else 0), nv (if (whichM L x).1 = 0 then 0 else 6)] ∧ Ext m m') := by
  have := spec_Which (n := Int.ofNat n) (row := Int.ofNat x) ha h.big
  have e : whichE (ofs L) (Int.ofNat n) (Int.ofNat x) = if (whichM L x).1 = 0 then 0 else 6 := by
    unfold whichE
    rw [h.one hx, nats_ofs]
    by_cases hw : (whichM L x).1 = 0
    · rw [if_neg (fun hh => hh.2 hw), if_pos hw]
    · rw [if_pos ⟨rfl, hw⟩, if_neg hw]
  rw [e, nats_ofs] at this
  by_cases hw : (whichM L x).1 = 0
  · rw [if_pos hw, ifOk_0 rfl] at this
    rw [if_pos hw, if_pos hw]; exact this
  · rw [if_neg hw, ifOk_n (by omega)] at this
    rw [if_neg hw, if_neg hw]; exact this
theorem sp_Apply (h : Right L n) (hx : x < 2 ^ n) (ha : IntsAt m a (ofs L)) : ∃ v m', ACalls Tryd.prog 22 #[a, nv n, nv x] m v m' ∧ (v = .tuple #[nv (total (turnedM L n) x), nv 0] ∧ Ext m m') := by
  have := spec_Apply (n := Int.ofNat n) (row := Int.ofNat x) ha h.big
  rw [h.one hx, ifOk_0 rfl, nats_ofs] at this
  exact this
theorem sp_Solve (h : Right L n) (hx : x < 2 ^ L.length) (ha : IntsAt m a (ofs L)) : ∃ v m', ACalls Tryd.prog 21 #[a, nv n, nv x] m v m' ∧
    (v = .tuple #[nv (if (whichM (turnedM L n) x).1 = 0 then (whichM (turnedM L n) x).2 else 0), nv (if (whichM (turnedM L n) x).1 = 0 then 0 else 6)] ∧ Ext m m') := by
  have := spec_Solve (n := Int.ofNat n) (b := Int.ofNat x) ha h.big
  have e : solveE (ofs L) (Int.ofNat n) (Int.ofNat x) = if (whichM (turnedM L n) x).1 = 0 then 0 else 6 := by
    unfold solveE
    have e2 : ((2 ^ L.length : Nat) : Int) = 2 ^ L.length := by simp
    rw [if_pos h.check, if_neg (by rw [ofs_length]; simp; omega), nats_ofs]
    show (if ¬(whichM (turnedM L n) x).1 = 0 then 6 else 0) = _
    by_cases hw : (whichM (turnedM L n) x).1 = 0
    · rw [if_neg (fun hh => hh hw), if_pos hw]
    · rw [if_pos hw, if_neg hw]
  rw [e, nats_ofs] at this
  by_cases hw : (whichM (turnedM L n) x).1 = 0
  · rw [if_pos hw, ifOk_0 rfl] at this
    rw [if_pos hw, if_pos hw]; exact this
  · rw [if_neg hw, ifOk_n (by omega)] at this
    rw [if_neg hw, if_neg hw]; exact this
theorem sp_Transpose (h : Right L n) (h1 : 1 ≤ L.length) (h2 : L.length ≤ 16) (ha : IntsAt m a (ofs L)) : ∃ v m', ACalls Tryd.prog 52 #[a, nv n] m v m' ∧ (∃ w, v = .tuple #[w, nv 0] ∧ OwnF m.size m' w (ofs (turnedM L n)) ∧ Ext m m') := by
  have := spec_Transpose (n := Int.ofNat n) ha h.big
  have e : turnE (ofs L) (Int.ofNat n) = 0 := by
    unfold turnE
    rw [if_pos h.check, if_neg (by rw [ofs_length]; omega)]
  rw [e, ifOk_0 rfl, nats_ofs] at this
  exact this
theorem sp_Identity (h1 : 1 ≤ n) (h2 : n ≤ 16) : ∃ v m', ACalls Tryd.prog 54 #[nv n] m v m' ∧ (∃ w, v = .tuple #[w, nv 0] ∧ OwnF m.size m' w (ofs (oneM n)) ∧ Ext m m') := by
  have := spec_Identity (m := m) (n := Int.ofNat n)
  have e : identE (Int.ofNat n) = 0 := by unfold identE; rw [if_neg (by simp; omega)]
  rw [e, ifOk_0 rfl] at this
  exact this
theorem sp_Same (h : Right L n) (h' : Right R n) (ha : IntsAt m a (ofs L)) (hb : IntsAt m b (ofs R)) : ∃ v m', ACalls Tryd.prog 62 #[a, b, nv n] m v m' ∧ (v = .tuple #[.bool (decide (redM L = redM R)), nv 0] ∧ Ext m m') := by
  have := spec_Same (n := Int.ofNat n) ha hb h.big h'.big
  rw [h.both h', ifOk_0 rfl, nats_ofs, nats_ofs, decide_eq_decide.2 (same_red h.lt24 h'.lt24).symm] at this
  exact this
theorem sp_Mul (h : Right L n) (h' : Right R x) (hl : R.length = n) (ha : IntsAt m a (ofs L)) (hb : IntsAt m b (ofs R)) : ∃ v m', ACalls Tryd.prog 51 #[a, nv n, b, nv x] m v m' ∧ (∃ w, v = .tuple #[w, nv 0] ∧ OwnF m.size m' w (ofs (mulM L R)) ∧ Ext m m') := by
  have := spec_Mul (n := Int.ofNat n) (k := Int.ofNat x) ha hb h.big h'.big
  have e : mulE (ofs L) (Int.ofNat n) (ofs R) (Int.ofNat x) = 0 := by
    unfold mulE
    rw [if_pos h.check, if_pos h'.check, if_neg (by rw [ofs_length, hl]; simp)]
  rw [e, ifOk_0 rfl, nats_ofs, nats_ofs] at this
  exact this
theorem sp_Invert (h : Right L n) (hl : L.length = n) (ha : IntsAt m a (ofs L)) : ∃ v m', ACalls Tryd.prog 53 #[a, nv n] m v m' ∧ (∃ w, v = .tuple #[w, nv (if invOk L n then 0 else 6)] ∧ OwnF m.size m' w (ofs (if invOk L n then invL L n else [])) ∧ Ext m m') := by
  have := spec_Invert (n := Int.ofNat n) ha h.big
  have e : invE (ofs L) (Int.ofNat n) = if invOk L n then 0 else 6 := by
    unfold invE
    rw [if_pos h.check, if_neg (by rw [ofs_length, hl]; simp), nats_ofs]
    rfl
  rw [e, nats_ofs] at this
  by_cases hw : invOk L n = true
  · rw [if_pos hw, ifOk_0 rfl] at this
    rw [if_pos hw, if_pos hw]; exact this
  · rw [if_neg hw, ifOk_n (by omega)] at this
    rw [if_neg hw, if_neg hw]; exact this
theorem sp_Weights (hG : Glob m) (h : Right L n) (ha : IntsAt m a (ofs L)) : ∃ v m', ACalls Tryd.prog 28 #[a, nv n] m v m' ∧ (∃ w, v = .tuple #[w, nv 0] ∧ OwnF m.size m' w (ofs (weightsM L n)) ∧ Ext m m') := by
  have := spec_Weights (n := Int.ofNat n) hG ha h.big
  rw [h.check, ifOk_0 rfl, nats_ofs] at this
  exact this
theorem sp_Coset (hG : Glob m) (h : Right L n) (hx : x < 2 ^ n) (ha : IntsAt m a (ofs L)) : ∃ v m', ACalls Tryd.prog 29 #[a, nv n, nv x] m v m' ∧ (v = .tuple #[nv (cosetM L x), nv 0] ∧ Ext m m') := by
  have := spec_Coset (n := Int.ofNat n) (row := Int.ofNat x) hG ha h.big
  rw [h.one hx, ifOk_0 rfl, nats_ofs] at this
  exact this
theorem sp_Meet (hG : Glob m) (h : Right L n) (h' : Right R n) (ha : IntsAt m a (ofs L)) (hb : IntsAt m b (ofs R)) : ∃ v m', ACalls Tryd.prog 67 #[a, b, nv n] m v m' ∧ (∃ w, v = .tuple #[w, nv 0] ∧ OwnF m.size m' w (ofs (meetM L R n)) ∧ Ext m m') := by
  have := spec_Meet (n := Int.ofNat n) hG ha hb h.big h'.big
  rw [h.both h', ifOk_0 rfl, nats_ofs, nats_ofs] at this
  exact this
theorem sp_Weight (hx : x < 2 ^ 62) : ∃ v m', ACalls Tryd.prog 27 #[nv x] m v m' ∧ (v = .tuple #[nv (popc x), nv 0] ∧ m' = m) := by
  have := spec_Weight (m := m) (x := Int.ofNat x) (by simp; omega)
  rw [if_neg (by simp), if_neg (by simp)] at this
  exact this
end

/-! ### What stays -/
theorem Ext.lowx {m0 m m' : Mem} {b : Nat} (h : Ext m0 m) (hx : LowX m.size b m m') (hb : m0.size ≤ b) : Ext m0 m' :=
  ⟨Nat.le_trans h.1 hx.1, fun c hc => (hx.2 c (by have := h.1; omega) (by omega)).trans (h.2 c hc)⟩
theorem Ext.only {m0 m m' : Mem} {b : Nat} (h : Ext m0 m) (hx : Only b m m') (hb : m0.size ≤ b) : Ext m0 m' := h.lowx hx.x hb
theorem OwnF.lowx {N b : Nat} {m m' : Mem} {v : Value} {l : List Int} (h : OwnF N m v l) (hx : LowX m.size b m m') (hb : b < N) : OwnF N m' v l := h.up fun c h1 h2 => hx.2 c h2 (by omega)
theorem StoreAt.ext {N0 N : Nat} {m m' : Mem} {b k : Nat} (h : StoreAt N0 N m b k) (hN0 : N0 ≤ b) (he : Ext m m') : StoreAt N0 N m' b k := h.keep hN0 he.1 fun c _ hc => he.2 c (by have := h.2.2.1; omega)
theorem StoreAt.lowx {N0 N : Nat} {m m' : Mem} {b k c : Nat} (h : StoreAt N0 N m b k) (hN0 : N0 ≤ b) (hx : LowX m.size c m m') (hc : c < N0 ∨ N ≤ c) : StoreAt N0 N m' b k :=
  h.keep hN0 hx.1 fun d h1 h2 => hx.2 d (by have := h.2.2.1; omega) (by omega)
theorem StoreAt.only {N0 N : Nat} {m m' : Mem} {b k c : Nat} (h : StoreAt N0 N m b k) (hN0 : N0 ≤ b) (hx : Only c m m') (hc : c < N0 ∨ N ≤ c) : StoreAt N0 N m' b k := h.lowx hN0 hx.x hc
theorem StoreAt.lt {N0 N : Nat} {m : Mem} {b k : Nat} (h : StoreAt N0 N m b k) : b < N ∧ N ≤ m.size := ⟨h.2.1, h.2.2.1⟩
theorem neqF {a b : Nat} (h : a = b) : aInt .neq .i64 (Int.ofNat a) (Int.ofNat b) = some (.bool false) := by rw [aInt_neq, decide_eq_false (by simpa using h)]
theorem neqT {a b : Nat} (h : a ≠ b) : aInt .neq .i64 (Int.ofNat a) (Int.ofNat b) = some (.bool true) := by rw [aInt_neq, decide_eq_true h]
theorem eqlT {a b : Nat} (h : a = b) : aInt .eql .i64 (Int.ofNat a) (Int.ofNat b) = some (.bool true) := by rw [aInt_eql, decide_eq_true h]
theorem eqlF {a b : Nat} (h : a ≠ b) : aInt .eql .i64 (Int.ofNat a) (Int.ofNat b) = some (.bool false) := by rw [aInt_eql, decide_eq_false h]
theorem lssF {a b : Nat} (h : ¬ a < b) : aInt .lss .i64 (Int.ofNat a) (Int.ofNat b) = some (.bool false) := by rw [aInt_lss, decide_eq_false h]
theorem lssT {a b : Nat} (h : a < b) : aInt .lss .i64 (Int.ofNat a) (Int.ofNat b) = some (.bool true) := by rw [aInt_lss, decide_eq_true h]
theorem gtrF {a b : Nat} (h : ¬ b < a) : aInt .gtr .i64 (Int.ofNat a) (Int.ofNat b) = some (.bool false) := by rw [aInt_gtr, decide_eq_false h]
theorem gtrT {a b : Nat} (h : b < a) : aInt .gtr .i64 (Int.ofNat a) (Int.ofNat b) = some (.bool true) := by rw [aInt_gtr, decide_eq_true h]
theorem leqF {a b : Nat} (h : ¬ a ≤ b) : aInt .leq .i64 (Int.ofNat a) (Int.ofNat b) = some (.bool false) := by rw [aInt_leq, decide_eq_false h]
theorem leqT {a b : Nat} (h : a ≤ b) : aInt .leq .i64 (Int.ofNat a) (Int.ofNat b) = some (.bool true) := by rw [aInt_leq, decide_eq_true h]
theorem geqF {a b : Nat} (h : ¬ b ≤ a) : aInt .geq .i64 (Int.ofNat a) (Int.ofNat b) = some (.bool false) := by rw [aInt_geq, decide_eq_false h]
theorem geqT {a b : Nat} (h : b ≤ a) : aInt .geq .i64 (Int.ofNat a) (Int.ofNat b) = some (.bool true) := by rw [aInt_geq, decide_eq_true h]
theorem beqB {a b : Bool} (h : a = b) : aBin Tryd.prog .eql 4 (.bool a) (.bool b) = some (.bool true) := by subst h; cases a <;> kernel_rfl
theorem bneB {a b : Bool} (h : a = b) : aBin Tryd.prog .neq 4 (.bool a) (.bool b) = some (.bool false) := by subst h; cases a <;> kernel_rfl
theorem conv5_3N {c : Nat} (h : c < 256) : aConv Tryd.prog 5 3 (.int .u8 (Int.ofNat c)) = some (nv c) := by
  simp only [aConv, U5, U3]
  rw [wrapN (by omega)]
theorem which_iff {L : List Nat} {n x : Nat} (h : Right L n) : (whichM L x).1 = 0 ↔ InSpan L x := (split_spec h.lt24).1
theorem which_in {L : List Nat} {n x : Nat} (h : Right L n) (hx : InSpan L x) : (whichM L x).1 = 0 := (which_iff h).2 hx
theorem made_right {L : List Nat} {n k : Nat} (h1 : 1 ≤ n) (h2 : n ≤ 16) (hk : k ≤ 24) (hl : L.length ≤ k) (hx : ∀ x ∈ L, x < 2 ^ n) : Right L n := ⟨h1, h2, by omega, hx⟩
end Go.AM
