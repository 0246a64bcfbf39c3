/- Part 6 of the proof: Plain laws, and contracts of the program's functions. -/
import Derived.Test.YtdokoekgdeebpaaDoorPartE
set_option maxRecDepth 100000
set_option linter.unusedVariables false
set_option linter.unusedSimpArgs false
/-! ### R19 -/
namespace Go.AM
open Go.Proofs
inductive BX where
  | mk : Int → Int → List BX → BX
def BX.kind : BX → Int
  | .mk k _ _ => k
def BX.var : BX → Int
  | .mk _ x _ => x
def BX.args : BX → List BX
  | .mk _ _ l => l
def BAt (P : Nat → Prop) (m : Mem) : Nat → Value → BX → Prop
  | 0, _, _ => False
  | d + 1, v, e => ∃ w, v = .agg #[.int .i64 e.kind, .int .i64 e.var, w] ∧ ((e.args = [] ∧ ∃ q c, w = .slice q 0 c) ∨ ∃ b o cap r c, w = .slice (some ⟨b, o, some 3⟩) e.args.length cap ∧ P b ∧ Mem.get m b = .cells r c ∧ ∀ (i : Nat) (a : BX), e.args[i]? = some a → o + i * 3 + 3 ≤ c.size ∧ BAt P m d (.agg (c.extract (o + i * 3) (o + i * 3 + 3))) a)
theorem BAt.frame {P P' : Nat → Prop} {m m' : Mem} (hP : ∀ b, P b → b < m.size → P' b ∧ Mem.get m' b = Mem.get m b) : ∀ {d : Nat} {v : Value} {e : BX}, BAt P m d v e → BAt P' m' d v e
  | 0, v, e, h => h.elim
  | d + 1, v, e, h => by
    obtain ⟨w, h1, h2⟩ := h
    refine ⟨w, h1, ?_⟩
    rcases h2 with h2 | ⟨b, o, cap, r, c, g1, g2, g3, g4⟩
    · exact .inl h2
    · exact .inr ⟨b, o, cap, r, c, g1, (hP b g2 (live g3)).1, (hP b g2 (live g3)).2.trans g3, fun i a hi => ⟨(g4 i a hi).1, BAt.frame hP (g4 i a hi).2⟩⟩
theorem BAt.ext {P : Nat → Prop} {m m' : Mem} {d : Nat} {v : Value} {e : BX} (h : BAt P m d v e) (he : Ext m m') : BAt P m' d v e := h.frame fun b hb hl => ⟨hb, he.2 b hl⟩
theorem BAt.up {P : Nat → Prop} {m : Mem} : ∀ {d : Nat} {v : Value} {e : BX}, BAt P m d v e → BAt P m (d + 1) v e
  | 0, v, e, h => h.elim
  | d + 1, v, e, h => by
    obtain ⟨w, h1, h2⟩ := h
    refine ⟨w, h1, ?_⟩
    rcases h2 with h2 | ⟨b, o, cap, r, c, g1, g2, g3, g4⟩
    · exact .inl h2
    · exact .inr ⟨b, o, cap, r, c, g1, g2, g3, fun i a hi => ⟨(g4 i a hi).1, BAt.up (g4 i a hi).2⟩⟩
theorem BAt.agg {P : Nat → Prop} {m : Mem} {d : Nat} {v : Value} {e : BX} (h : BAt P m d v e) : ∃ d' q cap, d = d' + 1 ∧ v = .agg #[.int .i64 e.kind, .int .i64 e.var, .slice q e.args.length cap] := by
  cases d with
  | zero => exact h.elim
  | succ d =>
    obtain ⟨w, h1, h2⟩ := h
    rcases h2 with ⟨h2, q, c, rfl⟩ | ⟨b, o, cap, r, c, rfl, g2, g3, g4⟩
    · exact ⟨d, q, c, rfl, by rw [h2]; exact h1⟩
    · exact ⟨d, _, cap, rfl, h1⟩
theorem BAt.arg {P : Nat → Prop} {m : Mem} {d : Nat} {k x : Value} {q : Option Addr} {n cap : Nat} {e a : BX} {i : Nat} (h : BAt P m (d + 1) (.agg #[k, x, .slice q n cap]) e) (hi : e.args[i]? = some a) :
    ∃ b o r c, q = some ⟨b, o, some 3⟩ ∧ n = e.args.length ∧ P b ∧ Mem.get m b = .cells r c ∧ o + i * 3 + 3 ≤ c.size ∧ BAt P m d (.agg (c.extract (o + i * 3) (o + i * 3 + 3))) a := by
  obtain ⟨w, h1, h2⟩ := h
  have hl := (List.getElem?_eq_some_iff.1 hi).1
  rcases h2 with ⟨h2, _⟩ | ⟨b, o, cap, r, c, rfl, g2, g3, g4⟩
  · rw [h2] at hl; simp at hl
  · simp at h1
    obtain ⟨_, _, h1, h3, h4⟩ := h1
    exact ⟨b, o, r, c, h1, h3, g2, g3, (g4 i a hi).1, (g4 i a hi).2⟩
def szB : Nat → BX → Nat
  | 0, _ => 0
  | d + 1, e => 1 + (e.args.map (szB d)).sum
theorem sum_take_le : ∀ (l : List Nat) (i : Nat), (l.take i).sum ≤ l.sum
  | [], i => by simp
  | a :: l, 0 => by simp
  | a :: l, i + 1 => by have := sum_take_le l i; simp; omega
theorem szB_pos {P : Nat → Prop} {m : Mem} {d : Nat} {v : Value} {e : BX} (h : BAt P m d v e) : 1 ≤ szB d e := by
  cases d with
  | zero => exact h.elim
  | succ d => simp only [szB]; omega
theorem BAt.len_sz {P : Nat → Prop} {m : Mem} {d : Nat} {v : Value} {e : BX} (h : BAt P m (d + 1) v e) : e.args.length ≤ (e.args.map (szB d)).sum := by
  obtain ⟨d', q, cap, hd, rfl⟩ := h.agg
  have h1 : ∀ a ∈ e.args, 1 ≤ szB d a := fun a ha => by
    obtain ⟨i, hi⟩ := List.getElem?_of_mem ha
    obtain ⟨b, o, r, c, _, _, _, _, _, hat⟩ := h.arg hi
    exact szB_pos hat
  have : ∀ l : List BX, (∀ a ∈ l, 1 ≤ szB d a) → l.length ≤ (l.map (szB d)).sum := by
    intro l
    induction l with
    | nil => intro _; simp
    | cons a l ih =>
      intro h
      have h2 := h a (by simp)
      have h3 := ih fun b hb => h b (by simp [hb])
      simp; omega
  exact this _ h1
theorem sz_take {d : Nat} {l : List BX} {i : Nat} {a : BX} (h : l[i]? = some a) : ((l.take i).map (szB d)).sum + szB d a ≤ (l.map (szB d)).sum := by
  have h1 := sum_take_le (l.map (szB d)) (i + 1)
  rw [← List.map_take, List.take_add_one, h] at h1
  simp at h1; rw [List.map_take]; exact h1
def firstE : List Nat → Nat
  | [] => 0
  | x :: l => if x = 0 then firstE l else x
theorem okf115 : okF Tryd.prog H0 115 19 = true := by kernel_rfl
theorem spec_size (d : Nat) : ∀ {m : Mem} {P : Nat → Prop} {v : Value} {e : BX}, BAt P m d v e → szB d e ≤ 1000000 → ∃ v' m', ACalls Tryd.prog 115 #[v] m v' m' ∧ (v' = nv (szB d e) ∧ Ext m m') := by
  induction d
  · intro m P v e h; exact h.elim
  rename_i d ih
  intro m P v e h hs
  obtain ⟨d', q, cap, hd, rfl⟩ := h.agg
  cases hd
  refine wpF (args := [_]) mixed okf115 (fn := Tryd.f115) rfl rfl rfl (by simp) ?_
  refine cSeq ?_
  refine cRegion ?_
  refine sBox (v := .agg _) rfl ?_
  change wpOps _ _ _ _ _ (m.push (.cells true #[.int .i64 e.kind, .int .i64 e.var, .slice q e.args.length cap]))
  have e1 : Ext m (m.push (.cells true #[.int .i64 e.kind, .int .i64 e.var, .slice q e.args.length cap])) := .push _ _
  have g1 : Mem.get (m.push (.cells true #[.int .i64 e.kind, .int .i64 e.var, .slice q e.args.length cap])) m.size = .cells true #[.int .i64 e.kind, .int .i64 e.var, .slice q e.args.length cap] := gP rfl
  generalize m.push (.cells true #[.int .i64 e.kind, .int .i64 e.var, .slice q e.args.length cap]) = m1 at *
  refine sAs (v := nv 0) rfl ?_
  refine sNil (kSeqN ?_)
  refine cSeq ?_
  refine cRegion ?_
  refine sAs (v := nv 1) rfl ?_
  refine sNil (kSeqN ?_)
  refine cSeq ?_
  refine cSeq ?_
  refine cRegion ?_
  refine sFA F66_2 rfl ?_
  refine sLd (v := .slice q e.args.length cap) A64 rfl g1 rfl ?_
  refine sLen T64 rfl ?_
  refine sMv (v := nv 0) rfl ?_
  refine sNil (kSeqN ?_)
  refine cBlock ?_
  refine wpC_loop (fun k ρ m' => ∃ i n, k = e.args.length - i ∧ i ≤ e.args.length ∧ Ext m1 m' ∧ n = 1 + ((e.args.take i).map (szB d)).sum ∧ Has ρ [(3, nv n), (7, .slice q e.args.length cap), (8, nv e.args.length), (9, nv i)]) ⟨0, 1, rfl, Nat.zero_le _, .refl _, rfl, rfl, rfl, rfl, rfl, trivial⟩ ?_
  rintro k ρ m' ⟨i, n, rfl, hi, hE, hn, hh⟩
  rw [hh.env]; clear hh
  have hsum : 1 + (e.args.map (szB d)).sum ≤ 1000000 := hs
  have hlen := h.len_sz
  refine cSeq ?_
  refine cRegion ?_
  refine sBin rfl rfl (aInt_lss) ?_
  refine sNil (kSeqN ?_)
  refine cSeq ?_
  refine cCond rfl (fun c0 => ?_) (fun c0 => ?_)
  · obtain ⟨a, ha⟩ : ∃ a, e.args[i]? = some a := ⟨_, List.getElem?_eq_getElem c0⟩
    have hst := sz_take (d := d) ha
    obtain ⟨b, o, r, c, rfl, _, hPb, hb, hsz, hat⟩ := h.arg ha
    have hb' := hE.cells (e1.cells hb)
    have hat' := (hat.ext e1).ext hE
    refine cSkip (kSeqN ?_)
    refine cSeq ?_
    refine cBlock ?_
    refine cSeq ?_
    refine cRegion ?_
    refine sIx T64 S66 rfl rfl (by omega) ?_
    refine sLdA A66 S66 rfl hb' hsz ?_
    obtain ⟨da, qa, ca, hda, hca⟩ := hat'.agg
    refine sAlloc Z66 (by kernel_rfl) ?_
    rw [hca]
    refine sStNA S66 rfl rfl rfl rfl (by kernel_rfl) ?_
    rw [hca] at hat'
    refine sNil (kSeqN ?_)
    refine cRegion ?_
    refine sMv (v := nv _) rfl ?_
    refine sLdAll A66 S66 rfl (gP rfl) rfl ?_
    obtain ⟨v15, m15, h15, rfl, e15⟩ := ih (hat'.ext (.push _ _)) (by omega)
    refine sCall1 rfl call115 rfl h15 ?_
    refine sBin (a := n) (b := szB d a) rfl rfl (aInt_add (by omega)) ?_
    refine sAs (v := nv _) rfl ?_
    refine sNil (kBlkN (kSeqN ?_))
    refine cRegion ?_
    refine sBin rfl rfl (aInt_add (b := 1) (by omega)) ?_
    refine sMv (v := nv _) rfl ?_
    refine sNil (kSeqN ?_)
    refine ⟨_, ?_, i + 1, _, rfl, by omega, (hE.push' _).trans e15, ?_, rfl, rfl, rfl, rfl, trivial⟩
    · omega
    · rw [List.take_add_one, ha, hn]; simp; omega
  · obtain rfl : i = e.args.length := by omega
    rw [List.take_length] at hn
    subst hn
    refine cExit (kSeqE (kSeqE (kBlkS (kSeqN ?_))))
    refine cSeq ?_
    refine cRegion ?_
    refine sMv (v := nv _) rfl ?_
    refine sAs (v := nv _) rfl ?_
    refine sNil (kSeqN ?_)
    refine cRet ?_
    exact ⟨.inr rfl, _, rfl, rfl, e1.trans hE⟩
theorem okf141 : okF Tryd.prog H0 141 19 = true := by kernel_rfl
theorem spec_first {m : Mem} {a : Value} {l : List Nat} (ha : IntsAt m a (ofs l)) (hl : l.length ≤ 1000000) : ∃ v m', ACalls Tryd.prog 141 #[nv 0, a] m v m' ∧ (v = nv (firstE l) ∧ m = m') := by
  obtain ⟨q, cap, rfl⟩ := ha.lenN
  refine wpF (args := [_, _]) mixed okf141 (fn := Tryd.f141) rfl rfl rfl (by simp) ?_
  refine cSeq ?_
  refine cRegion ?_
  refine sAs (v := nv 0) rfl ?_
  refine sNil (kSeqN ?_)
  refine cSeq ?_
  refine cSeq ?_
  refine cRegion ?_
  refine sMv (v := .slice _ _ _) rfl ?_
  refine sLen T161 rfl ?_
  refine sMv (v := nv 0) rfl ?_
  refine sNil (kSeqN ?_)
  refine cBlock ?_
  refine wpC_loop (fun k ρ m' => ∃ i, k = l.length - i ∧ i ≤ l.length ∧ m = m' ∧ firstE (l.drop i) = firstE l ∧ Has ρ [(0, nv 0), (7, .slice q l.length cap), (8, nv l.length), (9, nv i)]) ⟨0, rfl, Nat.zero_le _, rfl, rfl, rfl, rfl, rfl, rfl, trivial⟩ ?_
  rintro k ρ _ ⟨i, rfl, hi, rfl, hf, hh⟩
  rw [hh.env]; clear hh
  refine cSeq ?_
  refine cRegion ?_
  refine sBin rfl rfl (aInt_lss) ?_
  refine sNil (kSeqN ?_)
  refine cSeq ?_
  refine cCond rfl (fun c0 => ?_) (fun c0 => ?_)
  · obtain ⟨b, o, cp, r, c, e1, hb, hc⟩ := ha.atN (by omega)
    cases e1
    have hdr : l.drop i = l[i] :: l.drop (i + 1) := List.drop_eq_getElem_cons c0
    refine cSkip (kSeqN ?_)
    refine cSeq ?_
    refine cBlock ?_
    refine cSeq ?_
    refine cRegion ?_
    refine sIx T161 S25 rfl rfl c0 ?_
    refine sLd (v := nv l[i]) A25 rfl hb (hc i _ (List.getElem?_eq_getElem c0)) ?_
    refine sAs (v := nv _) rfl ?_
    refine sNil (kSeqN ?_)
    refine cSeq ?_
    refine cRegion ?_
    refine sMv (v := nv _) rfl ?_
    refine sMv (v := nv _) rfl ?_
    refine sBin (a := l[i]) (b := 0) rfl rfl aInt_neq ?_
    refine sNil (kSeqN ?_)
    refine cCond (p := l[i] ≠ 0) rfl (fun c1 => ?_) (fun c1 => ?_)
    · refine cSeq ?_
      refine cRegion ?_
      refine sMv (v := nv _) rfl ?_
      refine sAs (v := nv _) rfl ?_
      refine sNil (kSeqN ?_)
      refine cRet (kBlkR (kSeqR (kSeqR (kBlkR (kSeqR ?_)))))
      exact ⟨.inr rfl, _, rfl, by rw [← hf, hdr, firstE, if_neg c1]; rfl, rfl⟩
    · refine cSkip (kBlkN (kSeqN ?_))
      refine cRegion ?_
      refine sBin rfl rfl (aInt_add (b := 1) (by omega)) ?_
      refine sMv (v := nv _) rfl ?_
      refine sNil (kSeqN ?_)
      refine ⟨_, ?_, i + 1, rfl, by omega, rfl, ?_, rfl, rfl, rfl, rfl, trivial⟩
      · omega
      · rw [← hf, hdr, firstE, if_pos (Decidable.not_not.1 c1)]
  · obtain rfl : i = l.length := by omega
    refine cExit (kSeqE (kSeqE (kBlkS (kSeqN ?_))))
    refine cSeq ?_
    refine cRegion ?_
    refine sMv (v := nv _) rfl ?_
    refine sAs (v := nv _) rfl ?_
    refine sNil (kSeqN ?_)
    refine cRet ?_
    exact ⟨.inr rfl, _, rfl, by rw [← hf, List.drop_length]; rfl, rfl⟩
end Go.AM

/-! ### R20 -/
namespace Go.AM
open Go.Proofs
theorem Z25' : zeroOf Tryd.prog 25 = some (nv 0) := by kernel_rfl
theorem App161 : AppT Tryd.prog 161 161 := ⟨_, _, _, T161, T161, rfl, S25, Z25', rfl, by kernel_rfl⟩
def GlobW (m : Mem) : Prop := ∃ r, Mem.get m 2 = .cells r #[nv 0, nv 0, nv 1, nv 2, nv 2, nv 2, nv 0, nv 0]
theorem GlobW.ext {m m' : Mem} (h : GlobW m) (he : Ext m m') : GlobW m' := by
  obtain ⟨r, h⟩ := h; exact ⟨r, he.cells h⟩
def wantsN (k : Nat) : Nat := [0, 0, 1, 2, 2, 2, 0, 0].getD k 0
def fmB (vars : Int) : Nat → BX → Nat
  | 0, _ => 9
  | d + 1, e => if e.kind < 1 ∨ 7 < e.kind then 3 else if e.args.length ≠ wantsN e.kind.toNat ∨ (e.kind ≠ 1 ∧ e.var ≠ 0) then 7 else if e.kind = 1 ∧ (e.var < 0 ∨ vars ≤ e.var) then 1 else firstE (e.args.map (fmB vars d))
theorem okf116 : okF Tryd.prog H0 116 67 = true := by kernel_rfl
theorem formed_V (vars : Int) (d : Nat) (ih : ∀ {m : Mem} {P : Nat → Prop} {v : Value} {e : BX}, GlobW m → BAt P m d v e → szB d e ≤ 1000000 → ∃ v' m', ACalls Tryd.prog 116 #[v, .int .i64 vars] m v' m' ∧ (v' = nv (fmB vars d e) ∧ Ext m m')) {m : Mem} {P : Nat → Prop} {v : Value} {e : BX} (hG : GlobW m) (h : BAt P m (d + 1) v e) (hs : szB (d + 1) e ≤ 1000000) (hk : e.kind = 1) : ∃ v' m', ACalls Tryd.prog 116 #[v, .int .i64 vars] m v' m' ∧ (v' = nv (fmB vars (d + 1) e) ∧ Ext m m') := by
  have hA : e.args.length ≠ 0 → fmB vars (d + 1) e = 7 := fun h => by
    rw [fmB, if_neg (by omega), if_pos (.inl (by rw [hk]; exact h))]
  have hB : ¬ e.args.length ≠ 0 → (e.var < 0 ∨ vars ≤ e.var) → fmB vars (d + 1) e = 1 := fun h1 h2 => by
    rw [fmB, if_neg (by omega), if_neg (by rintro (h | h); (rw [hk] at h; exact h1 h); exact h.1 hk), if_pos ⟨hk, h2⟩]
  have hC : ¬ e.args.length ≠ 0 → ¬ (e.var < 0 ∨ vars ≤ e.var) → fmB vars (d + 1) e = firstE (e.args.map (fmB vars d)) := fun h1 h2 => by
    rw [fmB, if_neg (by omega), if_neg (by rintro (h | h); (rw [hk] at h; exact h1 h); exact h.1 hk), if_neg (fun h => h2 h.2)]
  obtain ⟨d', q, cap, hd, rfl⟩ := h.agg
  rw [hk] at h ⊢
  refine wpF (args := [_, _]) mixed okf116 (fn := Tryd.f116) rfl rfl rfl (by simp) ?_
  refine cSeq ?_
  refine cRegion ?_
  refine sBox (v := .agg _) rfl ?_
  change wpOps _ _ _ _ _ (m.push (.cells true #[.int .i64 1, .int .i64 e.var, .slice q e.args.length cap]))
  have e1 : Ext m (m.push (.cells true #[.int .i64 1, .int .i64 e.var, .slice q e.args.length cap])) := .push _ _
  have g1 : Mem.get (m.push (.cells true #[.int .i64 1, .int .i64 e.var, .slice q e.args.length cap])) m.size = .cells true #[.int .i64 1, .int .i64 e.var, .slice q e.args.length cap] := gP rfl
  generalize m.push (.cells true #[.int .i64 1, .int .i64 e.var, .slice q e.args.length cap]) = m1 at *
  obtain ⟨rg, gg⟩ := hG.ext e1
  refine sAs (v := nv 0) rfl ?_
  refine sNil (kSeqN ?_)
  refine cCut (fun ρ m' => m1 = m' ∧ fmB vars (d + 1) e = firstE (e.args.map (fmB vars d)) ∧ Has ρ [(1, .int .i64 vars), (2, .pointer (some ⟨m.size, 0, none⟩))]) ?_ ?_
  · refine cBlock ?_
    refine cSeq ?_
    refine cRegion ?_
    refine sFA F66_0 rfl ?_
    refine sLd (v := nv 1) A3 rfl g1 rfl ?_
    refine sBinI (v := .bool false) rfl rfl rfl ?_
    refine sMv (v := .bool false) rfl ?_
    refine sG rfl rfl ?_
    refine sFA F66_0 rfl ?_
    refine sG rfl rfl ?_
    refine sLd (v := nv 1) A3 rfl g1 rfl ?_
    refine sG rfl rfl ?_
    refine sBinI (v := .bool false) rfl rfl rfl ?_
    refine sP (v := .bool false) rfl ?_
    refine sAs (v := .bool _) rfl ?_
    refine sNil (kSeqN ?_)
    refine cCondF rfl ?_
    refine cSeq ?_
    refine cDraw rfl ?_
    refine sFA F66_2 rfl ?_
    refine sLd (v := .slice q e.args.length cap) A64 rfl g1 rfl ?_
    refine sLen T64 rfl ?_
    refine sFA F66_0 rfl ?_
    refine sLd (v := nv 1) A3 rfl g1 rfl ?_
    refine sIxA T108 S3 rfl rfl (by omega) ?_
    refine sLd (v := nv 0) A3 rfl gg rfl ?_
    refine sBin (a := e.args.length) (b := 0) rfl rfl aInt_neq ?_
    refine sMv (v := .bool _) rfl ?_
    by_cases hl0 : e.args.length ≠ 0
    · rw [decide_eq_true hl0]
      refine sGno (q' := true) rfl rfl (by simp) ?_
      refine sGno (q' := true) rfl rfl (by simp) ?_
      refine sGno (q' := true) rfl rfl (by simp) ?_
      refine sGno (q' := true) rfl rfl (by simp) ?_
      refine sGnoU rfl rfl ?_
      refine sGnoU rfl rfl ?_
      refine sGnoU rfl rfl ?_
      refine sGno (q' := true) rfl rfl (by simp) ?_
      refine sP (v := .bool _) rfl ?_
      refine sAs (v := .bool _) rfl ?_
      refine sNil (kSeqN ?_)
      refine cCondT rfl ?_
      refine cSeq ?_
      refine cRegion ?_
      refine sAs (v := nv 7) rfl ?_
      refine sNil (kSeqN ?_)
      refine cRet (kBlkR (kSeqR ?_))
      exact ⟨.inr rfl, _, rfl, by rw [hA hl0]; rfl, e1⟩
    · rw [decide_eq_false hl0]
      refine sG rfl rfl ?_
      refine sFA F66_0 rfl ?_
      refine sG rfl rfl ?_
      refine sLd (v := nv 1) A3 rfl g1 rfl ?_
      refine sG rfl rfl ?_
      refine sBinI (v := .bool false) rfl rfl rfl ?_
      refine sG rfl rfl ?_
      refine sMv (v := .bool false) rfl ?_
      refine sGno (q' := false) rfl rfl (by simp) ?_
      refine sGno (q' := false) rfl rfl (by simp) ?_
      refine sGno (q' := false) rfl rfl (by simp) ?_
      refine sG rfl rfl ?_
      refine sP (v := .bool false) rfl ?_
      refine sP (v := .bool _) rfl ?_
      refine sAs (v := .bool _) rfl ?_
      refine sNil (kSeqN ?_)
      refine cCondF rfl ?_
      refine cSeq ?_
      refine cRegion ?_
      refine sFA F66_0 rfl ?_
      refine sLd (v := nv 1) A3 rfl g1 rfl ?_
      refine sBinI (v := .bool true) rfl rfl rfl ?_
      refine sMv (v := .bool true) rfl ?_
      refine sG rfl rfl ?_
      refine sFA F66_1 rfl ?_
      refine sG rfl rfl ?_
      refine sLd (v := .int .i64 e.var) A3 rfl g1 rfl ?_
      refine sG rfl rfl ?_
      refine sBinI (v := .bool (decide (e.var < 0))) rfl rfl aInt_lssI ?_
      refine sG rfl rfl ?_
      refine sMv (v := .bool _) rfl ?_
      by_cases hx0 : e.var < 0
      · rw [decide_eq_true hx0]
        refine sGno (q' := true) rfl rfl (by simp) ?_
        refine sGno (q' := true) rfl rfl (by simp) ?_
        refine sGno (q' := true) rfl rfl (by simp) ?_
        refine sGno (q' := true) rfl rfl (by simp) ?_
        refine sG rfl rfl ?_
        refine sP (v := .bool _) rfl ?_
        refine sP (v := .bool _) rfl ?_
        refine sAs (v := .bool _) rfl ?_
        refine sNil (kSeqN ?_)
        refine cCondT rfl ?_
        refine cSeq ?_
        refine cRegion ?_
        refine sAs (v := nv 1) rfl ?_
        refine sNil (kSeqN ?_)
        refine cRet (kBlkR (kSeqR ?_))
        exact ⟨.inr rfl, _, rfl, by rw [hB hl0 (.inl hx0)]; rfl, e1⟩
      · rw [decide_eq_false hx0]
        refine sG rfl rfl ?_
        refine sFA F66_1 rfl ?_
        refine sG rfl rfl ?_
        refine sLd (v := .int .i64 e.var) A3 rfl g1 rfl ?_
        refine sG rfl rfl ?_
        refine sMv (v := .int .i64 vars) rfl ?_
        refine sG rfl rfl ?_
        refine sBinI (v := .bool (decide (vars ≤ e.var))) rfl rfl aInt_geqI ?_
        refine sG rfl rfl ?_
        refine sP (v := .bool _) rfl ?_
        refine sP (v := .bool _) rfl ?_
        refine sAs (v := .bool _) rfl ?_
        refine sNil (kSeqN ?_)
        refine cCond (p := vars ≤ e.var) rfl (fun c4 => ?_) (fun c4 => ?_)
        · refine cSeq ?_
          refine cRegion ?_
          refine sAs (v := nv 1) rfl ?_
          refine sNil (kSeqN ?_)
          refine cRet (kBlkR (kSeqR ?_))
          exact ⟨.inr rfl, _, rfl, by rw [hB hl0 (.inr c4)]; rfl, e1⟩
        · refine cSkip (kBlkN (kSeqN ?_))
          exact ⟨rfl, hC hl0 (fun h => by rcases h with h | h; exact hx0 h; exact c4 h), rfl, rfl, trivial⟩
  rintro ρ _ ⟨rfl, hfm, hh⟩
  rw [hh.env]; clear hh
  refine cSeq ?_
  refine cRegion ?_
  refine sAs (v := .slice none 0 0) rfl ?_
  refine sNil (kSeqN ?_)
  refine cSeq ?_
  refine cSeq ?_
  refine cRegion ?_
  refine sFA F66_2 rfl ?_
  refine sLd (v := .slice q e.args.length cap) A64 rfl g1 rfl ?_
  refine sLen T64 rfl ?_
  refine sMv (v := nv 0) rfl ?_
  refine sNil (kSeqN ?_)
  refine cBlock ?_
  refine wpC_loop (fun k ρ m' => ∃ i v, k = e.args.length - i ∧ i ≤ e.args.length ∧ Ext m1 m' ∧ OwnF m1.size m' v (ofs ((e.args.take i).map (fmB vars d))) ∧ Has ρ [(1, .int .i64 vars), (5, v), (52, .slice q e.args.length cap), (53, nv e.args.length), (54, nv i)]) ⟨0, _, rfl, Nat.zero_le _, .refl _, .nil _ _, rfl, rfl, rfl, rfl, rfl, trivial⟩ ?_
  rintro k ρ m' ⟨i, v, rfl, hi, hE, hO, hh⟩
  obtain ⟨qv, cv, rfl⟩ := hO.ints.lenN
  rw [hh.env]; clear hh
  have hlen := h.len_sz
  have hsum : 1 + (e.args.map (szB d)).sum ≤ 1000000 := hs
  have htl : ((e.args.take i).map (fmB vars d)).length = i := by simp; omega
  refine cSeq ?_
  refine cRegion ?_
  refine sBin rfl rfl (aInt_lss) ?_
  refine sNil (kSeqN ?_)
  refine cSeq ?_
  refine cCond rfl (fun c5 => ?_) (fun c5 => ?_)
  · obtain ⟨a, ha⟩ : ∃ a, e.args[i]? = some a := ⟨_, List.getElem?_eq_getElem c5⟩
    have hst := sz_take (d := d) ha
    obtain ⟨b, o, r, c, rfl, _, hPb, hb, hsz, hat⟩ := h.arg ha
    have hb' := hE.cells (e1.cells hb)
    have hat' := (hat.ext e1).ext hE
    refine cSkip (kSeqN ?_)
    refine cSeq ?_
    refine cBlock ?_
    refine cSeq ?_
    refine cRegion ?_
    refine sIx T64 S66 rfl rfl (by omega) ?_
    refine sLdA A66 S66 rfl hb' hsz ?_
    obtain ⟨da, qa, ca, hda, hca⟩ := hat'.agg
    refine sAlloc Z66 (by kernel_rfl) ?_
    rw [hca]
    refine sStNA S66 rfl rfl rfl rfl (by kernel_rfl) ?_
    rw [hca] at hat'
    refine sNil (kSeqN ?_)
    refine cRegion ?_
    refine sMv (v := .slice _ _ _) rfl ?_
    refine sLdAll A66 S66 rfl (gP rfl) rfl ?_
    refine sMv (v := .int .i64 vars) rfl ?_
    obtain ⟨v15, m15, h15, rfl, e15⟩ := ih (((hG.ext e1).ext hE).ext (.push _ _)) (hat'.ext (.push _ _)) (by omega)
    refine sCall2 rfl call116 rfl rfl h15 ?_
    refine sBuildS T161 S25 Z25' (by decide) (by decide) (by decide) (by kernel_rfl) fill1 rfl ?_
    refine sApp App161 rfl rfl (N := m1.size) (((hO.ext (.push _ _)).ext e15).ext (.push _ _)) one_ints (by have := e15.1; have := hE.1; simp at *; omega) (by rw [ofs_length]; simp; omega) fun v4 m4 hO4 hL4 => ?_
    rw [show ofs ((e.args.take i).map (fmB vars d)) ++ [Int.ofNat (fmB vars d a)] = ofs ((e.args.take (i + 1)).map (fmB vars d)) by rw [List.take_add_one, ha]; simp [ofs]] at hO4
    refine sAs (v := v4) rfl ?_
    refine sNil (kBlkN (kSeqN ?_))
    refine cRegion ?_
    refine sBin rfl rfl (aInt_add (b := 1) (by omega)) ?_
    refine sMv (v := nv _) rfl ?_
    refine sNil (kSeqN ?_)
    refine ⟨_, ?_, i + 1, _, rfl, by omega, Low.to_ext (((hE.push' _).trans e15).push' _) hL4 (Nat.le_refl _), hO4, rfl, rfl, rfl, rfl, rfl, trivial⟩
    omega
  · obtain rfl : i = e.args.length := by omega
    rw [List.take_length] at *
    refine cExit (kSeqE (kSeqE (kBlkS (kSeqN ?_))))
    refine cSeq ?_
    refine cRegion ?_
    refine sMv (v := .slice _ _ _) rfl ?_
    obtain ⟨v66, m66, h66, rfl, rfl⟩ := spec_first hO.ints (by simp; omega)
    refine sCall2 rfl call141 rfl rfl h66 ?_
    refine sAs (v := nv _) rfl ?_
    refine sNil (kSeqN ?_)
    refine cRet ?_
    exact ⟨.inr rfl, _, rfl, by rw [hfm]; rfl, e1.trans hE⟩
end Go.AM

/-! ### R21 -/
namespace Go.AM
open Go.Proofs
theorem wants_get {kn : Nat} (h : kn ≤ 7) : (#[nv 0, nv 0, nv 1, nv 2, nv 2, nv 2, nv 0, nv 0] : Array Value)[0 + kn * 1]? = some (nv (wantsN kn)) := by
  have : kn = 0 ∨ kn = 1 ∨ kn = 2 ∨ kn = 3 ∨ kn = 4 ∨ kn = 5 ∨ kn = 6 ∨ kn = 7 := by omega
  rcases this with rfl | rfl | rfl | rfl | rfl | rfl | rfl | rfl <;> rfl
theorem formed_bad (vars : Int) (d : Nat) {m : Mem} {P : Nat → Prop} {v : Value} {e : BX} (h : BAt P m (d + 1) v e) (hk : e.kind < 1 ∨ 7 < e.kind) : ∃ v' m', ACalls Tryd.prog 116 #[v, .int .i64 vars] m v' m' ∧ (v' = nv (fmB vars (d + 1) e) ∧ Ext m m') := by
  have hA : fmB vars (d + 1) e = 3 := by rw [fmB, if_pos hk]
  obtain ⟨d', q, cap, hd, rfl⟩ := h.agg
  refine wpF (args := [_, _]) mixed okf116 (fn := Tryd.f116) rfl rfl rfl (by simp) ?_
  refine cSeq ?_
  refine cRegion ?_
  refine sBox (v := .agg _) rfl ?_
  change wpOps _ _ _ _ _ (m.push (.cells true #[.int .i64 e.kind, .int .i64 e.var, .slice q e.args.length cap]))
  have e1 : Ext m (m.push (.cells true #[.int .i64 e.kind, .int .i64 e.var, .slice q e.args.length cap])) := .push _ _
  have g1 : Mem.get (m.push (.cells true #[.int .i64 e.kind, .int .i64 e.var, .slice q e.args.length cap])) m.size = .cells true #[.int .i64 e.kind, .int .i64 e.var, .slice q e.args.length cap] := gP rfl
  generalize m.push (.cells true #[.int .i64 e.kind, .int .i64 e.var, .slice q e.args.length cap]) = m1 at *
  refine sAs (v := nv 0) rfl ?_
  refine sNil (kSeqN ?_)
  refine cSeq ?_
  refine cBlock ?_
  refine cSeq ?_
  refine cRegion ?_
  refine sFA F66_0 rfl ?_
  refine sLd (v := .int .i64 e.kind) A3 rfl g1 rfl ?_
  refine sBinI (v := .bool (decide (e.kind < 1))) rfl rfl aInt_lssI ?_
  refine sMv (v := .bool _) rfl ?_
  by_cases hng : e.kind < 1
  · rw [decide_eq_true hng]
    refine sGno (q' := true) rfl rfl (by simp) ?_
    refine sGno (q' := true) rfl rfl (by simp) ?_
    refine sGno (q' := true) rfl rfl (by simp) ?_
    refine sP (v := .bool true) rfl ?_
    refine sAs (v := .bool _) rfl ?_
    refine sNil (kSeqN ?_)
    refine cCondT rfl ?_
    refine cSeq ?_
    refine cRegion ?_
    refine sAs (v := nv 3) rfl ?_
    refine sNil (kSeqN ?_)
    refine cRet (kBlkR (kSeqR ?_))
    exact ⟨.inr rfl, _, rfl, by rw [hA]; rfl, e1⟩
  · rw [decide_eq_false hng]
    have h7 : 7 < e.kind := by omega
    refine sG rfl rfl ?_
    refine sFA F66_0 rfl ?_
    refine sG rfl rfl ?_
    refine sLd (v := .int .i64 e.kind) A3 rfl g1 rfl ?_
    refine sG rfl rfl ?_
    refine sBinI (v := .bool true) rfl rfl (by rw [aInt_gtrI, decide_eq_true h7]) ?_
    refine sP (v := .bool true) rfl ?_
    refine sAs (v := .bool _) rfl ?_
    refine sNil (kSeqN ?_)
    refine cCondT rfl ?_
    refine cSeq ?_
    refine cRegion ?_
    refine sAs (v := nv 3) rfl ?_
    refine sNil (kSeqN ?_)
    refine cRet (kBlkR (kSeqR ?_))
    exact ⟨.inr rfl, _, rfl, by rw [hA]; rfl, e1⟩
theorem formed_N (vars : Int) (d : Nat) (ih : ∀ {m : Mem} {P : Nat → Prop} {v : Value} {e : BX}, GlobW m → BAt P m d v e → szB d e ≤ 1000000 → ∃ v' m', ACalls Tryd.prog 116 #[v, .int .i64 vars] m v' m' ∧ (v' = nv (fmB vars d e) ∧ Ext m m')) {m : Mem} {P : Nat → Prop} {v : Value} {e : BX} (hG : GlobW m) (h : BAt P m (d + 1) v e) (hs : szB (d + 1) e ≤ 1000000) {kn : Nat} (hk : e.kind = Int.ofNat kn) (hk2 : 2 ≤ kn) (hk7 : kn ≤ 7) : ∃ v' m', ACalls Tryd.prog 116 #[v, .int .i64 vars] m v' m' ∧ (v' = nv (fmB vars (d + 1) e) ∧ Ext m m') := by
  have h17 : ¬ (e.kind < 1 ∨ 7 < e.kind) := by rw [hk]; simp only [Int.ofNat_eq_natCast]; omega
  have h1k : e.kind ≠ 1 := by rw [hk]; simp only [Int.ofNat_eq_natCast]; omega
  have htn : e.kind.toNat = kn := by rw [hk]; rfl
  have hA : e.args.length ≠ wantsN kn → fmB vars (d + 1) e = 7 := fun h => by
    rw [fmB, if_neg h17, htn, if_pos (.inl h)]
  have hB : ¬ e.args.length ≠ wantsN kn → e.var ≠ 0 → fmB vars (d + 1) e = 7 := fun _ h => by
    rw [fmB, if_neg h17, if_pos (.inr ⟨h1k, h⟩)]
  have hC : ¬ e.args.length ≠ wantsN kn → ¬ e.var ≠ 0 → fmB vars (d + 1) e = firstE (e.args.map (fmB vars d)) := fun h1 h2 => by
    rw [fmB, if_neg h17, htn, if_neg (by rintro (h | h); exact h1 h; exact h2 h.2), if_neg (fun h => h1k h.1)]
  obtain ⟨d', q, cap, hd, rfl⟩ := h.agg
  rw [hk] at h h1k ⊢
  refine wpF (args := [_, _]) mixed okf116 (fn := Tryd.f116) rfl rfl rfl (by simp) ?_
  refine cSeq ?_
  refine cRegion ?_
  refine sBox (v := .agg _) rfl ?_
  change wpOps _ _ _ _ _ (m.push (.cells true #[nv kn, .int .i64 e.var, .slice q e.args.length cap]))
  have e1 : Ext m (m.push (.cells true #[nv kn, .int .i64 e.var, .slice q e.args.length cap])) := .push _ _
  have g1 : Mem.get (m.push (.cells true #[nv kn, .int .i64 e.var, .slice q e.args.length cap])) m.size = .cells true #[nv kn, .int .i64 e.var, .slice q e.args.length cap] := gP rfl
  generalize m.push (.cells true #[nv kn, .int .i64 e.var, .slice q e.args.length cap]) = m1 at *
  obtain ⟨rg, gg⟩ := hG.ext e1
  refine sAs (v := nv 0) rfl ?_
  refine sNil (kSeqN ?_)
  refine cCut (fun ρ m' => m1 = m' ∧ fmB vars (d + 1) e = firstE (e.args.map (fmB vars d)) ∧ Has ρ [(1, .int .i64 vars), (2, .pointer (some ⟨m.size, 0, none⟩))]) ?_ ?_
  · refine cBlock ?_
    refine cSeq ?_
    refine cRegion ?_
    refine sFA F66_0 rfl ?_
    refine sLd (v := nv kn) A3 rfl g1 rfl ?_
    refine sBinI (v := .bool false) rfl rfl (by rw [aInt_lssI, decide_eq_false (by simp only [Int.ofNat_eq_natCast]; omega)]) ?_
    refine sMv (v := .bool false) rfl ?_
    refine sG rfl rfl ?_
    refine sFA F66_0 rfl ?_
    refine sG rfl rfl ?_
    refine sLd (v := nv kn) A3 rfl g1 rfl ?_
    refine sG rfl rfl ?_
    refine sBinI (v := .bool false) rfl rfl (by rw [aInt_gtrI, decide_eq_false (by simp only [Int.ofNat_eq_natCast]; omega)]) ?_
    refine sP (v := .bool false) rfl ?_
    refine sAs (v := .bool _) rfl ?_
    refine sNil (kSeqN ?_)
    refine cCondF rfl ?_
    refine cSeq ?_
    refine cDraw rfl ?_
    refine sFA F66_2 rfl ?_
    refine sLd (v := .slice q e.args.length cap) A64 rfl g1 rfl ?_
    refine sLen T64 rfl ?_
    refine sFA F66_0 rfl ?_
    refine sLd (v := nv kn) A3 rfl g1 rfl ?_
    refine sIxA T108 S3 rfl rfl (by omega) ?_
    refine sLd (v := nv (wantsN kn)) A3 rfl gg (wants_get hk7) ?_
    refine sBin (a := e.args.length) (b := wantsN kn) rfl rfl aInt_neq ?_
    refine sMv (v := .bool _) rfl ?_
    by_cases hl0 : e.args.length ≠ wantsN kn
    · rw [decide_eq_true hl0]
      refine sGno (q' := true) rfl rfl (by simp) ?_
      refine sGno (q' := true) rfl rfl (by simp) ?_
      refine sGno (q' := true) rfl rfl (by simp) ?_
      refine sGno (q' := true) rfl rfl (by simp) ?_
      refine sGnoU rfl rfl ?_
      refine sGnoU rfl rfl ?_
      refine sGnoU rfl rfl ?_
      refine sGno (q' := true) rfl rfl (by simp) ?_
      refine sP (v := .bool _) rfl ?_
      refine sAs (v := .bool _) rfl ?_
      refine sNil (kSeqN ?_)
      refine cCondT rfl ?_
      refine cSeq ?_
      refine cRegion ?_
      refine sAs (v := nv 7) rfl ?_
      refine sNil (kSeqN ?_)
      refine cRet (kBlkR (kSeqR ?_))
      exact ⟨.inr rfl, _, rfl, by rw [hA hl0]; rfl, e1⟩
    · rw [decide_eq_false hl0]
      refine sG rfl rfl ?_
      refine sFA F66_0 rfl ?_
      refine sG rfl rfl ?_
      refine sLd (v := nv kn) A3 rfl g1 rfl ?_
      refine sG rfl rfl ?_
      refine sBinI (v := .bool true) rfl rfl (by rw [aInt_neqI, decide_eq_true h1k]) ?_
      refine sG rfl rfl ?_
      refine sMv (v := .bool true) rfl ?_
      refine sG rfl rfl ?_
      refine sFA F66_1 rfl ?_
      refine sG rfl rfl ?_
      refine sLd (v := .int .i64 e.var) A3 rfl g1 rfl ?_
      refine sG rfl rfl ?_
      refine sBinI (v := .bool (decide (e.var ≠ 0))) rfl rfl aInt_neqI ?_
      refine sG rfl rfl ?_
      refine sP (v := .bool _) rfl ?_
      refine sP (v := .bool _) rfl ?_
      refine sAs (v := .bool _) rfl ?_
      refine sNil (kSeqN ?_)
      refine cCond (p := e.var ≠ 0) rfl (fun c2 => ?_) (fun c2 => ?_)
      · refine cSeq ?_
        refine cRegion ?_
        refine sAs (v := nv 7) rfl ?_
        refine sNil (kSeqN ?_)
        refine cRet (kBlkR (kSeqR ?_))
        exact ⟨.inr rfl, _, rfl, by rw [hB hl0 c2]; rfl, e1⟩
      · refine cSeq ?_
        refine cRegion ?_
        refine sFA F66_0 rfl ?_
        refine sLd (v := nv kn) A3 rfl g1 rfl ?_
        refine sBinI (v := .bool false) rfl rfl (by rw [aInt_eqlI, decide_eq_false h1k]) ?_
        refine sMv (v := .bool false) rfl ?_
        refine sGno (q' := false) rfl rfl (by simp) ?_
        refine sGno (q' := false) rfl rfl (by simp) ?_
        refine sGno (q' := false) rfl rfl (by simp) ?_
        refine sGno (q' := false) rfl rfl (by simp) ?_
        refine sGnoU rfl rfl ?_
        refine sGnoU rfl rfl ?_
        refine sGnoU rfl rfl ?_
        refine sGnoU rfl rfl ?_
        refine sGno (q' := false) rfl rfl (by simp) ?_
        refine sP (v := .bool false) rfl ?_
        refine sAs (v := .bool _) rfl ?_
        refine sNil (kSeqN ?_)
        refine cCondF rfl ?_
        refine cSkip (kBlkN (kSeqN ?_))
        exact ⟨rfl, hC hl0 c2, rfl, rfl, trivial⟩
  rintro ρ _ ⟨rfl, hfm, hh⟩
  rw [hh.env]; clear hh
  refine cSeq ?_
  refine cRegion ?_
  refine sAs (v := .slice none 0 0) rfl ?_
  refine sNil (kSeqN ?_)
  refine cSeq ?_
  refine cSeq ?_
  refine cRegion ?_
  refine sFA F66_2 rfl ?_
  refine sLd (v := .slice q e.args.length cap) A64 rfl g1 rfl ?_
  refine sLen T64 rfl ?_
  refine sMv (v := nv 0) rfl ?_
  refine sNil (kSeqN ?_)
  refine cBlock ?_
  refine wpC_loop (fun k ρ m' => ∃ i v, k = e.args.length - i ∧ i ≤ e.args.length ∧ Ext m1 m' ∧ OwnF m1.size m' v (ofs ((e.args.take i).map (fmB vars d))) ∧ Has ρ [(1, .int .i64 vars), (5, v), (52, .slice q e.args.length cap), (53, nv e.args.length), (54, nv i)]) ⟨0, _, rfl, Nat.zero_le _, .refl _, .nil _ _, rfl, rfl, rfl, rfl, rfl, trivial⟩ ?_
  rintro k ρ m' ⟨i, v, rfl, hi, hE, hO, hh⟩
  obtain ⟨qv, cv, rfl⟩ := hO.ints.lenN
  rw [hh.env]; clear hh
  have hlen := h.len_sz
  have hsum : 1 + (e.args.map (szB d)).sum ≤ 1000000 := hs
  have htl : ((e.args.take i).map (fmB vars d)).length = i := by simp; omega
  refine cSeq ?_
  refine cRegion ?_
  refine sBin rfl rfl (aInt_lss) ?_
  refine sNil (kSeqN ?_)
  refine cSeq ?_
  refine cCond rfl (fun c4 => ?_) (fun c4 => ?_)
  · obtain ⟨a, ha⟩ : ∃ a, e.args[i]? = some a := ⟨_, List.getElem?_eq_getElem c4⟩
    have hst := sz_take (d := d) ha
    obtain ⟨b, o, r, c, rfl, _, hPb, hb, hsz, hat⟩ := h.arg ha
    have hb' := hE.cells (e1.cells hb)
    have hat' := (hat.ext e1).ext hE
    refine cSkip (kSeqN ?_)
    refine cSeq ?_
    refine cBlock ?_
    refine cSeq ?_
    refine cRegion ?_
    refine sIx T64 S66 rfl rfl (by omega) ?_
    refine sLdA A66 S66 rfl hb' hsz ?_
    obtain ⟨da, qa, ca, hda, hca⟩ := hat'.agg
    refine sAlloc Z66 (by kernel_rfl) ?_
    rw [hca]
    refine sStNA S66 rfl rfl rfl rfl (by kernel_rfl) ?_
    rw [hca] at hat'
    refine sNil (kSeqN ?_)
    refine cRegion ?_
    refine sMv (v := .slice _ _ _) rfl ?_
    refine sLdAll A66 S66 rfl (gP rfl) rfl ?_
    refine sMv (v := .int .i64 vars) rfl ?_
    obtain ⟨v15, m15, h15, rfl, e15⟩ := ih (((hG.ext e1).ext hE).ext (.push _ _)) (hat'.ext (.push _ _)) (by omega)
    refine sCall2 rfl call116 rfl rfl h15 ?_
    refine sBuildS T161 S25 Z25' (by decide) (by decide) (by decide) (by kernel_rfl) fill1 rfl ?_
    refine sApp App161 rfl rfl (N := m1.size) (((hO.ext (.push _ _)).ext e15).ext (.push _ _)) one_ints (by have := e15.1; have := hE.1; simp at *; omega) (by rw [ofs_length]; simp; omega) fun v4 m4 hO4 hL4 => ?_
    rw [show ofs ((e.args.take i).map (fmB vars d)) ++ [Int.ofNat (fmB vars d a)] = ofs ((e.args.take (i + 1)).map (fmB vars d)) by rw [List.take_add_one, ha]; simp [ofs]] at hO4
    refine sAs (v := v4) rfl ?_
    refine sNil (kBlkN (kSeqN ?_))
    refine cRegion ?_
    refine sBin rfl rfl (aInt_add (b := 1) (by omega)) ?_
    refine sMv (v := nv _) rfl ?_
    refine sNil (kSeqN ?_)
    refine ⟨_, ?_, i + 1, _, rfl, by omega, Low.to_ext (((hE.push' _).trans e15).push' _) hL4 (Nat.le_refl _), hO4, rfl, rfl, rfl, rfl, rfl, trivial⟩
    omega
  · obtain rfl : i = e.args.length := by omega
    rw [List.take_length] at *
    refine cExit (kSeqE (kSeqE (kBlkS (kSeqN ?_))))
    refine cSeq ?_
    refine cRegion ?_
    refine sMv (v := .slice _ _ _) rfl ?_
    obtain ⟨v66, m66, h66, rfl, rfl⟩ := spec_first hO.ints (by simp; omega)
    refine sCall2 rfl call141 rfl rfl h66 ?_
    refine sAs (v := nv _) rfl ?_
    refine sNil (kSeqN ?_)
    refine cRet ?_
    exact ⟨.inr rfl, _, rfl, by rw [hfm]; rfl, e1.trans hE⟩
theorem spec_formed (vars : Int) (d : Nat) : ∀ {m : Mem} {P : Nat → Prop} {v : Value} {e : BX}, GlobW m → BAt P m d v e → szB d e ≤ 1000000 → ∃ v' m', ACalls Tryd.prog 116 #[v, .int .i64 vars] m v' m' ∧ (v' = nv (fmB vars d e) ∧ Ext m m') := by
  induction d with
  | zero => intro m P v e _ h; exact h.elim
  | succ d ih =>
    intro m P v e hG h hs
    by_cases h1 : e.kind < 1 ∨ 7 < e.kind
    · exact formed_bad vars d h h1
    · by_cases h2 : e.kind = 1
      · exact formed_V vars d ih hG h hs h2
      · exact formed_N vars d ih hG h hs (kn := e.kind.toNat) (by simp; omega) (by omega) (by omega)
def goodB (vars : Int) (d : Nat) (e : BX) : Nat := if vars < 1 ∨ 8 < vars then 3 else if 24 < szB d e then 2 else fmB vars d e
theorem okf57 : okF Tryd.prog H0 57 19 = true := by kernel_rfl
theorem spec_Good (vars : Int) (d : Nat) {m : Mem} {P : Nat → Prop} {v : Value} {e : BX} (hG : GlobW m) (h : BAt P m d v e) (hs : szB d e ≤ 1000000) : ∃ v' m', ACalls Tryd.prog 57 #[v, .int .i64 vars] m v' m' ∧ (v' = nv (goodB vars d e) ∧ Ext m m') := by
  obtain ⟨d', q, cap, hd, rfl⟩ := h.agg
  refine wpF (args := [_, _]) mixed okf57 (fn := Tryd.f57) rfl rfl rfl (by simp) ?_
  refine cSeq ?_
  refine cRegion ?_
  refine sBox (v := .agg _) rfl ?_
  change wpOps _ _ _ _ _ (m.push (.cells true #[.int .i64 e.kind, .int .i64 e.var, .slice q e.args.length cap]))
  have e1 : Ext m (m.push (.cells true #[.int .i64 e.kind, .int .i64 e.var, .slice q e.args.length cap])) := .push _ _
  have g1 : Mem.get (m.push (.cells true #[.int .i64 e.kind, .int .i64 e.var, .slice q e.args.length cap])) m.size = .cells true #[.int .i64 e.kind, .int .i64 e.var, .slice q e.args.length cap] := gP rfl
  generalize m.push (.cells true #[.int .i64 e.kind, .int .i64 e.var, .slice q e.args.length cap]) = m1 at *
  refine sAs (v := nv 0) rfl ?_
  refine sNil (kSeqN ?_)
  refine cSeq ?_
  refine cBlock ?_
  refine cSeq ?_
  refine cRegion ?_
  refine sMv (v := .int .i64 vars) rfl ?_
  refine sBinI (v := .bool (decide (vars < 1))) rfl rfl aInt_lssI ?_
  refine sMv (v := .bool _) rfl ?_
  by_cases hng : vars < 1
  · rw [decide_eq_true hng]
    refine sGno (q' := true) rfl rfl (by simp) ?_
    refine sGno (q' := true) rfl rfl (by simp) ?_
    refine sP (v := .bool _) rfl ?_
    refine sAs (v := .bool _) rfl ?_
    refine sNil (kSeqN ?_)
    refine cCondT rfl ?_
    refine cSeq ?_
    refine cRegion ?_
    refine sAs (v := nv 3) rfl ?_
    refine sNil (kSeqN ?_)
    refine cRet (kBlkR (kSeqR ?_))
    exact ⟨.inr rfl, _, rfl, by rw [goodB, if_pos (.inl hng)]; rfl, e1⟩
  · rw [decide_eq_false hng]
    refine sG rfl rfl ?_
    refine sMv (v := .int .i64 vars) rfl ?_
    refine sG rfl rfl ?_
    refine sBinI (v := .bool (decide (8 < vars))) rfl rfl aInt_gtrI ?_
    refine sP (v := .bool _) rfl ?_
    refine sAs (v := .bool _) rfl ?_
    refine sNil (kSeqN ?_)
    refine cCond (p := 8 < vars) rfl (fun c1 => ?_) (fun c1 => ?_)
    · refine cSeq ?_
      refine cRegion ?_
      refine sAs (v := nv 3) rfl ?_
      refine sNil (kSeqN ?_)
      refine cRet (kBlkR (kSeqR ?_))
      exact ⟨.inr rfl, _, rfl, by rw [goodB, if_pos (.inr c1)]; rfl, e1⟩
    · have hvb : ¬ (vars < 1 ∨ 8 < vars) := by omega
      refine cSeq ?_
      refine cRegion ?_
      refine sLdAll A66 S66 rfl g1 rfl ?_
      obtain ⟨v14, m14, h14, rfl, e14⟩ := spec_size d (h.ext e1) hs
      refine sCall1 rfl call115 rfl h14 ?_
      refine sBin (a := szB d e) (b := 24) rfl rfl aInt_gtr ?_
      refine sAs (v := .bool _) rfl ?_
      refine sNil (kSeqN ?_)
      refine cCond (p := 24 < szB d e) rfl (fun c2 => ?_) (fun c2 => ?_)
      · refine cSeq ?_
        refine cRegion ?_
        refine sAs (v := nv 2) rfl ?_
        refine sNil (kSeqN ?_)
        refine cRet (kBlkR (kSeqR ?_))
        exact ⟨.inr rfl, _, rfl, by rw [goodB, if_neg hvb, if_pos c2]; rfl, e1.trans e14⟩
      · refine cSkip (kBlkN (kSeqN ?_))
        refine cSeq ?_
        refine cRegion ?_
        refine sLdAll A66 S66 rfl (e14.cells g1) rfl ?_
        refine sMv (v := .int .i64 vars) rfl ?_
        obtain ⟨v18, m18, h18, rfl, e18⟩ := spec_formed vars d ((hG.ext e1).ext e14) ((h.ext e1).ext e14) hs
        refine sCall2 rfl call116 rfl rfl h18 ?_
        refine sAs (v := nv _) rfl ?_
        refine sNil (kSeqN ?_)
        refine cRet ?_
        exact ⟨.inr rfl, _, rfl, by rw [goodB, if_neg hvb, if_neg c2]; rfl, (e1.trans e14).trans e18⟩
end Go.AM

/-! ### R22 -/
namespace Go.AM
open Go.Proofs
theorem bytes4 : bytesOf' Tryd.prog 4 = some 1 := by kernel_rfl
theorem El87 : ElemT Tryd.prog 87 87 1 := ⟨_, _, _, 1, T87, T87, rfl, S4, Z4, rfl, bytes4, by decide, by decide⟩
theorem fillBo {b : Bool} : Instr.fill (fun i => some (i * 1, 1)) (if 1 * 1 = 0 then #[] else (Array.range (1 * 1)).map ((Value.bool false).cells[· % (Value.bool false).cells.size]!)) [(0, .bool b)] = some #[.bool b] := by kernel_rfl
theorem firstE_zero {l : List Nat} (h : firstE l = 0) : ∀ x ∈ l, x = 0 := by
  induction l with
  | nil => intro x hx; cases hx
  | cons y l ih =>
    intro x hx
    by_cases hy : y = 0
    · rw [firstE, if_pos hy] at h
      rcases List.mem_cons.1 hx with rfl | hx
      · exact hy
      · exact ih h x hx
    · rw [firstE, if_neg hy] at h; exact absurd h hy
theorem fm_right {vars : Int} {d : Nat} {e : BX} (h : fmB vars (d + 1) e = 0) : ∃ kn, e.kind = Int.ofNat kn ∧ 1 ≤ kn ∧ kn ≤ 7 ∧ e.args.length = wantsN kn ∧ (kn ≠ 1 → e.var = 0) ∧ (kn = 1 → 0 ≤ e.var ∧ e.var < vars) ∧ ∀ a ∈ e.args, fmB vars d a = 0 := by
  rw [fmB] at h
  split at h
  · cases h
  · rename_i h1
    split at h
    · cases h
    · rename_i h2
      split at h
      · cases h
      · rename_i h3
        have hk : e.kind = Int.ofNat e.kind.toNat := by simp; omega
        refine ⟨e.kind.toNat, hk, by omega, by omega, ?_, fun hne => ?_, fun he => ?_, fun a ha => firstE_zero h _ (List.mem_map_of_mem ha)⟩
        · exact Decidable.not_not.1 fun hh => h2 (.inl hh)
        · exact Decidable.not_not.1 fun hh => h2 (.inr ⟨by omega, hh⟩)
        · have : ¬ (e.var < 0 ∨ vars ≤ e.var) := fun hh => h3 ⟨by omega, hh⟩
          omega
def valK (kn x var : Nat) (bs : List Bool) : Bool := if kn = 1 then x.testBit var else if kn = 2 then !(bs.getD 0 false) else if kn = 3 then bs.getD 0 false && bs.getD 1 false else if kn = 4 then (bs.getD 0 false != bs.getD 1 false) else if kn = 5 then bs.getD 0 false || bs.getD 1 false else decide (kn = 7)
def valB (x : Nat) : Nat → BX → Bool
  | 0, _ => false
  | d + 1, e => valK e.kind.toNat x e.var.toNat (e.args.map (valB x d))
theorem bit_oneD (w i : Nat) : decide (w >>> i &&& 1 = 1) = w.testBit i := by
  have h := bit_zero w i
  have h2 : w >>> i &&& 1 < 2 := by rw [Nat.and_one_is_mod]; omega
  cases hb : w.testBit i with
  | false => rw [h.2 hb]; rfl
  | true =>
    have : ¬ (w >>> i &&& 1 = 0) := fun hh => by rw [h.1 hh] at hb; cases hb
    exact decide_eq_true (by omega)
def cellsBo (l : List Bool) : Array Value := (l.map Value.bool).toArray
theorem cellsBo_push (l : List Bool) (b : Bool) : cellsBo l ++ #[.bool b] = cellsBo (l ++ [b]) := by simp [cellsBo]
theorem cellsBo_get {l : List Bool} {i : Nat} {b : Bool} (h : l[i]? = some b) : (cellsBo l)[i]? = some (.bool b) := by simp [cellsBo, h]
theorem boolAt {N : Nat} {m : Mem} {v : Value} {l : List Bool} (h : OwnC N m v 1 l.length (cellsBo l)) (h0 : 0 < l.length) : ∃ b cap c, v = .slice (some ⟨b, 0, some 1⟩) l.length cap ∧ Mem.get m b = .cells true c ∧ ∀ (i : Nat) (x : Bool), l[i]? = some x → c[0 + i * 1]? = some (.bool x) := by
  obtain ⟨b, cap, c, h1, _, h3, h4, h5⟩ := h.at h0
  refine ⟨b, cap, c, h1, h3, fun i x hi => ?_⟩
  have := (List.getElem?_eq_some_iff.1 hi).1
  rw [Nat.zero_add, Nat.mul_one, h5 i (by omega), cellsBo_get hi]
theorem B66n {q : Option Addr} {n c : Nat} : aBuild Tryd.prog 66 [(0, nv 2), (2, .slice q n c)] = some (.agg #[nv 2, nv 0, .slice q n c]) := by kernel_rfl
theorem len2g {α : Type} {l : List α} (h : l.length = 2) : ∃ a b, l = [a, b] := by
  match l, h with
  | [a, b], _ => exact ⟨_, _, rfl⟩
theorem fill66 {k x : Int} {q : Option Addr} {n c : Nat} : Instr.fill (fun i => some (i * 3, 3)) (if 1 * 3 = 0 then #[] else (Array.range (1 * 3)).map ((Value.agg #[nv 0, nv 0, .slice none 0 0]).cells[· % (Value.agg #[nv 0, nv 0, .slice none 0 0]).cells.size]!)) [(0, .agg #[.int .i64 k, .int .i64 x, .slice q n c])] = some #[.int .i64 k, .int .i64 x, .slice q n c] := by kernel_rfl
theorem okf140 : okF Tryd.prog H0 140 6 = true := by kernel_rfl
theorem spec_not {m : Mem} {k x : Int} {q : Option Addr} {n cap : Nat} : ∃ v m', ACalls Tryd.prog 140 #[.agg #[.int .i64 k, .int .i64 x, .slice q n cap]] m v m' ∧ (v = .agg #[nv 2, nv 0, .slice (some ⟨m.size + 2, 0, some 3⟩) 1 1] ∧ Mem.get m' (m.size + 2) = .cells true #[.int .i64 k, .int .i64 x, .slice q n cap] ∧ Ext m m' ∧ m.size + 2 < m'.size) := by
  refine wpF (args := [_]) mixed okf140 (fn := Tryd.f140) rfl rfl rfl (by simp) ?_
  refine cSeq ?_
  refine cRegion ?_
  refine sBox (v := .agg _) rfl ?_
  change wpOps _ _ _ _ _ (m.push (.cells true #[.int .i64 k, .int .i64 x, .slice q n cap]))
  refine sAllocB (bl := m.size + 1) (by simp) Z66 (by kernel_rfl) ?_
  change wpOps _ _ _ _ _ ((m.push (.cells true #[.int .i64 k, .int .i64 x, .slice q n cap])).push (.cells true #[nv 0, nv 0, .slice none 0 0]))
  refine sNil (kSeqN ?_)
  refine cSeq ?_
  refine cRegion ?_
  refine sLdAll A66 S66 rfl ((gPn (by simp)).trans (gP rfl)) rfl ?_
  refine sBuildS T64 S66 Z66 (by decide) (by decide) (by decide) (by kernel_rfl) fill66 rfl ?_
  refine sBuild B66n ?_
  refine sStAll S66 rfl rfl (gPn (by simp) |>.trans (gP (by simp))) rfl rfl (by kernel_rfl) ?_
  refine sNil (kSeqN ?_)
  refine cRet ?_
  refine ⟨.inr rfl, _, resRs_agg A66 S66 rfl (gS rfl (by simp)) rfl, by simp [oneOf], ?_, ?_, by simp⟩
  · rw [gSn (by omega)]; exact gP (by simp)
  · exact (((Ext.push _ _).trans (.push _ _)).trans (.push _ _)).set (by simp) _
theorem okf111 : okF Tryd.prog H0 111 70 = true := by kernel_rfl
theorem spec_value (vars : Int) (x : Nat) (hx : x < 9223372036854775808) (d : Nat) : ∀ {m : Mem} {P : Nat → Prop} {v : Value} {e : BX}, BAt P m d v e → fmB vars d e = 0 → ∃ v' m', ACalls Tryd.prog 111 #[v, nv x] m v' m' ∧ (v' = .bool (valB x d e) ∧ Ext m m') := by
  induction d
  · intro m P v e h; exact h.elim
  rename_i d ih
  intro m P v e h hf
  obtain ⟨kn, hk, hk1, hk7, hkl, hv0, hv1, hfa⟩ := fm_right hf
  obtain ⟨d', q, cap, hd, rfl⟩ := h.agg
  cases hd
  have hval : valB x (d + 1) e = valK kn x e.var.toNat (e.args.map (valB x d)) := by rw [valB, hk]; rfl
  rw [hval]
  rw [hk] at h ⊢
  have hlen2 : e.args.length ≤ 2 := by
    rw [hkl]
    have : kn = 1 ∨ kn = 2 ∨ kn = 3 ∨ kn = 4 ∨ kn = 5 ∨ kn = 6 ∨ kn = 7 := by omega
    rcases this with rfl | rfl | rfl | rfl | rfl | rfl | rfl <;> decide
  refine wpF (args := [_, _]) mixed okf111 (fn := Tryd.f111) rfl rfl rfl (by simp) ?_
  refine cSeq ?_
  refine cRegion ?_
  refine sBox (v := .agg _) rfl ?_
  change wpOps _ _ _ _ _ (m.push (.cells true #[nv kn, .int .i64 e.var, .slice q e.args.length cap]))
  have e1 : Ext m (m.push (.cells true #[nv kn, .int .i64 e.var, .slice q e.args.length cap])) := .push _ _
  have g1 : Mem.get (m.push (.cells true #[nv kn, .int .i64 e.var, .slice q e.args.length cap])) m.size = .cells true #[nv kn, .int .i64 e.var, .slice q e.args.length cap] := gP rfl
  generalize m.push (.cells true #[nv kn, .int .i64 e.var, .slice q e.args.length cap]) = m1 at *
  refine sAs (v := .bool _) rfl ?_
  refine sNil (kSeqN ?_)
  refine cSeq ?_
  refine cRegion ?_
  refine sAs (v := .slice _ _ _) rfl ?_
  refine sNil (kSeqN ?_)
  refine cSeq ?_
  refine cSeq ?_
  refine cRegion ?_
  refine sFA F66_2 rfl ?_
  refine sLd (v := .slice q e.args.length cap) A64 rfl g1 rfl ?_
  refine sLen T64 rfl ?_
  refine sMv (v := nv 0) rfl ?_
  refine sNil (kSeqN ?_)
  refine cBlock ?_
  refine wpC_loop (fun k ρ m' => ∃ i v, k = e.args.length - i ∧ i ≤ e.args.length ∧ Ext m1 m' ∧ OwnC m1.size m' v 1 i (cellsBo ((e.args.take i).map (valB x d))) ∧ Has ρ [(1, nv x), (2, .pointer (some ⟨m.size, 0, none⟩)), (5, v), (9, .slice q e.args.length cap), (10, nv e.args.length), (11, nv i)]) ⟨0, _, rfl, Nat.zero_le _, .refl _, .nil _ _ _, rfl, rfl, rfl, rfl, rfl, rfl, trivial⟩ ?_
  rintro k ρ m' ⟨i, v, rfl, hi, hE, hO, hh⟩
  obtain ⟨qv, cv, rfl⟩ := hO.len
  rw [hh.env]; clear hh
  refine cSeq ?_
  refine cRegion ?_
  refine sBin rfl rfl (aInt_lss) ?_
  refine sNil (kSeqN ?_)
  refine cSeq ?_
  refine cCond rfl (fun c0 => ?_) (fun c0 => ?_)
  · obtain ⟨a, ha⟩ : ∃ a, e.args[i]? = some a := ⟨_, List.getElem?_eq_getElem c0⟩
    obtain ⟨b, o, r, c, rfl, _, hPb, hb, hsz, hat⟩ := h.arg ha
    have hb' := hE.cells (e1.cells hb)
    have hat' := (hat.ext e1).ext hE
    refine cSkip (kSeqN ?_)
    refine cSeq ?_
    refine cBlock ?_
    refine cSeq ?_
    refine cRegion ?_
    refine sIx T64 S66 rfl rfl (by omega) ?_
    refine sLdA A66 S66 rfl hb' hsz ?_
    obtain ⟨da, qa, ca, hda, hca⟩ := hat'.agg
    refine sAlloc Z66 (by kernel_rfl) ?_
    rw [hca]
    refine sStNA S66 rfl rfl rfl rfl (by kernel_rfl) ?_
    rw [hca] at hat'
    refine sNil (kSeqN ?_)
    refine cRegion ?_
    refine sMv (v := .slice _ _ _) rfl ?_
    refine sLdAll A66 S66 rfl (gP rfl) rfl ?_
    refine sMv (v := nv _) rfl ?_
    obtain ⟨v15, m15, h15, rfl, e15⟩ := ih (hat'.ext (.push _ _)) (hfa a (List.mem_of_getElem? ha))
    refine sCall2 rfl call111 rfl rfl h15 ?_
    refine sBuildS T87 S4 Z4 (by decide) (by decide) (by decide) (by kernel_rfl) fillBo rfl ?_
    refine sAppC El87 rfl rfl (N := m1.size) (n := i) (cs := cellsBo ((e.args.take i).map (valB x d))) (d := #[.bool (valB x d a)]) (((hO.ext (.push _ _)).ext e15).ext (.push _ _)) (gP rfl) rfl (by kernel_rfl) (by have := e15.1; have := hE.1; simp at *; omega) (by omega) fun v' m4 hO4 hL4 hG4 => ?_
    rw [cellsBo_push, show (e.args.take i).map (valB x d) ++ [valB x d a] = (e.args.take (i + 1)).map (valB x d) by rw [List.take_add_one, ha]; simp] at hO4
    refine sAs (v := v') rfl ?_
    refine sNil (kBlkN (kSeqN ?_))
    refine cRegion ?_
    refine sBin rfl rfl (aInt_add (b := 1) (by omega)) ?_
    refine sMv (v := nv _) rfl ?_
    refine sNil (kSeqN ?_)
    refine ⟨_, ?_, i + 1, _, rfl, by omega, Low.to_ext (((hE.push' _).trans e15).push' _) hL4 (Nat.le_refl _), hO4, rfl, rfl, rfl, rfl, rfl, rfl, trivial⟩
    omega
  · obtain rfl : i = e.args.length := by omega
    rw [List.take_length] at *
    have hbl : ((e.args.map (valB x d))).length = e.args.length := by simp
    rw [← hbl] at hO
    have g1' := hE.cells g1
    generalize hbs : e.args.map (valB x d) = bs at *
    refine cExit (kSeqE (kSeqE (kBlkS (kSeqN ?_))))
    refine cSeq ?_
    refine cSeq ?_
    refine cRegion ?_
    refine sFA F66_0 rfl ?_
    refine sLd (v := nv kn) A3 rfl g1' rfl ?_
    refine sNil (kSeqN ?_)
    refine cBlock ?_
    refine cSeq ?_
    refine cRegion ?_
    refine sBin (a := kn) (b := 1) rfl rfl aInt_eql ?_
    refine sAs (v := .bool _) rfl ?_
    refine sNil (kSeqN ?_)
    refine cCond (p := kn = 1) rfl (fun c1 => ?_) (fun c1 => ?_)
    · obtain ⟨w1, w2⟩ := hv1 c1
      obtain ⟨vn, hvn⟩ : ∃ vn : Nat, e.var = Int.ofNat vn := ⟨e.var.toNat, by simp; omega⟩
      rw [hvn] at g1'
      refine cSeq ?_
      refine cRegion ?_
      refine sMv (v := nv _) rfl ?_
      refine sFA F66_1 rfl ?_
      refine sLd (v := nv vn) A3 rfl g1' rfl ?_
      refine sBin (a := x) (b := vn) rfl rfl (aInt_shr (by omega)) ?_
      have hsh := Nat.shiftRight_le x vn
      refine sBin (b := 1) rfl rfl (aInt_and (by omega)) ?_
      refine sBin (a := x >>> vn &&& 1) (b := 1) rfl rfl aInt_eql ?_
      refine sAs (v := .bool _) rfl ?_
      refine sNil (kSeqN ?_)
      refine cRet (kBlkR (kSeqR ?_))
      exact ⟨.inr rfl, _, rfl, by rw [valK, if_pos c1, hvn]; exact congrArg Value.bool (bit_oneD x vn), e1.trans hE⟩
    · refine cSeq ?_
      refine cRegion ?_
      refine sBin (a := kn) (b := 2) rfl rfl aInt_eql ?_
      refine sAs (v := .bool _) rfl ?_
      refine sNil (kSeqN ?_)
      refine cCond (p := kn = 2) rfl (fun c2 => ?_) (fun c2 => ?_)
      · have hla : e.args.length = 1 := by rw [hkl, c2]; rfl
        have hl1 : bs.length = 1 := by rw [hbl, hla]
        obtain ⟨b0, rfl⟩ : ∃ b0, bs = [b0] := List.length_eq_one_iff.1 hl1
        obtain ⟨bb, cp, cc, eq, gb, xb⟩ := boolAt hO (by omega)
        cases eq
        refine cSeq ?_
        refine cRegion ?_
        refine sMv (v := .slice _ _ _) rfl ?_
        refine sIx T87 S4 rfl rfl (show 0 < e.args.length by omega) ?_
        refine sLd (v := .bool b0) A4 rfl gb (xb 0 b0 rfl) ?_
        refine sP (v := .bool (!b0)) rfl ?_
        refine sAs (v := .bool _) rfl ?_
        refine sNil (kSeqN ?_)
        refine cRet (kBlkR (kSeqR ?_))
        exact ⟨.inr rfl, _, rfl, by rw [valK, if_neg c1, if_pos c2]; rfl, e1.trans hE⟩
      · refine cSeq ?_
        refine cRegion ?_
        refine sBin (a := kn) (b := 3) rfl rfl aInt_eql ?_
        refine sAs (v := .bool _) rfl ?_
        refine sNil (kSeqN ?_)
        refine cCond (p := kn = 3) rfl (fun c3 => ?_) (fun c3 => ?_)
        · have hla : e.args.length = 2 := by rw [hkl, c3]; rfl
          have hl1 : bs.length = 2 := by rw [hbl, hla]
          obtain ⟨b0, b1, rfl⟩ : ∃ b0 b1, bs = [b0, b1] := len2g hl1
          obtain ⟨bb, cp, cc, eq, gb, xb⟩ := boolAt hO (by omega)
          cases eq
          refine cSeq ?_
          refine cRegion ?_
          refine sMv (v := .slice _ _ _) rfl ?_
          refine sIx T87 S4 rfl rfl (show 0 < e.args.length by omega) ?_
          refine sLd (v := .bool b0) A4 rfl gb (xb 0 b0 rfl) ?_
          refine sMv (v := .bool _) rfl ?_
          by_cases hb0 : b0 = true
          · subst hb0
            refine sG rfl rfl ?_
            refine sMv (v := .slice _ _ _) rfl ?_
            refine sG rfl rfl ?_
            refine sIx T87 S4 rfl rfl (show 1 < e.args.length by omega) ?_
            refine sG rfl rfl ?_
            refine sLd (v := .bool b1) A4 rfl gb (xb 1 b1 rfl) ?_
            refine sP (v := .bool _) rfl ?_
            refine sAs (v := .bool _) rfl ?_
            refine sNil (kSeqN ?_)
            refine cRet (kBlkR (kSeqR ?_))
            exact ⟨.inr rfl, _, rfl, by rw [valK, if_neg c1, if_neg c2, if_pos c3]; rfl, e1.trans hE⟩
          · obtain rfl : b0 = false := by simpa using hb0
            refine sGno (q' := false) rfl rfl (by simp) ?_
            refine sGno (q' := false) rfl rfl (by simp) ?_
            refine sGno (q' := false) rfl rfl (by simp) ?_
            refine sP (v := .bool _) rfl ?_
            refine sAs (v := .bool _) rfl ?_
            refine sNil (kSeqN ?_)
            refine cRet (kBlkR (kSeqR ?_))
            exact ⟨.inr rfl, _, rfl, by rw [valK, if_neg c1, if_neg c2, if_pos c3]; rfl, e1.trans hE⟩
        · refine cSeq ?_
          refine cRegion ?_
          refine sBin (a := kn) (b := 4) rfl rfl aInt_eql ?_
          refine sAs (v := .bool _) rfl ?_
          refine sNil (kSeqN ?_)
          refine cCond (p := kn = 4) rfl (fun c4 => ?_) (fun c4 => ?_)
          · have hla : e.args.length = 2 := by rw [hkl, c4]; rfl
            have hl1 : bs.length = 2 := by rw [hbl, hla]
            obtain ⟨b0, b1, rfl⟩ : ∃ b0 b1, bs = [b0, b1] := len2g hl1
            obtain ⟨bb, cp, cc, eq, gb, xb⟩ := boolAt hO (by omega)
            cases eq
            refine cSeq ?_
            refine cDraw rfl ?_
            refine sMv (v := .slice _ _ _) rfl ?_
            refine sIx T87 S4 rfl rfl (show 0 < e.args.length by omega) ?_
            refine sLd (v := .bool b0) A4 rfl gb (xb 0 b0 rfl) ?_
            refine sMv (v := .slice _ _ _) rfl ?_
            refine sIx T87 S4 rfl rfl (show 1 < e.args.length by omega) ?_
            refine sLd (v := .bool b1) A4 rfl gb (xb 1 b1 rfl) ?_
            refine sNeB rfl rfl ?_
            refine sAs (v := .bool _) rfl ?_
            refine sNil (kSeqN ?_)
            refine cRet (kBlkR (kSeqR ?_))
            exact ⟨.inr rfl, _, rfl, by rw [valK, if_neg c1, if_neg c2, if_neg c3, if_pos c4]; rfl, e1.trans hE⟩
          · refine cSeq ?_
            refine cRegion ?_
            refine sBin (a := kn) (b := 5) rfl rfl aInt_eql ?_
            refine sAs (v := .bool _) rfl ?_
            refine sNil (kSeqN ?_)
            refine cCond (p := kn = 5) rfl (fun c5 => ?_) (fun c5 => ?_)
            · have hla : e.args.length = 2 := by rw [hkl, c5]; rfl
              have hl1 : bs.length = 2 := by rw [hbl, hla]
              obtain ⟨b0, b1, rfl⟩ : ∃ b0 b1, bs = [b0, b1] := len2g hl1
              obtain ⟨bb, cp, cc, eq, gb, xb⟩ := boolAt hO (by omega)
              cases eq
              refine cSeq ?_
              refine cRegion ?_
              refine sMv (v := .slice _ _ _) rfl ?_
              refine sIx T87 S4 rfl rfl (show 0 < e.args.length by omega) ?_
              refine sLd (v := .bool b0) A4 rfl gb (xb 0 b0 rfl) ?_
              refine sMv (v := .bool _) rfl ?_
              by_cases hb0 : b0 = true
              · subst hb0
                refine sGno (q' := true) rfl rfl (by simp) ?_
                refine sGno (q' := true) rfl rfl (by simp) ?_
                refine sGno (q' := true) rfl rfl (by simp) ?_
                refine sP (v := .bool _) rfl ?_
                refine sAs (v := .bool _) rfl ?_
                refine sNil (kSeqN ?_)
                refine cRet (kBlkR (kSeqR ?_))
                exact ⟨.inr rfl, _, rfl, by rw [valK, if_neg c1, if_neg c2, if_neg c3, if_neg c4, if_pos c5]; rfl, e1.trans hE⟩
              · obtain rfl : b0 = false := by simpa using hb0
                refine sG rfl rfl ?_
                refine sMv (v := .slice _ _ _) rfl ?_
                refine sG rfl rfl ?_
                refine sIx T87 S4 rfl rfl (show 1 < e.args.length by omega) ?_
                refine sG rfl rfl ?_
                refine sLd (v := .bool b1) A4 rfl gb (xb 1 b1 rfl) ?_
                refine sP (v := .bool _) rfl ?_
                refine sAs (v := .bool _) rfl ?_
                refine sNil (kSeqN ?_)
                refine cRet (kBlkR (kSeqR ?_))
                exact ⟨.inr rfl, _, rfl, by rw [valK, if_neg c1, if_neg c2, if_neg c3, if_neg c4, if_pos c5]; rfl, e1.trans hE⟩
            · refine cSkip (kBlkN (kSeqN ?_))
              refine cSeq ?_
              refine cRegion ?_
              refine sFA F66_0 rfl ?_
              refine sLd (v := nv kn) A3 rfl g1' rfl ?_
              refine sBin (a := kn) (b := 7) rfl rfl aInt_eql ?_
              refine sAs (v := .bool _) rfl ?_
              refine sNil (kSeqN ?_)
              refine cRet ?_
              exact ⟨.inr rfl, _, rfl, by rw [valK, if_neg c1, if_neg c2, if_neg c3, if_neg c4, if_neg c5]; rfl, e1.trans hE⟩
end Go.AM

/-! ### R23 -/
namespace Go.AM
open Go.Proofs
def BldP (P : Nat → Prop) (N bb : Nat) (m : Mem) (W : Nat) (Gs : List (Nat × List Nat)) (v : Value) : Prop :=
  Mem.get m bb = .cells true #[nv W, nv 0, v] ∧ bb < N ∧ (∀ b, P b → b < m.size ∧ b ≠ bb ∧ blkOf v ≠ some b) ∧ ∃ cs, OwnG N m v cs Gs ∧ ∀ (i : Nat) (s : Value), cs[i]? = some s → ∀ b, blkOf s = some b → ¬ P b
theorem BldP.move {P Q : Nat → Prop} {N bb W : Nat} {m m' : Mem} {Gs : List (Nat × List Nat)} {v : Value} (h : BldP P N bb m W Gs v) (hz : m.size ≤ m'.size) (hk : ∀ b, b < m.size → ¬ P b → Mem.get m' b = Mem.get m b) (hQ : ∀ b, Q b → b < m'.size ∧ (P b ∨ m.size ≤ b)) : BldP Q N bb m' W Gs v := by
  obtain ⟨h1, h2, h3, cs, hO, hcs⟩ := h
  have hbb : ¬ P bb := fun hp => (h3 bb hp).2.1 rfl
  have hv : ∀ b, blkOf v = some b → N ≤ b ∧ b < m.size ∧ ¬ P b := fun b hb => ⟨(hO.1.lt hb).1, (hO.1.lt hb).2, fun hp => (h3 b hp).2.2 hb⟩
  have hrow : ∀ (i : Nat) (s : Value), cs[i]? = some s → ∀ b, blkOf s = some b → b < m.size → Mem.get m' b = Mem.get m b := fun i s hi b hb hl => hk b hl (hcs i s hi b hb)
  refine ⟨(hk bb (live h1) hbb).trans h1, h2, fun b hb => ?_, cs, ⟨hO.1.keep fun b hb => hk b (hv b hb).2.1 (hv b hb).2.2, fun i g hi => ?_⟩, fun i s hi b hb hq => ?_⟩
  · obtain ⟨q1, q2⟩ := hQ b hb
    rcases q2 with q2 | q2
    · exact ⟨q1, (h3 b q2).2⟩
    · exact ⟨q1, by have := live h1; omega, fun e => by have := (hv b e).2.1; omega⟩
  · obtain ⟨s, a0, a1, a2, a3, ho, hb⟩ := hO.2 i g hi
    exact ⟨s, a0, a1, a2, a3, ho.keep fun b hb => hrow _ s a1 b hb (ho.lt hb).2, hb⟩
  · rcases (hQ b hq).2 with q2 | q2
    · exact hcs i s hi b hb q2
    · have hlt : i < cs.size := (Array.getElem?_eq_some_iff.1 hi).1
      have hcz := hO.1.size
      obtain ⟨s', a0, a1, a2, a3, ho, _⟩ := hO.2 (i / 4) _ (List.getElem?_eq_getElem (by omega : i / 4 < Gs.length))
      have hc4 : i % 4 = 0 ∨ i % 4 = 1 ∨ i % 4 = 2 ∨ i % 4 = 3 := by omega
      rcases hc4 with e | e | e | e
      · rw [show i / 4 * 4 = i by omega, hi] at a0; injection a0 with a0; subst a0; cases hb
      · rw [show i / 4 * 4 + 1 = i by omega, hi] at a1; injection a1 with a1; subst a1
        have := (ho.lt hb).2; omega
      · rw [show i / 4 * 4 + 2 = i by omega, hi] at a2; injection a2 with a2; subst a2; cases hb
      · rw [show i / 4 * 4 + 3 = i by omega, hi] at a3; injection a3 with a3; subst a3; cases hb
theorem BldP.ext {P : Nat → Prop} {N bb W : Nat} {m m' : Mem} {Gs : List (Nat × List Nat)} {v : Value} (h : BldP P N bb m W Gs v) (he : Ext m m') : BldP P N bb m' W Gs v :=
  h.move he.1 (fun b hb _ => he.2 b hb) fun b hb => ⟨by have := (h.2.2.1 b hb).1; have := he.1; omega, .inl hb⟩
def SrcP (P : Nat → Prop) (N : Nat) (m : Mem) (v x : Value) (Gs : List (Nat × List Nat)) : Prop := ∃ d, SrcC m x 4 Gs.length d ∧ ∀ (i : Nat) (g : Nat × List Nat), Gs[i]? = some g → ∃ s, d[i * 4]? = some (nv g.1) ∧ d[i * 4 + 1]? = some s ∧ d[i * 4 + 2]? = some (nv 0) ∧ d[i * 4 + 3]? = some (nv 0) ∧ OwnF N m s (ofs g.2) ∧ ∀ b, blkOf s = some b → blkOf v ≠ some b ∧ ¬ P b
theorem spec_addP {P : Nat → Prop} {m : Mem} {N bb W : Nat} {v x : Value} {Gs Gs2 : List (Nat × List Nat)} (hB : BldP P N bb m W Gs v) (hS : SrcP P N m v x Gs2) (hN : N ≤ m.size) (hl : Gs.length ≤ 200000) (hl2 : Gs2.length ≤ 200000) : ∃ r m', ACalls Tryd.prog 75 #[.pointer (some ⟨bb, 0, none⟩), x] m r m' ∧ (∃ v', BldP P N bb m' W (Gs ++ Gs2) v' ∧ m.size ≤ m'.size ∧ ∀ b, b < m.size → b ≠ bb → blkOf v ≠ some b → Mem.get m' b = Mem.get m b) := by
  obtain ⟨g1, hbN, hPP, cs, hO, hcs⟩ := hB
  obtain ⟨d, hs, hdP⟩ := hS
  have hd : ∀ (i : Nat) (g : Nat × List Nat), Gs2[i]? = some g → ∃ s, d[i * 4]? = some (nv g.1) ∧ d[i * 4 + 1]? = some s ∧ d[i * 4 + 2]? = some (nv 0) ∧ d[i * 4 + 3]? = some (nv 0) ∧ OwnF N m s (ofs g.2) ∧ ∀ b, blkOf s = some b → blkOf v ≠ some b := fun i g hi => by
    obtain ⟨s, a0, a1, a2, a3, a4, a5⟩ := hdP i g hi
    exact ⟨s, a0, a1, a2, a3, a4, fun b hb => (a5 b hb).1⟩
  have hds := hs.size
  have hdcs : ∀ (i : Nat) (s : Value), d[i]? = some s → ∀ b, blkOf s = some b → ¬ P b := fun i s hi b hb => by
    have hlt : i < d.size := (Array.getElem?_eq_some_iff.1 hi).1
    obtain ⟨s', a0, a1, a2, a3, ho, ha⟩ := hdP (i / 4) _ (List.getElem?_eq_getElem (by omega : i / 4 < Gs2.length))
    have hc4 : i % 4 = 0 ∨ i % 4 = 1 ∨ i % 4 = 2 ∨ i % 4 = 3 := by omega
    rcases hc4 with e | e | e | e
    · rw [show i / 4 * 4 = i by omega, hi] at a0; injection a0 with a0; subst a0; cases hb
    · rw [show i / 4 * 4 + 1 = i by omega, hi] at a1; injection a1 with a1; subst a1
      exact (ha b hb).2
    · rw [show i / 4 * 4 + 2 = i by omega, hi] at a2; injection a2 with a2; subst a2; cases hb
    · rw [show i / 4 * 4 + 3 = i by omega, hi] at a3; injection a3 with a3; subst a3; cases hb
  have hone := src_one (x := x) hds hd
  have hxl : ∃ q n c, x = .slice q n c := by rcases hs with ⟨rfl, _⟩ | ⟨_, _, _, _, _, rfl, _⟩ <;> exact ⟨_, _, _, rfl⟩
  obtain ⟨qx, nx, cx, rfl⟩ := hxl
  obtain ⟨q, cap, rfl⟩ := hO.1.len
  refine wpF (args := [_, _]) mixed okf75 (fn := Tryd.f75) rfl rfl rfl (by simp) ?_
  refine cRegion ?_
  refine sMv (v := .pointer _) rfl ?_
  refine sMv (v := .pointer _) rfl ?_
  refine sNC rfl ?_
  refine sFA F96_0 rfl ?_
  refine sFA F30_2 rfl ?_
  refine sLd (v := .slice _ _ _) A28 rfl g1 rfl ?_
  refine sMv (v := .slice _ _ _) rfl ?_
  refine sAppCn El55 rfl rfl (N := N) hO.1 hs hone hN (by omega) (by omega) fun v' m1 hO1 hL1 hG1 => ?_
  have hg1 := hL1.cells hbN g1
  have hR := hO.grewN hds hd hG1 hO1
  refine sNC rfl ?_
  refine sFA F96_0 rfl ?_
  refine sFA F30_2 rfl ?_
  refine sSt (v := v') S28 rfl rfl hg1 (by simp) (by rcases hO1 with ⟨rfl, _⟩ | ⟨_, _, _, rfl, _⟩ <;> rfl) (by rcases hO1 with ⟨rfl, _⟩ | ⟨_, _, _, rfl, _⟩ <;> rfl) ?_
  refine sNil ?_
  refine ⟨.inl rfl, _, rfl, v', ⟨gS rfl (live hg1), hbN, fun b hb => ?_, _, hR.only (.set bb m1 (.cells true #[nv W, nv 0, v'])) hbN, fun i s hi b hb => ?_⟩, by simpa using hG1.1, fun b hb hn hv => ?_⟩
  · obtain ⟨p1, p2, p3⟩ := hPP b hb
    refine ⟨by have := hG1.1; simp; omega, p2, hG1.off p3 p1⟩
  · by_cases hil : i < cs.size
    · rw [Array.getElem?_append_left hil] at hi; exact hcs i s hi b hb
    · rw [Array.getElem?_append_right (by omega)] at hi; exact hdcs _ s hi b hb
  · rw [gSn (fun e => hn e.symm)]; exact hG1.2.1 b hb hv
theorem add_one {P : Nat → Prop} {m m1 : Mem} {N bb W gk : Nat} {bv ws : Value} {Gs : List (Nat × List Nat)} {w : List Nat} (hB : BldP P N bb m W Gs bv) (he : Ext m m1) (hN : N ≤ m.size) (hw : OwnF m.size m1 ws (ofs w)) (hl : Gs.length ≤ 200000) :
    ∃ r m3, ACalls Tryd.prog 75 #[.pointer (some ⟨bb, 0, none⟩), .slice (some ⟨m1.size, 0, some 4⟩) 1 1] (m1.push (.cells true #[nv gk, ws, nv 0, nv 0])) r m3 ∧ ∃ bv', BldP P N bb m3 W (Gs ++ [(gk, w)]) bv' ∧ m1.size ≤ m3.size ∧ ∀ b, b < m.size → b ≠ bb → blkOf bv ≠ some b → Mem.get m3 b = Mem.get m b := by
  have hz := he.1
  have hv : ∀ b, blkOf bv = some b → b < m.size := fun b hb => by
    obtain ⟨_, _, _, cs, hO, _⟩ := hB; exact (hO.1.lt hb).2
  obtain ⟨r, m3, hc, bv', k1, k2, k3⟩ := spec_addP (x := .slice (some ⟨m1.size, 0, some 4⟩) 1 1) (Gs2 := [(gk, w)]) ((hB.ext he).ext (.push _ (.cells true #[nv gk, ws, nv 0, nv 0]))) ⟨_, .inr ⟨m1.size, 0, 1, _, true, rfl, gP rfl, by simp, rfl⟩, fun i g hi => by
    have h1 := (List.getElem?_eq_some_iff.1 hi).1
    obtain rfl : i = 0 := by simp at h1; exact h1
    obtain rfl : (gk, w) = g := by simpa using hi
    exact ⟨ws, rfl, rfl, rfl, rfl, (hw.mono hN).ext (.push _ _), fun b hb => by
      have h1 := (hw.lt hb).1
      exact ⟨fun e => by have := hv b e; omega, fun e => by have := (hB.2.2.1 b e).1; omega⟩⟩⟩ (by simp; omega) hl (by simp)
  simp only [Array.size_push] at k2
  refine ⟨r, m3, hc, bv', k1, by omega, fun b h1 h2 h3 => ?_⟩
  rw [k3 b (by simp; omega) h2 h3, gPn (by omega), he.2 b h1]
theorem sMax {ρ : Env} {m : Mem} {K : Env → Mem → Prop} {ops : Array Oper} {l : List Oper} {d : Option Nat} {ty : TypeId} {pos : String} {af : Array Edge} {x y : Operand} {tys : Array TypeId} {a b : Nat} (hx : evR ρ x = nv a) (hy : evR ρ y = nv b) (hk : wpOps Tryd.prog ops K l (updO ρ d (nv (max a b))) m) :
    wpOps Tryd.prog ops K (⟨d, .call ⟨.builtin .max, ⟨[x, y]⟩, tys⟩, ty, pos, af, none⟩ :: l) ρ m := by
  refine sP (v := nv (max a b)) ?_ hk
  simp only [aPure, List.map_cons, List.map_nil, hx, hy, aFold, aMax2]
  have h : (if (Int.ofNat b) > (Int.ofNat a) then Int.ofNat b else Int.ofNat a) = Int.ofNat (max a b) := by
    simp only [Int.ofNat_eq_natCast]
    split <;> omega
  rw [if_pos trivial, h]
theorem okf156 : okF Tryd.prog H0 156 16 = true := by kernel_rfl
theorem spec_use {P : Nat → Prop} {m : Mem} {N bb W w : Nat} {v : Value} {Gs : List (Nat × List Nat)} (hB : BldP P N bb m W Gs v) (hw : w ≤ 100000000) : ∃ r m', ACalls Tryd.prog 156 #[.pointer (some ⟨bb, 0, none⟩), nv w] m r m' ∧ (BldP P N bb m' (max W (w + 1)) Gs v ∧ m'.size = m.size ∧ ∀ b, b ≠ bb → Mem.get m' b = Mem.get m b) := by
  obtain ⟨g1, hbN, hPP, cs, hO, hcs⟩ := hB
  have hbl := live g1
  refine wpF (args := [_, _]) mixed okf156 (fn := Tryd.f156) rfl rfl rfl (by simp) ?_
  refine cRegion ?_
  refine sMv (v := .pointer _) rfl ?_
  refine sMv (v := .pointer _) rfl ?_
  refine sNC rfl ?_
  refine sFA F96_0 rfl ?_
  refine sFA F30_0 rfl ?_
  refine sLd (v := nv W) A3 rfl g1 rfl ?_
  refine sMv (v := nv _) rfl ?_
  refine sBin rfl rfl (aInt_add (b := 1) (by omega)) ?_
  refine sMax (a := W) (b := w + 1) rfl rfl ?_
  refine sNC rfl ?_
  refine sFA F96_0 rfl ?_
  refine sFA F30_0 rfl ?_
  refine sSt (v := nv _) S3 rfl rfl g1 (by simp) rfl rfl ?_
  refine sNil ?_
  refine ⟨.inl rfl, _, rfl, ⟨gS rfl hbl, hbN, fun b hb => ?_, cs, hO.only (.set bb m _) hbN, hcs⟩, by simp, fun b hb => gSn (fun e => hb e.symm)⟩
  simpa using hPP b hb
theorem spec_Compact2 {m : Mem} {b x y : Nat} {C : Array Value} (hb : Mem.get m b = .cells true C) (hC : 2 ≤ C.size) (h0 : C[0]? = some (nv x)) (h1 : C[1]? = some (nv y)) : ∃ v m', ACalls Tryd.prog 157 #[.slice (some ⟨b, 0, some 1⟩) 2 C.size] m v m' ∧ (IntsAt m' v (ofs (if x = y then [x] else [x, y])) ∧ But b m m' ∧ m'.size = m.size) := by
  have hbm := live hb
  refine wpF (args := [_]) mixed okf157 (fn := Tryd.f157) rfl rfl rfl (by simp) ?_
  refine cSeq ?_
  refine cRegion ?_
  refine sAs (v := .slice _ _ _) rfl ?_
  refine sNil (kSeqN ?_)
  refine cSeq ?_
  refine cSeq ?_
  refine cRegion ?_
  refine sMv (v := .slice _ _ _) rfl ?_
  refine sLen T22 rfl ?_
  refine sBin (v := .bool false) (a := 2) (b := 2) rfl rfl rfl ?_
  refine sNil (kSeqN ?_)
  refine cCondF rfl ?_
  refine cSkip (kSeqN ?_)
  refine cSeq ?_
  refine cSeq ?_
  refine cRegion ?_
  refine sAs (v := nv 1) rfl ?_
  refine sNil (kSeqN ?_)
  refine cBlock ?_
  refine wpC_loop (fun k ρ m' => ∃ i, k = 2 - i ∧ (i = 1 ∨ i = 2 ∧ x ≠ y) ∧ m = m' ∧ Has ρ [(0, .slice (some ⟨b, 0, some 1⟩) 2 C.size), (3, nv i)]) ⟨1, rfl, .inl rfl, rfl, rfl, rfl, trivial⟩ ?_
  rintro k ρ _ ⟨i, rfl, hi, rfl, hh⟩
  rw [hh.env]; clear hh
  refine cSeq ?_
  refine cSeq ?_
  refine cRegion ?_
  refine sMv (v := nv _) rfl ?_
  refine sMv (v := .slice _ _ _) rfl ?_
  refine sLen T22 rfl ?_
  refine sBin (a := i) (b := 2) rfl rfl aInt_lss ?_
  refine sNil (kSeqN ?_)
  refine cCond (p := i < 2) rfl (fun c1 => ?_) (fun c1 => ?_)
  · obtain rfl : i = 1 := by omega
    refine cSkip (kSeqN ?_)
    refine cSeq ?_
    refine cBlock ?_
    refine cSeq ?_
    refine cDraw rfl ?_
    refine sMv (v := .slice _ _ _) rfl ?_
    refine sMv (v := nv _) rfl ?_
    refine sIx T22 S3 rfl rfl (by omega) ?_
    refine sLd (v := nv y) A3 rfl hb h1 ?_
    refine sMv (v := .slice _ _ _) rfl ?_
    refine sMv (v := nv _) rfl ?_
    refine sBin (v := nv 0) (a := 1) (b := 1) rfl rfl rfl ?_
    refine sIx T22 S3 rfl rfl (by omega) ?_
    refine sLd (v := nv x) A3 rfl hb h0 ?_
    refine sBin (a := y) (b := x) rfl rfl aInt_eql ?_
    refine sNil (kSeqN ?_)
    refine cCond (p := y = x) rfl (fun c2 => ?_) (fun c2 => ?_)
    · refine cSeq ?_
      refine cRegion ?_
      refine sMv (v := .slice _ _ _) rfl ?_
      refine sMv (v := nv _) rfl ?_
      refine sSlLo (k := 1) T22 S3 rfl rfl (by omega) (by omega) ?_
      refine sAs (v := .slice _ _ _) rfl ?_
      refine sNil (kSeqN ?_)
      refine cSeq ?_
      refine cSeq ?_
      refine cRegion ?_
      refine sAs (v := nv 1) rfl ?_
      refine sNil (kSeqN ?_)
      refine cBlock ?_
      refine wpC_loop (fun k' ρ m' => k' = 0 ∧ m = m' ∧ Has ρ [(0, .slice (some ⟨b, 0, some 1⟩) 2 C.size), (3, nv 1), (4, .slice (some ⟨b, 0 + 1 * 1, some 1⟩) (2 - 1) (C.size - 1)), (5, nv 1)]) ⟨rfl, rfl, rfl, rfl, rfl, rfl, trivial⟩ ?_
      rintro k' ρ _ ⟨rfl, rfl, hh⟩
      rw [hh.env]; clear hh
      refine cSeq ?_
      refine cSeq ?_
      refine cRegion ?_
      refine sMv (v := nv _) rfl ?_
      refine sMv (v := .slice _ _ _) rfl ?_
      refine sLen T22 rfl ?_
      refine sBin (v := .bool false) (a := 1) (b := 1) rfl rfl rfl ?_
      refine sNil (kSeqN ?_)
      refine cCondF rfl ?_
      refine cExit (kSeqE (kSeqE (kBlkS (kSeqN ?_))))
      refine cSeq ?_
      refine cRegion ?_
      refine sMv (v := .slice _ _ _) rfl ?_
      refine sMv (v := nv _) rfl ?_
      refine sSlLo (k := 1) T22 S3 rfl rfl (by omega) (by omega) ?_
      refine sClr T22 Z3 rfl hb (by omega) ?_
      refine sNil (kSeqN ?_)
      refine cSeq ?_
      refine cRegion ?_
      refine sMv (v := .slice _ _ _) rfl ?_
      refine sMv (v := nv _) rfl ?_
      refine sSlHi (k := 1) T22 S3 rfl rfl (by omega) ?_
      refine sAs (v := .slice _ _ _) rfl ?_
      refine sNil (kSeqN ?_)
      refine cRet (kBlkR (kSeqR (kSeqR (kBlkR (kSeqR ?_)))))
      refine ⟨.inr rfl, _, rfl, ?_, ⟨by simp, fun b' h1 h2 => gSn (fun e => h2 e.symm)⟩, by simp⟩
      rw [if_pos c2.symm]
      refine .inr ⟨b, 0, C.size, true, _, rfl, gS rfl hbm, fun i z hz => ?_⟩
      have hi0 : i = 0 := by have := (List.getElem?_eq_some_iff.1 hz).1; simpa [ofs] using this
      subst hi0
      obtain rfl : Int.ofNat x = z := by simpa [ofs] using hz
      rw [lay_get', if_neg (by omega)]; exact h0
    · refine cSkip (kBlkN (kSeqN ?_))
      refine cRegion ?_
      refine sMv (v := nv _) rfl ?_
      refine sBin rfl rfl (aInt_add (b := 1) (by omega)) ?_
      refine sAs (v := nv _) rfl ?_
      refine sNil (kSeqN ?_)
      exact ⟨_, (by decide : 2 - 2 < 2 - 1), 2, rfl, .inr ⟨rfl, fun e => c2 e.symm⟩, rfl, rfl, rfl, trivial⟩
  · have hxy : x ≠ y := by rcases hi with h | h; omega; exact h.2
    refine cExit (kSeqE (kSeqE (kBlkS (kSeqN ?_))))
    refine cSeq ?_
    refine cRegion ?_
    refine sMv (v := .slice _ _ _) rfl ?_
    refine sAs (v := .slice _ _ _) rfl ?_
    refine sNil (kSeqN ?_)
    refine cRet ?_
    refine ⟨.inr rfl, _, rfl, ?_, ⟨Nat.le_refl _, fun _ _ _ => rfl⟩, rfl⟩
    rw [if_neg hxy]
    refine .inr ⟨b, 0, C.size, true, C, rfl, hb, fun i z hz => ?_⟩
    have hi0 : i < 2 := by have := (List.getElem?_eq_some_iff.1 hz).1; simpa [ofs] using this
    have hi' : i = 0 ∨ i = 1 := by omega
    rcases hi' with rfl | rfl
    · obtain rfl : Int.ofNat x = z := by simpa [ofs] using hz
      exact h0
    · obtain rfl : Int.ofNat y = z := by simpa [ofs] using hz
      exact h1
def evE (vars : Int) (d : Nat) (e : BX) (x : Int) : Nat := if goodB vars d e ≠ 0 then goodB vars d e else if x < 0 ∨ Int.ofNat (2 ^ vars.toNat) ≤ x then 3 else 0
def evV (vars : Int) (d : Nat) (e : BX) (x : Int) : Bool := if evE vars d e x = 0 then valB x.toNat d e else false
theorem okf53 : okF Tryd.prog H0 53 26 = true := by kernel_rfl
theorem spec_Eval (vars x : Int) (d : Nat) {m : Mem} {P : Nat → Prop} {v : Value} {e : BX} (hG : GlobW m) (h : BAt P m d v e) (hs : szB d e ≤ 1000000) (hx : x < 9223372036854775808) : ∃ v' m', ACalls Tryd.prog 53 #[v, .int .i64 vars, .int .i64 x] m v' m' ∧ (v' = .tuple #[.bool (evV vars d e x), nv (evE vars d e x)] ∧ Ext m m') := by
  obtain ⟨d', q, cap, hd, rfl⟩ := h.agg
  refine wpF (args := [_, _, _]) mixed okf53 (fn := Tryd.f53) rfl rfl rfl (by simp) ?_
  refine cSeq ?_
  refine cRegion ?_
  refine sBox (v := .agg _) rfl ?_
  change wpOps _ _ _ _ _ (m.push (.cells true #[.int .i64 e.kind, .int .i64 e.var, .slice q e.args.length cap]))
  have e1 : Ext m (m.push (.cells true #[.int .i64 e.kind, .int .i64 e.var, .slice q e.args.length cap])) := .push _ _
  have g1 : Mem.get (m.push (.cells true #[.int .i64 e.kind, .int .i64 e.var, .slice q e.args.length cap])) m.size = .cells true #[.int .i64 e.kind, .int .i64 e.var, .slice q e.args.length cap] := gP rfl
  generalize m.push (.cells true #[.int .i64 e.kind, .int .i64 e.var, .slice q e.args.length cap]) = m1 at *
  refine sAs (v := .bool _) rfl ?_
  refine sAs (v := nv 0) rfl ?_
  refine sNil (kSeqN ?_)
  refine cSeq ?_
  refine cSeq ?_
  refine cRegion ?_
  refine sLdAll A66 S66 rfl g1 rfl ?_
  refine sMv (v := .int .i64 vars) rfl ?_
  obtain ⟨v11, m11, h11, rfl, e11⟩ := spec_Good vars d (hG.ext e1) (h.ext e1) hs
  refine sCall2 rfl call57 rfl rfl h11 ?_
  refine sAs (v := nv _) rfl ?_
  refine sNil (kSeqN ?_)
  refine cSeq ?_
  refine cRegion ?_
  refine sMv (v := nv _) rfl ?_
  refine sBin (a := goodB vars d e) (b := 0) rfl rfl aInt_neq ?_
  refine sNil (kSeqN ?_)
  refine cCond (p := goodB vars d e ≠ 0) rfl (fun c0 => ?_) (fun c0 => ?_)
  · refine cSeq ?_
    refine cRegion ?_
    refine sMv (v := nv _) rfl ?_
    refine sAs (v := .bool _) rfl ?_
    refine sAs (v := nv _) rfl ?_
    refine sNil (kSeqN ?_)
    refine cRet (kSeqR ?_)
    have he : evE vars d e x = goodB vars d e := by rw [evE, if_pos c0]
    exact ⟨.inr rfl, _, rfl, by rw [evV, he, if_neg c0]; rfl, e1.trans e11⟩
  · have hgv : ¬ (vars < 1 ∨ 8 < vars) := fun hh => c0 (by rw [goodB, if_pos hh]; decide)
    have hgs : fmB vars d e = 0 := by
      have := Decidable.not_not.1 c0
      rw [goodB, if_neg hgv] at this
      split at this
      · cases this
      · exact this
    obtain ⟨n, rfl⟩ : ∃ n : Nat, vars = Int.ofNat n := ⟨vars.toNat, by simp; omega⟩
    have hn8 : n ≤ 8 := by
      have h8 : Int.ofNat n ≤ 8 := by omega
      exact Int.ofNat_le.1 h8
    have hp8 : 2 ^ n ≤ 256 := Nat.le_trans (Nat.pow_le_pow_right (by decide) hn8) (by decide)
    refine cSkip (kSeqN ?_)
    refine cSeq ?_
    refine cSeq ?_
    refine cRegion ?_
    refine sMv (v := .int .i64 x) rfl ?_
    refine sBinI (v := .bool (decide (x < 0))) rfl rfl aInt_lssI ?_
    refine sMv (v := .bool _) rfl ?_
    by_cases hx0 : x < 0
    · rw [decide_eq_true hx0]
      refine sGno (q' := true) rfl rfl (by simp) ?_
      refine sGno (q' := true) rfl rfl (by simp) ?_
      refine sGno (q' := true) rfl rfl (by simp) ?_
      refine sGno (q' := true) rfl rfl (by simp) ?_
      refine sP (v := .bool _) rfl ?_
      refine sNil (kSeqN ?_)
      refine cCondT rfl ?_
      refine cSeq ?_
      refine cRegion ?_
      refine sAs (v := .bool _) rfl ?_
      refine sAs (v := nv 3) rfl ?_
      refine sNil (kSeqN ?_)
      refine cRet (kSeqR ?_)
      have he : evE (Int.ofNat n) d e x = 3 := by rw [evE, if_neg c0, if_pos (.inl hx0)]
      exact ⟨.inr rfl, _, rfl, by rw [evV, he]; rfl, e1.trans e11⟩
    · rw [decide_eq_false hx0]
      refine sG rfl rfl ?_
      refine sMv (v := .int .i64 x) rfl ?_
      refine sG rfl rfl ?_
      refine sMv (v := nv n) rfl ?_
      refine sG rfl rfl ?_
      refine sBin (a := 1) (b := n) rfl rfl (aInt_shl (by omega)) ?_
      refine sG rfl rfl ?_
      refine sBinI (v := .bool (decide (Int.ofNat (1 <<< n) ≤ x))) rfl rfl aInt_geqI ?_
      refine sP (v := .bool _) rfl ?_
      refine sNil (kSeqN ?_)
      refine cCond (p := Int.ofNat (1 <<< n) ≤ x) rfl (fun c2 => ?_) (fun c2 => ?_)
      · refine cSeq ?_
        refine cRegion ?_
        refine sAs (v := .bool _) rfl ?_
        refine sAs (v := nv 3) rfl ?_
        refine sNil (kSeqN ?_)
        refine cRet (kSeqR ?_)
        rw [Nat.shiftLeft_eq, Nat.one_mul] at c2
        have he : evE (Int.ofNat n) d e x = 3 := by rw [evE, if_neg c0, if_pos (.inr c2)]
        exact ⟨.inr rfl, _, rfl, by rw [evV, he]; rfl, e1.trans e11⟩
      · rw [Nat.shiftLeft_eq, Nat.one_mul] at c2
        have he : evE (Int.ofNat n) d e x = 0 := by rw [evE, if_neg c0, if_neg (by rintro (h | h); exact hx0 h; exact c2 h)]
        obtain ⟨k, rfl⟩ : ∃ k : Nat, x = Int.ofNat k := ⟨x.toNat, by simp; omega⟩
        have hk : k < 9223372036854775808 := Int.ofNat_lt.1 hx
        refine cSkip (kSeqN ?_)
        refine cSeq ?_
        refine cRegion ?_
        refine sLdAll A66 S66 rfl (e11.cells g1) rfl ?_
        refine sMv (v := nv k) rfl ?_
        obtain ⟨v25, m25, h25, rfl, e25⟩ := spec_value (Int.ofNat n) k hk d ((h.ext e1).ext e11) hgs
        refine sCall2 rfl call111 rfl rfl h25 ?_
        refine sAs (v := .bool _) rfl ?_
        refine sAs (v := nv 0) rfl ?_
        refine sNil (kSeqN ?_)
        refine cRet ?_
        exact ⟨.inr rfl, _, rfl, by rw [evV, he, if_pos rfl]; rfl, (e1.trans e11).trans e25⟩
end Go.AM

/-! ### N5 -/
namespace Go.AM
open Go.Proofs
instance : Inhabited BX := ⟨.mk 7 0 []⟩
abbrev Gt := Nat × List Nat
def notX (e : BX) : BX := .mk 2 0 [e]
def maxL (l : List Nat) : Nat := l.foldr max 0
def nfB : Nat → BX → Nat
  | 0, _ => 0
  | d + 1, e => (if e.kind = 5 then 2 else 1) + maxL (e.args.map (nfB d))
def atM : List BX → Nat → List Nat
  | [], _ => []
  | a :: l, f => if a.kind = 1 then a.var.toNat :: atM l f else f :: atM l (f + 1)
def inG (T : BX → Nat → Nat → List Gt) : List BX → Nat → List Gt
  | [], _ => []
  | a :: l, f => if a.kind = 1 then inG T l f else T a f (f + 1) ++ inG T l (f + 1)
def inU (U : BX → Nat → Nat) : List BX → Nat → Nat
  | [], _ => 0
  | a :: l, f => if a.kind = 1 then inU U l f else max (max (f + 1) (U a (f + 1))) (inU U l (f + 1))
def cmpM : List Nat → List Nat
  | [x, y] => if x = y then [x] else [x, y]
  | l => l
def gBoth (T : BX → Nat → Nat → List Gt) (l : List BX) (t f : Nat) : List Gt := inG T l f ++ [turnG t (cmpM (atM l f))] ++ (inG T l f).reverse
def gK (T : BX → Nat → Nat → List Gt) (kn : Nat) (e : BX) (t f : Nat) : List Gt :=
  if kn = 7 then [turnG t []] else if kn = 1 then [turnG t [e.var.toNat]] else if kn = 2 then T (e.args.getD 0 default) t f ++ [turnG t []]
  else if kn = 4 then T (e.args.getD 0 default) t f ++ T (e.args.getD 1 default) t f else if kn = 3 then gBoth T e.args t f
  else if kn = 5 then gBoth T (e.args.map notX) t f ++ [turnG t []] else []
def gT : Nat → BX → Nat → Nat → List Gt
  | 0, _, _, _ => []
  | d + 1, e, t, f => gK (gT d) e.kind.toNat e t f
def uK (U : BX → Nat → Nat) (kn : Nat) (e : BX) (f : Nat) : Nat :=
  if kn = 7 then 0 else if kn = 1 then 0 else if kn = 2 then U (e.args.getD 0 default) f
  else if kn = 4 then max (U (e.args.getD 0 default) f) (U (e.args.getD 1 default) f) else if kn = 3 then inU U e.args f
  else if kn = 5 then inU U (e.args.map notX) f else 0
def uT : Nat → BX → Nat → Nat
  | 0, _, _ => 0
  | d + 1, e, f => uK (uT d) e.kind.toNat e f
theorem maxL_mem {l : List Nat} {x : Nat} (h : x ∈ l) : x ≤ maxL l := by
  induction l with
  | nil => cases h
  | cons a l ih =>
    show x ≤ max a (maxL l)
    rcases List.mem_cons.1 h with rfl | h
    · exact Nat.le_max_left _ _
    · exact Nat.le_trans (ih h) (Nat.le_max_right _ _)
theorem nf_arg {d : Nat} {e a : BX} (h : a ∈ e.args) : nfB d a + 1 ≤ nfB (d + 1) e := by
  have := maxL_mem (List.mem_map_of_mem (f := nfB d) h)
  rw [nfB]; split <;> omega
theorem nf_arg5 {d : Nat} {e a : BX} (h : a ∈ e.args) (h5 : e.kind = 5) : nfB d a + 2 ≤ nfB (d + 1) e := by
  have := maxL_mem (List.mem_map_of_mem (f := nfB d) h)
  rw [nfB, if_pos h5]; omega
theorem nf_not (d : Nat) (a : BX) : nfB (d + 1) (notX a) = nfB d a + 1 := by
  rw [nfB, if_neg (by simp [notX, BX.kind])]
  show 1 + max (nfB d a) 0 = _
  omega
theorem nf_pos {vars : Int} {d : Nat} {e : BX} (h : 0 < d) : 1 ≤ nfB d e := by
  cases d with
  | zero => omega
  | succ d => rw [nfB]; split <;> omega
theorem fm_not {vars : Int} {d : Nat} {a : BX} (h : fmB vars d a = 0) : fmB vars (d + 1) (notX a) = 0 := by
  rw [fmB, if_neg (by simp [notX, BX.kind]), if_neg (by simp [notX, BX.args, BX.kind, BX.var, wantsN]), if_neg (by simp [notX, BX.kind])]
  show firstE [fmB vars d a] = 0
  rw [firstE, if_pos h]; rfl
theorem atM_len : ∀ (l : List BX) (f : Nat), (atM l f).length = l.length
  | [], _ => rfl
  | a :: l, f => by
    unfold atM
    split
    · rw [List.length_cons, atM_len l f, List.length_cons]
    · rw [List.length_cons, atM_len l (f + 1), List.length_cons]
theorem cmpM_len : ∀ (l : List Nat), (cmpM l).length ≤ l.length
  | [] => Nat.le_refl _
  | [x] => Nat.le_refl _
  | [x, y] => by
    show (if x = y then [x] else [x, y]).length ≤ 2
    split <;> simp
  | x :: y :: z :: l => Nat.le_refl _
theorem inG_ok {T : BX → Nat → Nat → List Gt} {p : Gt → Prop} : ∀ (l : List BX) (f : Nat), (∀ a ∈ l, ∀ t f, ∀ g ∈ T a t f, p g) → ∀ g ∈ inG T l f, p g
  | [], f, _ => fun g hg => by cases hg
  | a :: l, f, h => by
    unfold inG
    split
    · exact inG_ok l f fun b hb => h b (by simp [hb])
    · intro g hg
      rw [List.mem_append] at hg
      rcases hg with hg | hg
      · exact h a (by simp) _ _ g hg
      · exact inG_ok l (f + 1) (fun b hb => h b (by simp [hb])) g hg
theorem gBoth_ok {T : BX → Nat → Nat → List Gt} {l : List BX} {t f : Nat} (hl : l.length ≤ 2) (h : ∀ a ∈ l, ∀ t f, ∀ g ∈ T a t f, g.2.length ≤ 3) : ∀ g ∈ gBoth T l t f, g.2.length ≤ 3 := by
  intro g hg
  unfold gBoth at hg
  rw [List.mem_append, List.mem_append, List.mem_reverse] at hg
  rcases hg with (hg | hg) | hg
  · exact inG_ok l f h g hg
  · simp at hg; subst hg
    have h1 := cmpM_len (atM l f)
    rw [atM_len] at h1
    simp [turnG]; omega
  · exact inG_ok l f h g hg
theorem args_le {vars : Int} {d : Nat} {e : BX} (h : fmB vars (d + 1) e = 0) : e.args.length ≤ 2 := by
  obtain ⟨kn, hk, hk1, hk7, hkl, _⟩ := fm_right h
  rw [hkl]
  have : kn = 1 ∨ kn = 2 ∨ kn = 3 ∨ kn = 4 ∨ kn = 5 ∨ kn = 6 ∨ kn = 7 := by omega
  rcases this with rfl | rfl | rfl | rfl | rfl | rfl | rfl <;> decide
theorem getD_memB {α : Type} [Inhabited α] {l : List α} {i : Nat} (h : i < l.length) : l.getD i default ∈ l := by
  rw [List.getD_eq_getElem?_getD, List.getElem?_eq_getElem h]; exact List.getElem_mem _
theorem gT_ok {vars : Int} : ∀ (D d : Nat) (e : BX) (t f : Nat), fmB vars d e = 0 → (∀ g ∈ gT D e t f, g.2.length ≤ 3) := by
  intro D
  induction D with
  | zero => intro d e t f _ g hg; cases hg
  | succ D ih =>
    intro d e t f h g hg
    obtain ⟨d, rfl⟩ : ∃ d', d = d' + 1 := by
      cases d with
      | zero => cases h
      | succ d => exact ⟨d, rfl⟩
    obtain ⟨kn, hk, hk1, hk7, hkl, _, _, hfa⟩ := fm_right h
    have hal := args_le h
    have harg : ∀ a ∈ e.args, ∀ t f, ∀ g ∈ gT D a t f, g.2.length ≤ 3 := fun a ha t f => ih d a t f (hfa a ha)
    have hnot : ∀ a ∈ e.args, ∀ t f, ∀ g ∈ gT D (notX a) t f, g.2.length ≤ 3 := fun a ha t f => ih (d + 1) (notX a) t f (fm_not (hfa a ha))
    rw [gT, gK] at hg
    split at hg
    · simp at hg; subst hg; simp [turnG]
    · split at hg
      · simp at hg; subst hg; simp [turnG]
      · split at hg
        · rename_i h2
          rw [List.mem_append] at hg
          rcases hg with hg | hg
          · exact harg _ (getD_memB (l := e.args) (i := 0) (by rw [hkl]; rw [hk] at h2; obtain rfl : kn = 2 := h2; decide)) _ _ g hg
          · simp at hg; subst hg; simp [turnG]
        · split at hg
          · rename_i h4
            have hl2 : e.args.length = 2 := by rw [hkl]; rw [hk] at h4; obtain rfl : kn = 4 := h4; rfl
            rw [List.mem_append] at hg
            rcases hg with hg | hg
            · exact harg _ (getD_memB (l := e.args) (i := 0) (by omega)) _ _ g hg
            · exact harg _ (getD_memB (l := e.args) (i := 1) (by omega)) _ _ g hg
          · split at hg
            · exact gBoth_ok hal harg g hg
            · split at hg
              · rw [List.mem_append] at hg
                rcases hg with hg | hg
                · refine gBoth_ok (by simpa using hal) (fun a ha => ?_) g hg
                  rw [List.mem_map] at ha
                  obtain ⟨b, hb, rfl⟩ := ha
                  exact hnot b hb
                · simp at hg; subst hg; simp [turnG]
              · cases hg
end Go.AM

/-! ### R24 -/
namespace Go.AM
open Go.Proofs
theorem ElI : ElemT Tryd.prog 22 22 1 := ⟨_, _, _, 8, T22, T22, rfl, S3, Z3, rfl, bytes3, by decide, by decide⟩
theorem OwnF.toC {N : Nat} {m : Mem} {v : Value} {l : List Nat} (h : OwnF N m v (ofs l)) : OwnC N m v 1 l.length (cellsN l) := by
  rcases h with ⟨h, rfl⟩ | ⟨b, cap, c, rfl, h2, h3, h4, h5, h6⟩
  · have : l = [] := List.length_eq_zero_iff.1 (by have := congrArg List.length h; rwa [ofs_length] at this)
    subst this; exact .nil _ _ _
  · rw [ofs_length] at h4 ⊢
    refine .inr ⟨b, cap, c, rfl, h2, h3, h4, by omega, by simp, fun i hi => ?_⟩
    have hil : i < l.length := by omega
    rw [h6 i (Int.ofNat l[i]) (by simp [ofs, List.getElem?_eq_getElem hil]), cellsN_get (List.getElem?_eq_getElem hil)]
theorem OwnC.toFN {N : Nat} {m : Mem} {v : Value} {l : List Nat} (h : OwnC N m v 1 l.length (cellsN l)) : OwnF N m v (ofs l) := by
  rcases h with ⟨rfl, h, _⟩ | ⟨b, cap, c, rfl, h2, h3, h4, h5, h6, h7⟩
  · have : l = [] := List.length_eq_zero_iff.1 h
    subst this; exact .nil _ _
  · refine .inr ⟨b, cap, c, by rw [ofs_length], h2, h3, by rw [ofs_length]; exact h4, by omega, fun i x hx => ?_⟩
    have hil : i < l.length := by have := (List.getElem?_eq_some_iff.1 hx).1; rwa [ofs_length] at this
    rw [h7 i (by omega), cellsN_get (List.getElem?_eq_getElem hil)]
    simp [ofs, List.getElem?_eq_getElem hil] at hx
    rw [← hx]; rfl
theorem sAppF {ρ : Env} {m : Mem} {K : Env → Mem → Prop} {ops : Array Oper} {l : List Oper} {d : Option Nat} {ty : TypeId} {pos : String} {af : Array Edge} {x y : Operand} {N k bx : Nat} {v : Value} {p : List Nat} (hx : evR ρ x = v) (hy : evR ρ y = .slice (some ⟨bx, 0, some 1⟩) 1 1) (h : OwnF N m v (ofs p)) (hb : Mem.get m bx = .cells true #[nv k]) (hN : N ≤ m.size) (hl : p.length ≤ 1000000)
    (hk : ∀ v' m', OwnF N m' v' (ofs (p ++ [k])) → Grew m v m' v' → wpOps Tryd.prog ops K l (updO ρ d v') m') : wpOps Tryd.prog ops K (⟨d, .call ⟨.builtin .append, ⟨[x, y]⟩, ⟨[22, 22]⟩⟩, ty, pos, af, none⟩ :: l) ρ m := by
  refine sAppC ElI hx hy (N := N) (n := p.length) (cs := cellsN p) (d := #[nv k]) h.toC hb rfl (by kernel_rfl) hN hl fun v' m' hO _ hG => hk v' m' (OwnC.toFN ?_) hG
  rw [show cellsN (p ++ [k]) = cellsN p ++ #[nv k] by simp [cellsN], List.length_append]
  exact hO
theorem sSlG {ρ : Env} {m : Mem} {K : Env → Mem → Prop} {ops : Array Oper} {l : List Oper} {d : Option Nat} {ty : TypeId} {pos : String} {af : Array Edge} {x i : Operand} {N : Nat} {v : Value} {cs : Array Value} {Gs I : List (Nat × List Nat)} (hO : OwnG N m v cs (Gs ++ I)) (hx : evR ρ x = v) (hi : evR ρ i = nv Gs.length)
    (hk : ∀ w, (ReadG m w I ∧ ¬ I = [] ∨ I = [] ∧ ∃ q c, w = .slice q 0 c) → wpOps Tryd.prog ops K l (updO ρ d w) m) : wpOps Tryd.prog ops K (⟨d, .slice 28 x (some i) none none, ty, pos, af, none⟩ :: l) ρ m := by
  have hrows := hO.read
  rcases hO.1 with ⟨rfl, h0, _⟩ | ⟨b, cap, c, rfl, h2, h3, h4, h5, h6, h7⟩
  · rw [List.length_append] at h0
    have hG : Gs = [] := List.length_eq_zero_iff.1 (by omega)
    have hI : I = [] := List.length_eq_zero_iff.1 (by omega)
    subst hG hI
    refine sO (opF_read rfl ?_) (hk (.slice none 0 0) (.inr ⟨rfl, _, _, rfl⟩))
    simp only [aRead, hx, Option.map_some, hi, Option.map_none, aSlice, T28, S49]
    rfl
  · rw [List.length_append] at h4 h6 h7 hx
    have hsl : aSlice Tryd.prog m 28 (.slice (some ⟨b, 0, some 4⟩) (Gs.length + I.length) cap) (some (nv Gs.length)) none none = some (cut false b 0 4 Gs.length (Gs.length + I.length) cap) := by
      simp only [aSlice, T28, S49, if_true, aBounds, aBound_nv (show Gs.length ≤ Gs.length + I.length by omega), Option.map_some, Option.isSome_none]
    refine sO (opF_read rfl (v := cut false b 0 4 Gs.length (Gs.length + I.length) cap) ?_) (hk _ ?_)
    · simp only [aRead, hx, Option.map_some, hi, Option.map_none]
      exact hsl
    · by_cases hI : I = []
      · right
        subst hI
        refine ⟨rfl, ?_⟩
        unfold cut
        rw [if_neg (by simp)]
        split
        · exact ⟨_, _, rfl⟩
        · simp only [List.length_nil, Nat.add_zero, Nat.sub_self]
          exact ⟨_, _, rfl⟩
      · left
        have hIl : 0 < I.length := List.length_pos_iff.2 hI
        refine ⟨?_, hI⟩
        unfold cut
        rw [if_neg (by simp), if_neg (by omega), Nat.zero_add, Nat.add_sub_cancel_left]
        have hsz : Gs.length * 4 + I.length * 4 ≤ c.size := by rw [h5]; have := Nat.mul_le_mul_right 4 h4; omega
        refine ⟨_, .inr ⟨b, Gs.length * 4, _, c, true, rfl, h3, hsz, rfl⟩, fun i g hi => ?_⟩
        have hil := (List.getElem?_eq_some_iff.1 hi).1
        obtain ⟨s, a0, a1, a2, a3, ho, _⟩ := hO.2 (Gs.length + i) g (by rw [List.getElem?_append_right (by omega), Nat.add_sub_cancel_left]; exact hi)
        have key : ∀ j, j < 4 → (c.extract (Gs.length * 4) (Gs.length * 4 + I.length * 4))[i * 4 + j]? = cs[(Gs.length + i) * 4 + j]? := fun j hj => by
          rw [Array.getElem?_extract, if_pos (by omega), ← h7 _ (by omega)]
          congr 1; omega
        exact ⟨s, by have := key 0 (by omega); rw [Nat.add_zero, Nat.add_zero] at this; rw [this]; exact a0, by rw [key 1 (by omega)]; exact a1, by rw [key 2 (by omega)]; exact a2, by rw [key 3 (by omega)]; exact a3, ho.ints⟩
theorem spec_backE {m : Mem} {q : Option Addr} {c : Nat} : ∃ v m', ACalls Tryd.prog 79 #[.slice q 0 c] m v m' ∧ (∃ cs, OwnG m.size m' v cs [] ∧ Ext m m') := by
  refine wpF (args := [_]) mixed okf79 (fn := Tryd.f79) rfl rfl rfl (by simp) ?_
  refine cSeq ?_
  refine cRegion ?_
  refine sAs (v := .slice _ _ _) rfl ?_
  refine sNil (kSeqN ?_)
  refine cSeq ?_
  refine cRegion ?_
  refine sMv (v := .slice _ _ _) rfl ?_
  refine sLen T28 rfl ?_
  refine sMkG (n := 0) rfl rfl (by omega) fun Z hZ hZ1 => ?_
  refine sAs (v := .slice _ _ _) rfl ?_
  refine sNil (kSeqN ?_)
  refine cSeq ?_
  refine cRegion ?_
  refine sMv (v := .slice _ _ _) rfl ?_
  refine sMv (v := .slice _ _ _) rfl ?_
  refine sO (v := nv 0) (m' := m.push (.cells true Z)) (opF_eff rfl rfl (by
    show aCopy Tryd.prog (m.push (.cells true Z)) 28 (.slice (some ⟨m.size, 0, some 4⟩) 0 0) (.slice q 0 c) = _
    simp only [aCopy, T28, S49, aLenOf]
    rfl)) ?_
  refine sNil (kSeqN ?_)
  refine cSeq ?_
  refine cRegion ?_
  refine sMv (v := .slice _ _ _) rfl ?_
  obtain ⟨v12, m2, h12, T, g2, hT, hT1, hTq, hB2, hz2⟩ := spec_ReverseG (m := m.push (.cells true Z)) (n := 0) (cap := 0) (gP rfl) (by omega) (by omega) hZ1
  refine sCall1 rfl call127 rfl h12 ?_
  simp only [Array.size_push] at hz2
  refine sNil (kSeqN ?_)
  refine cSeq ?_
  refine cSeq ?_
  refine cRegion ?_
  refine sMv (v := .slice _ _ _) rfl ?_
  refine sLen T28 rfl ?_
  refine sMv (v := nv 0) rfl ?_
  refine sNil (kSeqN ?_)
  refine cBlock ?_
  refine wpC_loop (fun k ρ m' => k = 0 ∧ m2 = m' ∧ Has ρ [(3, .slice (some ⟨m.size, 0, some 4⟩) 0 0), (14, nv 0), (15, nv 0)]) ⟨rfl, rfl, rfl, rfl, rfl, trivial⟩ ?_
  rintro k ρ _ ⟨rfl, rfl, hh⟩
  rw [hh.env]; clear hh
  refine cSeq ?_
  refine cRegion ?_
  refine sBin (v := .bool false) (a := 0) (b := 0) rfl rfl rfl ?_
  refine sNil (kSeqN ?_)
  refine cSeq ?_
  refine cCondF rfl ?_
  refine cExit (kSeqE (kSeqE (kBlkS (kSeqN ?_))))
  refine cSeq ?_
  refine cRegion ?_
  refine sMv (v := .slice _ _ _) rfl ?_
  refine sAs (v := .slice _ _ _) rfl ?_
  refine sNil (kSeqN ?_)
  refine cRet ?_
  refine ⟨.inr rfl, _, rfl, #[], ⟨.inr ⟨m.size, 0, T, rfl, Nat.le_refl _, g2, Nat.le_refl _, by omega, rfl, fun i hi => by simp at hi⟩, fun i g h => by cases i <;> cases h⟩, ?_⟩
  exact ⟨by omega, fun b hb => by rw [hB2.2 b (by simp; omega) (by omega), gPn hb]⟩
end Go.AM

/-! ### R25 -/
namespace Go.AM
open Go.Proofs
def ToSpec (vars : Int) (D : Nat) : Prop := ∀ {P : Nat → Prop} {m : Mem} {d N bb W t f : Nat} {Gs : List (Nat × List Nat)} {bv v : Value} {e : BX}, BldP P N bb m W Gs bv → N ≤ m.size → BAt P m d v e → fmB vars d e = 0 → nfB d e ≤ D → f + 2 * D ≤ 1000000 → Gs.length + (gT D e t f).length ≤ 200000 →
  ∃ r m', ACalls Tryd.prog 113 #[.pointer (some ⟨bb, 0, none⟩), v, nv t, nv f] m r m' ∧ (m.size ≤ m'.size ∧ (∀ b, P b → Mem.get m' b = Mem.get m b) ∧ ∃ bv', BldP P N bb m' (max W (uT D e f)) (Gs ++ gT D e t f) bv')
theorem BldP.lt {P : Nat → Prop} {N bb W : Nat} {m : Mem} {Gs : List (Nat × List Nat)} {v : Value} (h : BldP P N bb m W Gs v) {b : Nat} (hb : P b) : b < m.size := (h.2.2.1 b hb).1
theorem BldP.len {P : Nat → Prop} {N bb W : Nat} {m : Mem} {Gs : List (Nat × List Nat)} {v : Value} (h : BldP P N bb m W Gs v) : ∃ q cap, v = .slice q Gs.length cap := by
  obtain ⟨_, _, _, cs, hO, _⟩ := h; exact hO.1.len
theorem drop_consB {α : Type} {l : List α} {i : Nat} {a : α} (h : l[i]? = some a) : l.drop i = a :: l.drop (i + 1) := by
  have hl := (List.getElem?_eq_some_iff.1 h).1
  rw [List.drop_eq_getElem_cons hl, (List.getElem?_eq_some_iff.1 h).2]
theorem okf139 : okF Tryd.prog H0 139 67 = true := by kernel_rfl
theorem spec_both {vars : Int} {D : Nat} (ih : ToSpec vars D) {P : Nat → Prop} {m : Mem} {d N bb W t f b0 o0 cp0 : Nat} {r0 : Bool} {c00 : Array Value} {Gs : List (Nat × List Nat)} {bv : Value} {l : List BX} (hB : BldP P N bb m W Gs bv) (hN : N ≤ m.size) (hP0 : P b0) (hg0 : Mem.get m b0 = .cells r0 c00) (hl0 : ∀ (i : Nat) (a : BX), l[i]? = some a → o0 + i * 3 + 3 ≤ c00.size ∧ BAt P m d (.agg (c00.extract (o0 + i * 3) (o0 + i * 3 + 3))) a) (hl2 : l.length = 2) (hf : ∀ a ∈ l, fmB vars d a = 0) (hn : ∀ a ∈ l, nfB d a ≤ D) (hfr : f + 2 + 2 * D ≤ 1000000) (hlen : Gs.length + (gBoth (gT D) l t f).length ≤ 200000) :
  ∃ r m', ACalls Tryd.prog 139 #[.pointer (some ⟨bb, 0, none⟩), .slice (some ⟨b0, o0, some 3⟩) 2 cp0, nv t, nv f] m r m' ∧ (m.size ≤ m'.size ∧ (∀ b, P b → Mem.get m' b = Mem.get m b) ∧ ∃ bv', BldP P N bb m' (max W (inU (uT D) l f)) (Gs ++ gBoth (gT D) l t f) bv') := by
  obtain ⟨qb, cb, rfl⟩ := hB.len
  have hPm : ∀ b, P b → b < m.size := fun b hb => hB.lt hb
  have hgl : (gBoth (gT D) l t f).length = (inG (gT D) l f).length + 1 + (inG (gT D) l f).length := by simp [gBoth]; omega
  refine wpF (args := [_, _, _, _]) mixed okf139 (fn := Tryd.f139) rfl rfl rfl (by simp) ?_
  refine cSeq ?_
  refine cRegion ?_
  refine sMv (v := .pointer _) rfl ?_
  refine sNC rfl ?_
  refine sFA F96_0 rfl ?_
  refine sFA F30_2 rfl ?_
  refine sLd (v := .slice _ _ _) A28 rfl hB.1 rfl ?_
  refine sLen T28 rfl ?_
  refine sAs (v := nv _) rfl ?_
  refine sNil (kSeqN ?_)
  refine cSeq ?_
  refine cRegion ?_
  refine sAs (v := .slice _ _ _) rfl ?_
  refine sNil (kSeqN ?_)
  refine cSeq ?_
  refine cSeq ?_
  refine cRegion ?_
  refine sMv (v := .slice _ _ _) rfl ?_
  refine sLen T64 rfl ?_
  refine sMv (v := nv 0) rfl ?_
  refine sNil (kSeqN ?_)
  refine cBlock ?_
  refine wpC_loop (fun k ρ m' => ∃ i fi A I Wi bvi av, k = 2 - i ∧ i ≤ 2 ∧ A ++ atM (l.drop i) fi = atM l f ∧ I ++ inG (gT D) (l.drop i) fi = inG (gT D) l f ∧ max Wi (inU (uT D) (l.drop i) fi) = max W (inU (uT D) l f) ∧ A.length = i ∧ fi ≤ f + i ∧ BldP (fun b => P b ∨ blkOf av = some b) N bb m' Wi (Gs ++ I) bvi ∧ m.size ≤ m'.size ∧ (∀ b, P b → Mem.get m' b = Mem.get m b) ∧ OwnF m.size m' av (ofs A) ∧ Has ρ [(0, .pointer (some ⟨bb, 0, none⟩)), (2, nv t), (3, nv fi), (8, nv Gs.length), (9, av), (19, .slice (some ⟨b0, o0, some 3⟩) 2 cp0), (20, nv 2), (21, nv i)]) ⟨0, f, [], [], W, _, .slice none 0 0, rfl, Nat.zero_le _, rfl, rfl, rfl, rfl, Nat.le_refl _, by rw [List.append_nil]; exact hB.move (Nat.le_refl _) (fun _ _ _ => rfl) (fun b hb => by rcases hb with hb | hb; exact ⟨hPm b hb, .inl hb⟩; cases hb), Nat.le_refl _, fun _ _ => rfl, .nil _ _, rfl, rfl, rfl, rfl, rfl, rfl, rfl, rfl, trivial⟩ ?_
  rintro k ρ m' ⟨i, fi, A, I, Wi, bvi, av, rfl, hi, hA, hI, hW, hAl, hfi, hBi, hz, hPk, hav, hh⟩
  obtain ⟨qa, ca, rfl⟩ := hav.ints.lenN
  rw [hh.env]; clear hh
  have hIl : I.length ≤ (inG (gT D) l f).length := by rw [← hI, List.length_append]; omega
  refine cSeq ?_
  refine cRegion ?_
  refine sBin rfl rfl (aInt_lss) ?_
  refine sNil (kSeqN ?_)
  refine cSeq ?_
  refine cCond rfl (fun c0 => ?_) (fun c0 => ?_)
  · obtain ⟨a, ha⟩ : ∃ a, l[i]? = some a := ⟨_, List.getElem?_eq_getElem (by omega)⟩
    have ham := List.mem_of_getElem? ha
    obtain ⟨hs1, hat0⟩ := hl0 i a ha
    rw [drop_consB ha] at hA hI hW
    have hat : BAt P m' d (.agg (c00.extract (o0 + i * 3) (o0 + i * 3 + 3))) a := hat0.frame fun b hb _ => ⟨hb, hPk b hb⟩
    obtain ⟨da, q1, cp1, hda, hca⟩ := hat.agg
    subst hda
    obtain ⟨kn, hk, hk1, hk7, hkl, hv0, hv1, hfa⟩ := fm_right (hf a ham)
    refine cSkip (kSeqN ?_)
    refine cSeq ?_
    refine cBlock ?_
    refine cSeq ?_
    refine cRegion ?_
    refine sIx T64 S66 rfl rfl (by omega) ?_
    refine sLdA A66 S66 rfl ((hPk b0 hP0).trans hg0) hs1 ?_
    refine sAlloc Z66 (by kernel_rfl) ?_
    rw [hca]
    refine sStNA S66 rfl rfl rfl rfl (by kernel_rfl) ?_
    rw [hca, hk] at hat
    rw [hk]
    have e1 : Ext m' (m'.push (.cells true #[nv kn, .int .i64 a.var, .slice q1 a.args.length cp1])) := .push _ _
    have g1 : Mem.get (m'.push (.cells true #[nv kn, .int .i64 a.var, .slice q1 a.args.length cp1])) m'.size = .cells true #[nv kn, .int .i64 a.var, .slice q1 a.args.length cp1] := gP rfl
    have z1 : (m'.push (.cells true #[nv kn, .int .i64 a.var, .slice q1 a.args.length cp1])).size = m'.size + 1 := by simp
    have hat1 := hat.ext e1
    have hB1 := hBi.ext e1
    have hav1 := hav.ext e1
    have hPk1 : ∀ b, P b → Mem.get (m'.push (.cells true #[nv kn, .int .i64 a.var, .slice q1 a.args.length cp1])) b = Mem.get m b := fun b hb => (e1.2 b (by have := hPm b hb; omega)).trans (hPk b hb)
    generalize m'.push (.cells true #[nv kn, .int .i64 a.var, .slice q1 a.args.length cp1]) = m1 at *
    refine sNil (kSeqN ?_)
    refine cSeq ?_
    refine cSeq ?_
    refine cRegion ?_
    refine sFA F66_0 rfl ?_
    refine sLd (v := nv kn) A3 rfl g1 rfl ?_
    refine sBin (a := kn) (b := 1) rfl rfl aInt_eql ?_
    refine sNil (kSeqN ?_)
    refine cCond (p := kn = 1) rfl (fun c1 => ?_) (fun c1 => ?_)
    · obtain ⟨w1, w2⟩ := hv1 c1
      obtain ⟨vn, hvn⟩ : ∃ vn : Nat, a.var = Int.ofNat vn := ⟨a.var.toNat, by simp; omega⟩
      rw [hvn] at g1
      have hk1' : a.kind = 1 := by rw [hk, c1]; rfl
      rw [atM, if_pos hk1'] at hA
      rw [inG, if_pos hk1'] at hI
      rw [inU, if_pos hk1'] at hW
      refine cSeq ?_
      refine cRegion ?_
      refine sMv (v := .slice _ _ _) rfl ?_
      refine sFA F66_1 rfl ?_
      refine sLd (v := nv vn) A3 rfl g1 rfl ?_
      refine sBuildS T22 S3 Z3 (by decide) (by decide) (by decide) (by kernel_rfl) fill1 rfl ?_
      refine sAppF rfl rfl (N := m.size) (hav1.ext (.push _ _)) (gP rfl) (by simp; omega) (by omega) fun v4 m4 hO4 hG4 => ?_
      have z4 := hG4.1
      simp only [Array.size_push] at z4
      have hav1l : ∀ b, blkOf (Value.slice qa A.length ca) = some b → m.size ≤ b ∧ b < m'.size := fun b hb => hav.lt hb
      refine sAs (v := v4) rfl ?_
      refine sNil (kSeqN ?_)
      refine cExit (kSeqE (kBlkS (kSeqN ?_)))
      refine cRegion ?_
      refine sBin rfl rfl (aInt_add (b := 1) (by omega)) ?_
      refine sMv (v := nv _) rfl ?_
      refine sNil (kSeqN ?_)
      refine ⟨_, ?_, i + 1, fi, A ++ [vn], I, Wi, bvi, v4, rfl, by omega, by rw [← hA, hvn, List.append_assoc]; rfl, hI, hW, by simp [hAl], by omega, ?_, by omega, fun b hb => ?_, hO4, rfl, rfl, rfl, rfl, rfl, rfl, rfl, rfl, trivial⟩
      · omega
      · refine (hB1.ext (.push m1 (.cells true #[nv vn]))).move (by simpa using z4) (fun b h1 h2 => hG4.2.1 b h1 (fun e => h2 (.inr e))) fun b hb => ?_
        rcases hb with hb | hb
        · exact ⟨by have := hPm b hb; omega, .inl (.inl hb)⟩
        · refine ⟨(hO4.lt hb).2, ?_⟩
          rcases hG4.2.2 with e | ⟨b1, e, hb1⟩
          · rw [e] at hb; exact .inl (.inr hb)
          · rw [e] at hb; injection hb with hb; exact .inr (by simp only [Array.size_push] at hb1 ⊢; omega)
      · have hbm := hPm b hb
        rw [hG4.2.1 b (by simp only [Array.size_push]; omega) (fun e => by have := (hav1l b e).1; omega), gPn (by omega)]; exact hPk1 b hb
    · have hk1' : ¬ a.kind = 1 := by rw [hk]; intro h; exact c1 (Int.ofNat.inj h)
      rw [atM, if_neg hk1'] at hA
      rw [inG, if_neg hk1'] at hI
      rw [inU, if_neg hk1'] at hW
      have hTl : I.length + (gT D a fi (fi + 1)).length ≤ (inG (gT D) l f).length := by rw [← hI]; simp only [List.length_append]; omega
      refine cSkip (kSeqN ?_)
      refine cSeq ?_
      refine cRegion ?_
      refine sMv (v := .pointer _) rfl ?_
      refine sMv (v := nv _) rfl ?_
      obtain ⟨r35, m35, h35, hB35, z35, k35⟩ := spec_use hB1 (w := fi) (by omega)
      refine sCall2 rfl call156 rfl rfl h35 ?_
      have hbl : bb < m1.size := live hB1.1
      have hbP : ∀ b, P b → b ≠ bb := fun b hb => (hB.2.2.1 b hb).2.1
      have g35 : Mem.get m35 m'.size = .cells true #[nv kn, .int .i64 a.var, .slice q1 a.args.length cp1] := (k35 _ (by have := hB.2.1; omega)).trans g1
      have hat35 : BAt P m35 (da + 1) (.agg #[nv kn, .int .i64 a.var, .slice q1 a.args.length cp1]) a := hat1.frame fun b hb _ => ⟨hb, k35 b (hbP b hb)⟩
      have hav35 : OwnF m.size m35 (.slice qa A.length ca) (ofs A) := hav1.keep fun b hb => k35 b (by have := (hav.lt hb).1; have := hB.2.1; omega)
      refine sNil (kSeqN ?_)
      refine cSeq ?_
      refine cRegion ?_
      refine sMv (v := .pointer _) rfl ?_
      refine sLdAll A66 S66 rfl g35 rfl ?_
      refine sMv (v := nv _) rfl ?_
      refine sMv (v := nv _) rfl ?_
      refine sBin rfl rfl (aInt_add (b := 1) (by omega)) ?_
      obtain ⟨r41, m41, h41, z41, k41, bv41, hB41⟩ := ih (t := fi) (f := fi + 1) hB35 (by omega) (hat35.frame fun b hb _ => ⟨.inl hb, rfl⟩) (hf a ham) (hn a ham) (by omega) (by rw [List.length_append]; omega)
      refine sCall4 rfl call113 rfl rfl rfl rfl h41 ?_
      have hav41 : OwnF m.size m41 (.slice qa A.length ca) (ofs A) := hav35.keep fun b hb => k41 b (.inr hb)
      have hPk41 : ∀ b, P b → Mem.get m41 b = Mem.get m b := fun b hb => (k41 b (.inl hb)).trans ((k35 b (hbP b hb)).trans (hPk1 b hb))
      refine sNil (kSeqN ?_)
      refine cSeq ?_
      refine cRegion ?_
      refine sMv (v := .slice _ _ _) rfl ?_
      refine sMv (v := nv _) rfl ?_
      refine sBuildS T22 S3 Z3 (by decide) (by decide) (by decide) (by kernel_rfl) fill1 rfl ?_
      refine sAppF rfl rfl (N := m.size) (hav41.ext (.push _ _)) (gP rfl) (by simp; omega) (by omega) fun v4 m4 hO4 hG4 => ?_
      have z4 := hG4.1
      simp only [Array.size_push] at z4
      have hav1l : ∀ b, blkOf (Value.slice qa A.length ca) = some b → m.size ≤ b ∧ b < m'.size := fun b hb => hav.lt hb
      refine sAs (v := v4) rfl ?_
      refine sNil (kSeqN ?_)
      refine cRegion ?_
      refine sMv (v := nv _) rfl ?_
      refine sBin rfl rfl (aInt_add (b := 1) (by omega)) ?_
      refine sAs (v := nv _) rfl ?_
      refine sNil (kBlkN (kSeqN ?_))
      refine cRegion ?_
      refine sBin rfl rfl (aInt_add (b := 1) (by omega)) ?_
      refine sMv (v := nv _) rfl ?_
      refine sNil (kSeqN ?_)
      refine ⟨_, ?_, i + 1, fi + 1, A ++ [fi], I ++ gT D a fi (fi + 1), max (max Wi (fi + 1)) (uT D a (fi + 1)), bv41, v4, rfl, by omega, by rw [← hA, List.append_assoc]; rfl, by rw [List.append_assoc]; exact hI, ?_, by simp [hAl], by omega, ?_, by omega, fun b hb => ?_, hO4, rfl, rfl, rfl, rfl, rfl, rfl, rfl, rfl, trivial⟩
      · omega
      · rw [← hW]; omega
      · rw [← List.append_assoc]
        refine (hB41.ext (.push m41 (.cells true #[nv fi]))).move (by simpa using z4) (fun b h1 h2 => hG4.2.1 b h1 (fun e => h2 (.inr e))) fun b hb => ?_
        rcases hb with hb | hb
        · exact ⟨by have := hPm b hb; omega, .inl (.inl hb)⟩
        · refine ⟨(hO4.lt hb).2, ?_⟩
          rcases hG4.2.2 with e | ⟨b1, e, hb1⟩
          · rw [e] at hb; exact .inl (.inr hb)
          · rw [e] at hb; injection hb with hb; exact .inr (by simp only [Array.size_push] at hb1 ⊢; omega)
      · have hbm := hPm b hb
        rw [hG4.2.1 b (by simp; omega) (fun e => by have := (hav1l b e).1; omega), gPn (by omega)]; exact hPk41 b hb
  · obtain rfl : i = 2 := by omega
    rw [List.drop_of_length_le (by omega)] at hA hI hW
    simp only [atM, inG, inU, List.append_nil, Nat.max_zero] at hA hI hW
    subst hA hI hW
    obtain ⟨qB, cB, rfl⟩ := hBi.len
    refine cExit (kSeqE (kSeqE (kBlkS (kSeqN ?_))))
    refine cSeq ?_
    refine cRegion ?_
    refine sMv (v := .pointer _) rfl ?_
    refine sNC rfl ?_
    refine sFA F96_0 rfl ?_
    refine sFA F30_2 rfl ?_
    refine sLd (v := .slice _ _ _) A28 rfl hBi.1 rfl ?_
    refine sMv (v := nv _) rfl ?_
    obtain ⟨cs55, hO55, hcs55⟩ := hBi.2.2.2
    refine sSlG hO55 rfl rfl fun w hw => ?_
    obtain ⟨v56, m56, h56, cs56, o56, e56⟩ : ∃ v m56, ACalls Tryd.prog 79 #[w] m' v m56 ∧ ∃ cs, OwnG m'.size m56 v cs (inG (gT D) l f).reverse ∧ Ext m' m56 := by
      rcases hw with ⟨hR, _⟩ | ⟨h0, q, c, rfl⟩
      · exact spec_back hR (by omega) (fun g hg => by
          have := inG_ok (T := gT D) (p := fun g => g.2.length ≤ 3) l f (fun a ha t f => gT_ok D d a t f (hf a ha)) g hg
          omega)
      · rw [h0]; exact spec_backE
    obtain ⟨q56, c56, rfl⟩ := o56.1.len
    refine sCall1 rfl call79 rfl h56 ?_
    have z56 := e56.1
    refine sAs (v := .slice _ _ _) rfl ?_
    refine sNil (kSeqN ?_)
    refine cSeq ?_
    refine cRegion ?_
    refine sMv (v := .pointer _) rfl ?_
    refine sMv (v := nv _) rfl ?_
    refine sMv (v := .slice _ _ _) rfl ?_
    obtain ⟨x, y, hxy⟩ := len2 (show (atM l f).length = 2 by rw [atM_len]; exact hl2)
    obtain ⟨ba, Ca, hea, hba, hga, hCa, hc0, hc1⟩ : ∃ ba Ca, Value.slice qa (atM l f).length ca = .slice (some ⟨ba, 0, some 1⟩) 2 (Array.size Ca) ∧ m.size ≤ ba ∧ Mem.get m' ba = .cells true Ca ∧ 2 ≤ Ca.size ∧ Ca[0]? = some (nv x) ∧ Ca[1]? = some (nv y) := by
      rcases hav with ⟨h, _⟩ | ⟨b, cap, c, h1, h2, h3, h4, h5, h6⟩
      · rw [hxy] at h; cases h
      · rw [ofs_length, hxy] at h4
        refine ⟨b, c, ?_, h2, h3, by simp at h4; omega, h6 0 (Int.ofNat x) (by rw [hxy]; rfl), h6 1 (Int.ofNat y) (by rw [hxy]; rfl)⟩
        rw [h1, ofs_length, h5, hxy]; rfl
    have hbal := live hga
    have havb : blkOf (Value.slice qa (atM l f).length ca) = some ba := by rw [hea]; rfl
    obtain ⟨v60, m60, h60, i60, k60, z60⟩ := spec_Compact2 (e56.cells hga) hCa hc0 hc1
    refine sCall1 rfl call157 hea h60 ?_
    have hQ : BldP (fun b => P b ∨ b = ba ∨ (m'.size ≤ b ∧ b < m56.size)) N bb m60 (max W (inU (uT D) l f)) (Gs ++ inG (gT D) l f) (.slice qB (Gs ++ inG (gT D) l f).length cB) := by
      refine hBi.move (by omega) (fun b h1 h2 => ?_) fun b hb => ?_
      · rw [k60.2 b (by omega) (fun e => h2 (.inr (by rw [e]; exact havb))), e56.2 b h1]
      · rcases hb with hb | hb | hb
        · exact ⟨by have := hPm b hb; omega, .inl (.inl hb)⟩
        · exact ⟨by omega, .inl (.inr (by rw [hb]; exact havb))⟩
        · exact ⟨by omega, .inr hb.1⟩
    have hcm : (if x = y then [x] else [x, y]) = cmpM (atM l f) := by rw [hxy]; rfl
    rw [hcm] at i60
    have hcl := cmpM_len (atM l f)
    rw [atM_len] at hcl
    obtain ⟨v61, m61, h61, w61, rfl, o61, e61⟩ := spec_turn (k := t) i60 (by omega)
    refine sCall2 rfl call78 rfl rfl h61 ?_
    obtain ⟨q61, c61, rfl⟩ := o61.ints.lenN
    refine sBuildS T28 S49 Z49 (by decide) (by decide) (by decide) (by kernel_rfl) fillA4 rfl ?_
    obtain ⟨r63, m63, h63, bv63, hB63, z63, k63⟩ := add_one (gk := kindM (cmpM (atM l f)).length) hQ e61 (by omega) (o61.mono (Nat.le_succ _)) (by rw [List.length_append]; omega)
    refine sCall2 rfl call75 rfl rfl h63 ?_
    have hvB : ∀ b, blkOf (Value.slice qB (Gs ++ inG (gT D) l f).length cB) = some b → ¬ (P b ∨ b = ba ∨ (m'.size ≤ b ∧ b < m56.size)) := fun b hb hp => (hQ.2.2.1 b hp).2.2 hb
    have z61 := e61.1
    refine sNil (kSeqN ?_)
    refine cRegion ?_
    refine sMv (v := .pointer _) rfl ?_
    refine sMv (v := .slice _ _ _) rfl ?_
    have o63 : OwnG m'.size m63 (.slice q56 (inG (gT D) l f).reverse.length c56) cs56 (inG (gT D) l f).reverse := o56.up fun b h1 h2 => by
      rw [k63 b (by omega) (by have := hB.2.1; omega) (fun e => hvB b e (.inr (.inr ⟨h1, h2⟩))), k60.2 b h2 (by omega)]
    have hBP : BldP P N bb m63 (max W (inU (uT D) l f)) (Gs ++ inG (gT D) l f ++ [(kindM (cmpM (atM l f)).length, cmpM (atM l f) ++ [t])]) bv63 := hB63.move (Nat.le_refl _) (fun _ _ _ => rfl) fun b hb => ⟨by have := hPm b hb; omega, .inl (.inl hb)⟩
    obtain ⟨r66, m66, h66, bv66, hB66, z66, k66⟩ := spec_addP hBP (Gs2 := (inG (gT D) l f).reverse) (x := .slice q56 (inG (gT D) l f).reverse.length c56) ⟨cs56, o63.1.src, fun i g hi => by
      obtain ⟨s, a0, a1, a2, a3, ho, hb⟩ := o63.2 i g hi
      have ho' : m'.size ≤ m'.size := Nat.le_refl _
      obtain ⟨s2, b0, b1, b2, b3, ho2, _⟩ := o56.2 i g hi
      rw [a1] at b1; injection b1 with b1; subst b1
      refine ⟨s, a0, a1, a2, a3, ho.mono (by omega), fun b hbs => ?_⟩
      have h1 := ho2.lt hbs
      exact ⟨(hB63.2.2.1 b (.inr (.inr h1))).2.2, fun hp => by have := hPm b hp; omega⟩⟩ (by omega) (by simp only [List.length_append, List.length_singleton]; omega) (by rw [List.length_reverse]; omega)
    refine sCall2 rfl call75 rfl rfl h66 ?_
    refine sNil ?_
    refine ⟨.inl rfl, _, rfl, by omega, fun b hb => ?_, bv66, ?_⟩
    · have hbm := hPm b hb
      rw [k66 b (by omega) (hBP.2.2.1 b hb).2.1 (hBP.2.2.1 b hb).2.2, k63 b (by omega) (hBP.2.2.1 b hb).2.1 (fun e => hvB b e (.inl hb)), k60.2 b (by omega) (by omega), e56.2 b (by omega)]
      exact hPk b hb
    · rw [show Gs ++ gBoth (gT D) l t f = Gs ++ inG (gT D) l f ++ [(kindM (cmpM (atM l f)).length, cmpM (atM l f) ++ [t])] ++ (inG (gT D) l f).reverse by simp [gBoth, turnG]]
      exact hB66
end Go.AM

/-! ### N6 -/
namespace Go.AM
open Go.Proofs
theorem maxL_le_sum (l : List Nat) : maxL l ≤ l.sum := by
  induction l with
  | nil => exact Nat.le_refl _
  | cons a l ih => show max a (maxL l) ≤ (a :: l).sum; rw [List.sum_cons]; omega
theorem maxL_mono {α : Type} {g h : α → Nat} {l : List α} (hl : ∀ a ∈ l, g a ≤ h a) : maxL (l.map g) ≤ maxL (l.map h) := by
  induction l with
  | nil => exact Nat.le_refl _
  | cons a l ih =>
    have h1 := hl a (by simp)
    have h2 := ih fun b hb => hl b (by simp [hb])
    show max (g a) (maxL (l.map g)) ≤ max (h a) (maxL (l.map h))
    omega
theorem sum_two (g : BX → Nat) (l : List BX) : (l.map fun a => 2 * g a).sum = 2 * (l.map g).sum := by
  induction l with
  | nil => rfl
  | cons a l ih => simp only [List.map_cons, List.sum_cons, ih]; omega
theorem nf_sz : ∀ (d : Nat) (e : BX), nfB d e ≤ 2 * szB d e
  | 0, e => by simp [nfB]
  | d + 1, e => by
    have h1 := maxL_mono (l := e.args) (g := nfB d) (h := fun a => 2 * szB d a) fun a _ => nf_sz d a
    have h2 := maxL_le_sum (e.args.map fun a => 2 * szB d a)
    rw [sum_two] at h2
    rw [nfB, szB]
    split <;> omega
def Cnt (T s : Nat) : Prop := (T + 8) * 2 ^ (s - 1) ≤ 9 * 3 ^ (s - 1)
theorem pow_le3 (n : Nat) : 2 ^ n ≤ 3 ^ n := Nat.pow_le_pow_left (by decide) n
theorem cnt_not {T s : Nat} (h : Cnt T s) (hs : 1 ≤ s) : Cnt (T + 1) (1 + s) := by
  obtain ⟨k, rfl⟩ : ∃ k, s = k + 1 := ⟨s - 1, by omega⟩
  unfold Cnt at h ⊢
  rw [show k + 1 - 1 = k by omega] at h
  rw [show 1 + (k + 1) - 1 = k + 1 by omega, Nat.pow_succ, Nat.pow_succ]
  have h2 := pow_le3 k
  generalize 2 ^ k = x at *
  generalize 3 ^ k = X at *
  have e1 : (T + 1 + 8) * (x * 2) = 2 * ((T + 8) * x) + 2 * x := by rw [show T + 1 + 8 = (T + 8) + 1 by omega, Nat.add_mul, Nat.one_mul, ← Nat.mul_assoc]; omega
  omega
theorem cnt_two {A B T s1 s2 k : Nat} (h1 : Cnt A s1) (h2 : Cnt B s2) (hs1 : 1 ≤ s1) (hs2 : 1 ≤ s2) (hT : T + 8 + 18 ≤ 2 * (A + 8) + 2 * (B + 8)) : Cnt T (1 + (s1 + s2)) := by
  obtain ⟨a, rfl⟩ : ∃ a, s1 = a + 1 := ⟨s1 - 1, by omega⟩
  obtain ⟨b, rfl⟩ : ∃ b, s2 = b + 1 := ⟨s2 - 1, by omega⟩
  unfold Cnt at h1 h2 ⊢
  rw [show a + 1 - 1 = a by omega] at h1
  rw [show b + 1 - 1 = b by omega] at h2
  rw [show 1 + (a + 1 + (b + 1)) - 1 = a + b + 2 by omega]
  have ha := pow_le3 a
  have hb := pow_le3 b
  have p2 : 2 ^ (a + b + 2) = 4 * (2 ^ a * 2 ^ b) := by rw [Nat.pow_add, Nat.pow_add]; omega
  have p3 : 3 ^ (a + b + 2) = 9 * (3 ^ a * 3 ^ b) := by rw [Nat.pow_add, Nat.pow_add]; omega
  rw [p2, p3]
  generalize 2 ^ a = x at *
  generalize 2 ^ b = y at *
  generalize 3 ^ a = X at *
  generalize 3 ^ b = Y at *
  generalize A + 8 = A' at *
  generalize B + 8 = B' at *
  generalize T + 8 = T' at *
  obtain ⟨u, rfl⟩ : ∃ u, X = x + u := ⟨X - x, by omega⟩
  obtain ⟨v, rfl⟩ : ∃ v, Y = y + v := ⟨Y - y, by omega⟩
  have k1 : (T' + 18) * (x * y) ≤ (2 * A' + 2 * B') * (x * y) := Nat.mul_le_mul_right _ hT
  have k2 : A' * x * y ≤ 9 * (x + u) * y := Nat.mul_le_mul_right _ h1
  have k3 : B' * y * x ≤ 9 * (y + v) * x := Nat.mul_le_mul_right _ h2
  have e1 : (2 * A' + 2 * B') * (x * y) = 2 * (A' * x * y) + 2 * (B' * y * x) := by
    rw [Nat.add_mul, Nat.mul_assoc 2 A', Nat.mul_assoc 2 B', Nat.mul_assoc A' x y, Nat.mul_assoc B' y x, Nat.mul_comm y x]
  have e2 : 9 * (x + u) * y = 9 * (x * y) + 9 * (u * y) := by rw [Nat.mul_assoc, Nat.add_mul, Nat.mul_add]
  have e3 : 9 * (y + v) * x = 9 * (x * y) + 9 * (v * x) := by rw [Nat.mul_assoc, Nat.add_mul, Nat.mul_add, Nat.mul_comm y x]
  have e4 : (T' + 18) * (x * y) = T' * (x * y) + 18 * (x * y) := Nat.add_mul _ _ _
  have e5 : (x + u) * (y + v) = x * y + v * x + (u * y + u * v) := by rw [Nat.add_mul, Nat.mul_add, Nat.mul_add, Nat.mul_comm v x]
  have e6 : T' * (4 * (x * y)) = 4 * (T' * (x * y)) := Nat.mul_left_comm _ _ _
  rw [e5, e6]
  generalize T' * (x * y) = Txy at *
  generalize A' * x * y = Axy at *
  generalize B' * y * x = Byx at *
  generalize x * y = xy at *
  generalize u * y = uy at *
  generalize v * x = vx at *
  generalize u * v = uv at *
  omega
theorem two_args {l : List BX} (h : l.length = 2) : ∃ a b, l = [a, b] := len2g h
theorem one_arg {l : List BX} (h : l.length = 1) : ∃ a, l = [a] := List.length_eq_one_iff.1 h
theorem inG_two {T : BX → Nat → Nat → List Gt} {a b : BX} {f : Nat} {x y : Nat} (ha : ∀ t f, (T a t f).length ≤ x) (hb : ∀ t f, (T b t f).length ≤ y) : (inG T [a, b] f).length ≤ x + y := by
  simp only [inG]
  split
  · split
    · simp
    · have := hb f (f + 1); simp; omega
  · split
    · have := ha f (f + 1); simp; omega
    · have h1 := ha f (f + 1)
      have h2 := hb (f + 1) (f + 1 + 1)
      simp only [List.length_append, List.append_nil]; omega
theorem gT_not {D : Nat} {a : BX} {t f : Nat} : gT (D + 1) (notX a) t f = gT D a t f ++ [turnG t []] := rfl
theorem gBoth_len (T : BX → Nat → Nat → List Gt) (l : List BX) (t f : Nat) : (gBoth T l t f).length = 2 * (inG T l f).length + 1 := by
  simp [gBoth]; omega
theorem szB_pos' {vars : Int} {d : Nat} {e : BX} (h : fmB vars d e = 0) : 1 ≤ szB d e := by
  cases d with
  | zero => cases h
  | succ d => rw [szB]; omega
theorem cnt_gT {vars : Int} : ∀ (D d : Nat) (e : BX), fmB vars d e = 0 → ∃ T, (∀ t f, (gT D e t f).length ≤ T) ∧ Cnt T (szB d e) := by
  intro D
  induction D using Nat.strongRecOn with
  | ind D ih =>
  intro d e h
  obtain ⟨d, rfl⟩ : ∃ d', d = d' + 1 := by
    cases d with
    | zero => cases h
    | succ d => exact ⟨d, rfl⟩
  have hzero : Cnt 0 (szB (d + 1) e) := by
    unfold Cnt
    have := pow_le3 (szB (d + 1) e - 1)
    omega
  cases D with
  | zero => exact ⟨0, fun t f => Nat.le_refl _, hzero⟩
  | succ D =>
  obtain ⟨kn, hk, hk1, hk7, hkl, _, _, hfa⟩ := fm_right h
  have hT : ∀ t f, gT (D + 1) e t f = gK (gT D) kn e t f := fun t f => by rw [gT, hk]; rfl
  have hcase : kn = 1 ∨ kn = 2 ∨ kn = 3 ∨ kn = 4 ∨ kn = 5 ∨ kn = 6 ∨ kn = 7 := by omega
  rcases hcase with rfl | rfl | rfl | rfl | rfl | rfl | rfl
  · refine ⟨1, fun t f => by rw [hT]; exact Nat.le_refl _, ?_⟩
    have : e.args = [] := List.length_eq_zero_iff.1 hkl
    rw [szB, this]; show (1 + 8) * 2 ^ (1 - 1) ≤ 9 * 3 ^ (1 - 1); decide
  · obtain ⟨a, ha⟩ := one_arg hkl
    have hfa' := hfa a (by rw [ha]; simp)
    obtain ⟨T, h1, h2⟩ := ih D (Nat.lt_succ_self _) d a hfa'
    refine ⟨T + 1, fun t f => ?_, ?_⟩
    · rw [hT, gK, if_neg (by decide), if_neg (by decide), if_pos rfl, ha]
      have := h1 t f
      simp only [List.length_append, List.length_singleton]
      exact Nat.succ_le_succ this
    · rw [szB, ha]; simp only [List.map_cons, List.map_nil, List.sum_cons, List.sum_nil, Nat.add_zero]
      exact cnt_not h2 (szB_pos' hfa')
  · obtain ⟨a, b, ha⟩ := two_args hkl
    have hfa' := hfa a (by rw [ha]; simp)
    have hfb' := hfa b (by rw [ha]; simp)
    obtain ⟨A, h1, h2⟩ := ih D (Nat.lt_succ_self _) d a hfa'
    obtain ⟨B, h3, h4⟩ := ih D (Nat.lt_succ_self _) d b hfb'
    refine ⟨2 * (A + B) + 1, fun t f => ?_, ?_⟩
    · rw [hT, gK, if_neg (by decide), if_neg (by decide), if_neg (by decide), if_neg (by decide), if_pos rfl, gBoth_len, ha]
      have := inG_two (f := f) h1 h3
      omega
    · rw [szB, ha]; simp only [List.map_cons, List.map_nil, List.sum_cons, List.sum_nil, Nat.add_zero]
      exact cnt_two (k := 0) h2 h4 (szB_pos' hfa') (szB_pos' hfb') (by omega)
  · obtain ⟨a, b, ha⟩ := two_args hkl
    have hfa' := hfa a (by rw [ha]; simp)
    have hfb' := hfa b (by rw [ha]; simp)
    obtain ⟨A, h1, h2⟩ := ih D (Nat.lt_succ_self _) d a hfa'
    obtain ⟨B, h3, h4⟩ := ih D (Nat.lt_succ_self _) d b hfb'
    refine ⟨A + B, fun t f => ?_, ?_⟩
    · rw [hT, gK, if_neg (by decide), if_neg (by decide), if_neg (by decide), if_pos rfl, ha]
      have e1 := h1 t f
      have e2 := h3 t f
      rw [List.length_append]
      exact Nat.add_le_add e1 e2
    · rw [szB, ha]; simp only [List.map_cons, List.map_nil, List.sum_cons, List.sum_nil, Nat.add_zero]
      exact cnt_two (k := 0) h2 h4 (szB_pos' hfa') (szB_pos' hfb') (by omega)
  · obtain ⟨a, b, ha⟩ := two_args hkl
    have hfa' := hfa a (by rw [ha]; simp)
    have hfb' := hfa b (by rw [ha]; simp)
    have hnot : ∀ x, fmB vars d x = 0 → ∃ T, (∀ t f, (gT D (notX x) t f).length ≤ T + 1) ∧ Cnt T (szB d x) := fun x hx => by
      cases D with
      | zero => exact ⟨0, fun t f => by simp [gT], by
          unfold Cnt
          have := pow_le3 (szB d x - 1)
          omega⟩
      | succ D =>
        obtain ⟨T, q1, q2⟩ := ih D (by omega) d x hx
        exact ⟨T, fun t f => by rw [gT_not, List.length_append]; have := q1 t f; simp; exact this, q2⟩
    obtain ⟨A, h1, h2⟩ := hnot a hfa'
    obtain ⟨B, h3, h4⟩ := hnot b hfb'
    refine ⟨2 * (A + 1 + (B + 1)) + 2, fun t f => ?_, ?_⟩
    · rw [hT, gK, if_neg (by decide), if_neg (by decide), if_neg (by decide), if_neg (by decide), if_neg (by decide), if_pos rfl, List.length_append, gBoth_len, ha]
      have := inG_two (f := f) h1 h3
      simp only [List.map_cons, List.map_nil, List.length_singleton]
      omega
    · rw [szB, ha]; simp only [List.map_cons, List.map_nil, List.sum_cons, List.sum_nil, Nat.add_zero]
      exact cnt_two (k := 0) h2 h4 (szB_pos' hfa') (szB_pos' hfb') (by omega)
  · exact ⟨0, fun t f => by rw [hT]; exact Nat.le_refl _, hzero⟩
  · refine ⟨1, fun t f => by rw [hT]; exact Nat.le_refl _, ?_⟩
    have : e.args = [] := List.length_eq_zero_iff.1 hkl
    rw [szB, this]; show (1 + 8) * 2 ^ (1 - 1) ≤ 9 * 3 ^ (1 - 1); decide
theorem pow_table : ∀ s < 24, 9 * 3 ^ s < 200008 * 2 ^ s := by decide +kernel
theorem gT_len {vars : Int} {D d t f : Nat} {e : BX} (h : fmB vars d e = 0) (hs : szB d e ≤ 24) : (gT D e t f).length ≤ 200000 := by
  obtain ⟨T, h1, h2⟩ := cnt_gT D d e h
  have h3 := pow_table (szB d e - 1) (by have := szB_pos' h; omega)
  unfold Cnt at h2
  have h4 : T + 8 < 200008 := Nat.lt_of_mul_lt_mul_right (Nat.lt_of_le_of_lt h2 h3)
  have := h1 t f
  omega
end Go.AM

/-! ### R26 -/
namespace Go.AM
open Go.Proofs
section
variable {P : Program} {n : Nat} {ρ : Env} {m m' : Mem} {K : List Ent → Env → Mem → Prop} {ops : Array Oper} {l : List Oper} {log : List Ent}
  {d : Option Nat} {i : Nat} {op : Op} {ty t tz : TypeId} {pos : String} {af : Array Edge} {v : Value} {x y : Operand}
theorem readLdP {m : Mem} {bl o s : Nat} {rw_ : Bool} {c : Array Value} (ht : isAggT P t = some true) (hs : szOf P t = some s) (hx : evR ρ x = .pointer (some ⟨bl, o, none⟩)) (hb : Mem.get m bl = .cells rw_ c) (hc : o + s ≤ c.size) : aRead P m (evR ρ) (.load t x) = some (.agg (c.extract o (o + s))) := by
  simp only [aRead, aLoad, hx, hb, ht, hs]
  rw [if_pos hc]
theorem lStepLdP {bl o s : Nat} {rw_ : Bool} {c : Array Value} (ht : isAggT P t = some true) (hs : szOf P t = some s) (hx : evR ρ x = .pointer (some ⟨bl, o, none⟩)) (hb : Mem.get m bl = .cells rw_ c) (hc : o + s ≤ c.size)
    (hk : ∀ e : Ent, e.m = m → e.v = .agg (c.extract o (o + s)) → (∀ M r, Mem.get M bl = .cells r c → aRead P M (evR e.ρ) (.load t x) = some (.agg (c.extract o (o + s)))) → wpLog P ops K l (log ++ [e]) (updO ρ d (.agg (c.extract o (o + s)))) m) :
    wpLog P ops K (⟨d, .load t x, ty, pos, af, none⟩ :: l) log ρ m := by
  refine ⟨fun hw => ?_, fun hn => absurd trivial hn⟩
  refine wpOp_opF (v := .agg (c.extract o (o + s))) (m' := m) (opF_read rfl (readLdP ht hs hx hb hc)) ?_
  exact hk ⟨ρ, m, .agg (c.extract o (o + s))⟩ rfl rfl fun M r h1 => readLdP ht hs hx h1 hc
end
theorem BAt.all {P : Nat → Prop} {m : Mem} {d : Nat} {k x : Value} {q : Option Addr} {n cap : Nat} {e : BX} (h : BAt P m (d + 1) (.agg #[k, x, .slice q n cap]) e) (hne : e.args ≠ []) :
    ∃ b o r c, q = some ⟨b, o, some 3⟩ ∧ n = e.args.length ∧ P b ∧ Mem.get m b = .cells r c ∧ ∀ (i : Nat) (a : BX), e.args[i]? = some a → o + i * 3 + 3 ≤ c.size ∧ BAt P m d (.agg (c.extract (o + i * 3) (o + i * 3 + 3))) a := by
  obtain ⟨w, h1, h2⟩ := h
  rcases h2 with ⟨h2, _⟩ | ⟨b, o, cap, r, c, rfl, g2, g3, g4⟩
  · exact absurd h2 hne
  · simp at h1
    obtain ⟨_, _, h1, h3, h4⟩ := h1
    exact ⟨b, o, r, c, h1, h3, g2, g3, g4⟩
theorem not_at {P : Nat → Prop} {m : Mem} {d b : Nat} {a : BX} {k x w : Value} (hb : P b) (hg : Mem.get m b = .cells true #[k, x, w]) (h : BAt P m d (.agg #[k, x, w]) a) : BAt P m (d + 1) (.agg #[nv 2, nv 0, .slice (some ⟨b, 0, some 3⟩) 1 1]) (notX a) := by
  refine ⟨.slice (some ⟨b, 0, some 3⟩) 1 1, rfl, .inr ⟨b, 0, 1, true, _, rfl, hb, hg, fun i a' hi => ?_⟩⟩
  have h1 := (List.getElem?_eq_some_iff.1 hi).1
  have hi0 : i = 0 := by have : (notX a).args.length = 1 := rfl; omega
  subst hi0
  obtain rfl : a = a' := by injection hi
  exact ⟨by simp, h⟩
theorem fill66b {q q' : Option Addr} {n c n' c' : Nat} : Instr.fill (fun i => some (i * 3, 3)) (if 2 * 3 = 0 then #[] else (Array.range (2 * 3)).map ((Value.agg #[nv 0, nv 0, .slice none 0 0]).cells[· % (Value.agg #[nv 0, nv 0, .slice none 0 0]).cells.size]!)) [(0, .agg #[nv 2, nv 0, .slice q n c]), (1, .agg #[nv 2, nv 0, .slice q' n' c'])] = some #[nv 2, nv 0, .slice q n c, nv 2, nv 0, .slice q' n' c'] := by kernel_rfl
def H113r : Nat → List (Nat × Nat) := fun id => if id = 15 then [(7, 0), (9, 0)] else []
theorem okf113 : okF Tryd.prog H113r 113 90 = true := by kernel_rfl
theorem spec_to (vars : Int) (D : Nat) : ToSpec vars D := by
  induction D
  · intro P m d N bb W t f Gs bv v e hB hN h hf hn
    exfalso
    cases d with
    | zero => exact h.elim
    | succ d => have := nf_pos (vars := vars) (e := e) (show 0 < d + 1 by omega); omega
  rename_i D ih
  intro P m d N bb W t f Gs bv v e hB hN h hf hn hfr hlen
  obtain ⟨d, q, cap, rfl, rfl⟩ := h.agg
  obtain ⟨kn, hk, hk1, hk7, hkl, hv0, hv1, hfa⟩ := fm_right hf
  have hgT : gT (D + 1) e t f = gK (gT D) kn e t f := by rw [gT, hk]; rfl
  have huT : uT (D + 1) e f = uK (uT D) kn e f := by rw [uT, hk]; rfl
  rw [hgT] at hlen
  rw [hgT, huT]
  rw [hk] at h ⊢
  have hPm : ∀ b, P b → b < m.size := fun b hb => hB.lt hb
  have hbbm := live hB.1
  have hbbN := hB.2.1
  refine wpF (args := [_, _, _, _]) mixed okf113 (fn := Tryd.f113) rfl rfl rfl (by simp) ?_
  refine cSeq ?_
  refine cRegion ?_
  refine sBox (v := .agg _) rfl ?_
  change wpOps _ _ _ _ _ (m.push (.cells true #[nv kn, .int .i64 e.var, .slice q e.args.length cap]))
  have e1 : Ext m (m.push (.cells true #[nv kn, .int .i64 e.var, .slice q e.args.length cap])) := .push _ _
  have g1 : Mem.get (m.push (.cells true #[nv kn, .int .i64 e.var, .slice q e.args.length cap])) m.size = .cells true #[nv kn, .int .i64 e.var, .slice q e.args.length cap] := gP rfl
  have z1 : (m.push (.cells true #[nv kn, .int .i64 e.var, .slice q e.args.length cap])).size = m.size + 1 := by simp
  have hB1 : BldP (fun b => P b ∨ b = m.size) N bb (m.push (.cells true #[nv kn, .int .i64 e.var, .slice q e.args.length cap])) W Gs bv := hB.move e1.1 (fun b hb _ => e1.2 b hb) fun b hb => by
    rcases hb with hb | hb
    · exact ⟨by have := hPm b hb; omega, .inl hb⟩
    · exact ⟨by omega, .inr (by omega)⟩
  generalize m.push (.cells true #[nv kn, .int .i64 e.var, .slice q e.args.length cap]) = m1 at *
  have hat1 : BAt (fun b => P b ∨ b = m.size) m1 (d + 1) (.agg #[nv kn, .int .i64 e.var, .slice q e.args.length cap]) e := h.frame fun b hb hl => ⟨.inl hb, e1.2 b hl⟩
  have hfin : ∀ {m' : Mem} {W' : Nat} {Gs' : List Gt} {bv' : Value}, m1.size ≤ m'.size → (∀ b, P b ∨ b = m.size → Mem.get m' b = Mem.get m1 b) → BldP (fun b => P b ∨ b = m.size) N bb m' W' Gs' bv' → m.size ≤ m'.size ∧ (∀ b, P b → Mem.get m' b = Mem.get m b) ∧ BldP P N bb m' W' Gs' bv' := fun h1 h2 h3 =>
    ⟨by omega, fun b hb => (h2 b (.inl hb)).trans (e1.2 b (hPm b hb)), h3.move (Nat.le_refl _) (fun _ _ _ => rfl) fun b hb => ⟨by have := hPm b hb; omega, .inl (.inl hb)⟩⟩
  have hone : ∀ {m2 m3 : Mem} {W' gk : Nat} {Gs' : List Gt} {bv2 ws : Value} {w : List Nat}, BldP (fun b => P b ∨ b = m.size) N bb m2 W' Gs' bv2 → m1.size ≤ m2.size → Ext m2 m3 → OwnF (m2.size + 1) m3 ws (ofs w) → Gs'.length ≤ 200000 → ∃ r m4, ACalls Tryd.prog 75 #[.pointer (some ⟨bb, 0, none⟩), .slice (some ⟨m3.size, 0, some 4⟩) 1 1] (m3.push (.cells true #[nv gk, ws, nv 0, nv 0])) r m4 ∧ ∃ bv', BldP (fun b => P b ∨ b = m.size) N bb m4 W' (Gs' ++ [(gk, w)]) bv' ∧ m2.size ≤ m4.size ∧ (∀ b, P b ∨ b = m.size → Mem.get m4 b = Mem.get m2 b) := fun h1 h2 h3 h4 h5 => by
    obtain ⟨r, m4, k1, bv', k2, k3, k4⟩ := add_one h1 h3 (by omega) (h4.mono (Nat.le_succ _)) h5
    have hb1 := live h1.1
    exact ⟨r, m4, k1, bv', k2, by have := h3.1; omega, fun b hb => k4 b (h1.lt hb) (h1.2.2.1 b hb).2.1 (h1.2.2.1 b hb).2.2⟩
  refine sNil (kSeqN ?_)
  refine cSeq ?_
  refine cRegion ?_
  refine sFA F66_0 rfl ?_
  refine sLd (v := nv kn) A3 rfl g1 rfl ?_
  refine sNil (kSeqN ?_)
  refine cBlock ?_
  refine cSeq ?_
  refine cRegion ?_
  refine sBin (a := kn) (b := 7) rfl rfl aInt_eql ?_
  refine sAs (v := .bool _) rfl ?_
  refine sNil (kSeqN ?_)
  refine cCond (p := kn = 7) rfl (fun c0 => ?_) (fun c0 => ?_)
  · have hg : gK (gT D) kn e t f = [turnG t []] := by rw [gK, if_pos c0]
    have hu : uK (uT D) kn e f = 0 := by rw [uK, if_pos c0]
    rw [hg] at hlen
    rw [hg, hu, Nat.max_zero]
    simp only [List.length_singleton] at hlen
    refine cRegion ?_
    refine sMv (v := .pointer _) rfl ?_
    refine sMv (v := nv _) rfl ?_
    obtain ⟨v14, m14, h14, w14, rfl, o14, e14⟩ := spec_turn (m := m1) (k := t) (a := .slice none 0 0) (l := []) (.inl ⟨rfl, .inl rfl⟩) (by simp)
    obtain ⟨q14, c14, rfl⟩ := o14.ints.lenN
    refine sCall2 rfl call78 rfl rfl h14 ?_
    refine sBuildS T28 S49 Z49 (by decide) (by decide) (by decide) (by kernel_rfl) fillA4 rfl ?_
    obtain ⟨r16, m16, h16, bv16, hB16, z16, k16⟩ := hone (gk := kindM [].length) hB1 (Nat.le_refl _) e14 o14 (by omega)
    refine sCall2 rfl call75 rfl rfl h16 ?_
    refine sNil (kBlkN ?_)
    obtain ⟨q1, q2, q3⟩ := hfin z16 k16 hB16
    exact ⟨.inl rfl, _, rfl, q1, q2, bv16, q3⟩
  · refine cSeq ?_
    refine cRegion ?_
    refine sBin (a := kn) (b := 1) rfl rfl aInt_eql ?_
    refine sAs (v := .bool _) rfl ?_
    refine sNil (kSeqN ?_)
    refine cCond (p := kn = 1) rfl (fun c1 => ?_) (fun c1 => ?_)
    · have hg : gK (gT D) kn e t f = [turnG t [e.var.toNat]] := by rw [gK, if_neg c0, if_pos c1]
      have hu : uK (uT D) kn e f = 0 := by rw [uK, if_neg c0, if_pos c1]
      rw [hg] at hlen
      rw [hg, hu, Nat.max_zero]
      simp only [List.length_singleton] at hlen
      obtain ⟨w1, w2⟩ := hv1 c1
      obtain ⟨vn, hvn⟩ : ∃ vn : Nat, e.var = Int.ofNat vn := ⟨e.var.toNat, by simp; omega⟩
      rw [hvn] at g1
      rw [show e.var.toNat = vn by rw [hvn]; rfl]
      refine cRegion ?_
      refine sMv (v := .pointer _) rfl ?_
      refine sMv (v := nv _) rfl ?_
      refine sFA F66_1 rfl ?_
      refine sLd (v := nv vn) A3 rfl g1 rfl ?_
      refine sBuildS T22 S3 Z3 (by decide) (by decide) (by decide) (by kernel_rfl) fill1 rfl ?_
      obtain ⟨v14, m14, h14, w14, rfl, o14, e14⟩ := spec_turn (m := m1.push (.cells true #[nv vn])) (k := t) (l := [vn]) (show IntsAt (m1.push (.cells true #[nv vn])) (.slice (some ⟨m1.size, 0, some 1⟩) 1 1) (ofs [vn]) from one_ints) (by simp)
      obtain ⟨q14, c14, rfl⟩ := o14.ints.lenN
      refine sCall2 rfl call78 rfl rfl h14 ?_
      refine sBuildS T28 S49 Z49 (by decide) (by decide) (by decide) (by kernel_rfl) fillA4 rfl ?_
      obtain ⟨r16, m16, h16, bv16, hB16, z16, k16⟩ := hone (gk := kindM [vn].length) (hB1.ext (.push _ (.cells true #[nv vn]))) (by simp) e14 o14 (by omega)
      simp only [Array.size_push] at z16
      refine sCall2 rfl call75 rfl rfl h16 ?_
      refine sNil (kBlkN ?_)
      obtain ⟨q1, q2, q3⟩ := hfin (by omega) (fun b hb => (k16 b hb).trans (gPn (by have := hB1.lt hb; omega))) hB16
      exact ⟨.inl rfl, _, rfl, q1, q2, bv16, q3⟩
    · refine cSeq ?_
      refine cRegion ?_
      refine sBin (a := kn) (b := 2) rfl rfl aInt_eql ?_
      refine sAs (v := .bool _) rfl ?_
      refine sNil (kSeqN ?_)
      refine cCond (p := kn = 2) rfl (fun c2 => ?_) (fun c2 => ?_)
      · obtain ⟨a0, ha⟩ := one_arg (show e.args.length = 1 by rw [hkl, c2]; rfl)
        have hg : gK (gT D) kn e t f = gT D a0 t f ++ [turnG t []] := by rw [gK, if_neg c0, if_neg c1, if_pos c2, ha]; rfl
        have hu : uK (uT D) kn e f = uT D a0 f := by rw [uK, if_neg c0, if_neg c1, if_pos c2, ha]; rfl
        rw [hg] at hlen
        rw [hg, hu]
        simp only [List.length_append, List.length_singleton] at hlen
        have hm0 : a0 ∈ e.args := by rw [ha]; simp
        have hi0 : e.args[0]? = some a0 := by rw [ha]; rfl
        have hnf := nf_arg (d := d) hm0
        obtain ⟨b, o, r, c, rfl, _, hPb, hgb, hsz, hata⟩ := hat1.arg hi0
        refine cSeq ?_
        refine cRegion ?_
        refine sMv (v := .pointer _) rfl ?_
        refine sFA F66_2 rfl ?_
        refine sLd (v := .slice (some ⟨b, o, some 3⟩) e.args.length cap) A64 rfl g1 rfl ?_
        refine sIx T64 S66 rfl rfl (show 0 < e.args.length by rw [ha]; simp) ?_
        refine sLdA A66 S66 rfl hgb hsz ?_
        refine sMv (v := nv _) rfl ?_
        refine sMv (v := nv _) rfl ?_
        obtain ⟨r36, m36, h36, z36, k36, bv36, hB36⟩ := ih (t := t) (f := f) hB1 (by omega) hata (hfa a0 hm0) (by omega) (by omega) (by omega)
        refine sCall4 rfl call113 rfl rfl rfl rfl h36 ?_
        refine sNil (kSeqN ?_)
        refine cRegion ?_
        refine sMv (v := .pointer _) rfl ?_
        refine sMv (v := nv _) rfl ?_
        obtain ⟨v14, m14, h14, w14, rfl, o14, e14⟩ := spec_turn (m := m36) (k := t) (a := .slice none 0 0) (l := []) (.inl ⟨rfl, .inl rfl⟩) (by simp)
        obtain ⟨q14, c14, rfl⟩ := o14.ints.lenN
        refine sCall2 rfl call78 rfl rfl h14 ?_
        refine sBuildS T28 S49 Z49 (by decide) (by decide) (by decide) (by kernel_rfl) fillA4 rfl ?_
        obtain ⟨r16, m16, h16, bv16, hB16, z16, k16⟩ := hone (gk := kindM [].length) hB36 z36 e14 o14 (by simp only [List.length_append]; omega)
        refine sCall2 rfl call75 rfl rfl h16 ?_
        refine sNil (kBlkN ?_)
        obtain ⟨q1, q2, q3⟩ := hfin (by omega) (fun b hb => (k16 b hb).trans (k36 b hb)) hB16
        exact ⟨.inl rfl, _, rfl, q1, q2, bv16, by rw [← List.append_assoc]; exact q3⟩
      · refine cSeq ?_
        refine cRegion ?_
        refine sBin (a := kn) (b := 4) rfl rfl aInt_eql ?_
        refine sAs (v := .bool _) rfl ?_
        refine sNil (kSeqN ?_)
        refine cCond (p := kn = 4) rfl (fun c3 => ?_) (fun c3 => ?_)
        · obtain ⟨a0, a1, ha⟩ := two_args (show e.args.length = 2 by rw [hkl, c3]; rfl)
          have hg : gK (gT D) kn e t f = gT D a0 t f ++ gT D a1 t f := by rw [gK, if_neg c0, if_neg c1, if_neg c2, if_pos c3, ha]; rfl
          have hu : uK (uT D) kn e f = max (uT D a0 f) (uT D a1 f) := by rw [uK, if_neg c0, if_neg c1, if_neg c2, if_pos c3, ha]; rfl
          rw [hg] at hlen
          rw [hg, hu]
          simp only [List.length_append] at hlen
          have hm0 : a0 ∈ e.args := by rw [ha]; simp
          have hm1 : a1 ∈ e.args := by rw [ha]; simp
          have hi0 : e.args[0]? = some a0 := by rw [ha]; rfl
          have hi1 : e.args[1]? = some a1 := by rw [ha]; rfl
          have hnf := nf_arg (d := d) hm0
          have hnf1 := nf_arg (d := d) hm1
          obtain ⟨b, o, r, c, rfl, _, hPb, hgb, hall⟩ := hat1.all (by rw [ha]; simp)
          obtain ⟨hsz, hata⟩ := hall 0 a0 hi0
          obtain ⟨hsz1, hata1⟩ := hall 1 a1 hi1
          refine cSeq ?_
          refine cRegion ?_
          refine sMv (v := .pointer _) rfl ?_
          refine sFA F66_2 rfl ?_
          refine sLd (v := .slice (some ⟨b, o, some 3⟩) e.args.length cap) A64 rfl g1 rfl ?_
          refine sIx T64 S66 rfl rfl (show 0 < e.args.length by rw [ha]; simp) ?_
          refine sLdA A66 S66 rfl hgb hsz ?_
          refine sMv (v := nv _) rfl ?_
          refine sMv (v := nv _) rfl ?_
          obtain ⟨r36, m36, h36, z36, k36, bv36, hB36⟩ := ih (t := t) (f := f) hB1 (by omega) hata (hfa a0 hm0) (by omega) (by omega) (by omega)
          refine sCall4 rfl call113 rfl rfl rfl rfl h36 ?_
          refine sNil (kSeqN ?_)
          refine cRegion ?_
          refine sMv (v := .pointer _) rfl ?_
          refine sFA F66_2 rfl ?_
          refine sLd (v := .slice (some ⟨b, o, some 3⟩) e.args.length cap) A64 rfl ((k36 _ (.inr rfl)).trans g1) rfl ?_
          refine sIx T64 S66 rfl rfl (show 1 < e.args.length by rw [ha]; simp) ?_
          refine sLdA A66 S66 rfl ((k36 _ hPb).trans hgb) hsz1 ?_
          refine sMv (v := nv _) rfl ?_
          refine sMv (v := nv _) rfl ?_
          obtain ⟨r37, m37, h37, z37, k37, bv37, hB37⟩ := ih (t := t) (f := f) hB36 (by omega) (hata1.frame fun b hb _ => ⟨hb, k36 b hb⟩) (hfa a1 hm1) (by omega) (by omega) (by simp only [List.length_append]; omega)
          refine sCall4 rfl call113 rfl rfl rfl rfl h37 ?_
          refine sNil (kBlkN ?_)
          obtain ⟨q1, q2, q3⟩ := hfin (by omega) (fun b hb => (k37 b hb).trans (k36 b hb)) hB37
          exact ⟨.inl rfl, _, rfl, q1, q2, bv37, by rw [← List.append_assoc, ← Nat.max_assoc]; exact q3⟩
        · refine cSeq ?_
          refine cRegion ?_
          refine sBin (a := kn) (b := 3) rfl rfl aInt_eql ?_
          refine sAs (v := .bool _) rfl ?_
          refine sNil (kSeqN ?_)
          refine cCond (p := kn = 3) rfl (fun c4 => ?_) (fun c4 => ?_)
          · have hal : e.args.length = 2 := by rw [hkl, c4]; rfl
            have hg : gK (gT D) kn e t f = gBoth (gT D) e.args t f := by rw [gK, if_neg c0, if_neg c1, if_neg c2, if_neg c3, if_pos c4]
            have hu : uK (uT D) kn e f = inU (uT D) e.args f := by rw [uK, if_neg c0, if_neg c1, if_neg c2, if_neg c3, if_pos c4]
            rw [hg] at hlen
            rw [hg, hu]
            have hnf : ∀ a ∈ e.args, nfB d a ≤ D := fun a ha => by have := nf_arg (d := d) ha; omega
            obtain ⟨b, o, r, c, rfl, _, hPb, hgb, hall⟩ := hat1.all (by intro h; rw [h] at hal; cases hal)
            refine cRegion ?_
            refine sMv (v := .pointer _) rfl ?_
            refine sFA F66_2 rfl ?_
            refine sLd (v := .slice (some ⟨b, o, some 3⟩) e.args.length cap) A64 rfl g1 rfl ?_
            rw [hal]
            refine sMv (v := nv _) rfl ?_
            refine sMv (v := nv _) rfl ?_
            obtain ⟨r67, m67, h67, z67, k67, bv67, hB67⟩ := spec_both (cp0 := cap) ih (t := t) (f := f) hB1 (by omega) hPb hgb hall hal (fun a ha => hfa a ha) hnf (by omega) hlen
            refine sCall4 rfl call139 rfl rfl rfl rfl h67 ?_
            refine sNil (kBlkN ?_)
            obtain ⟨q1, q2, q3⟩ := hfin z67 k67 hB67
            exact ⟨.inl rfl, _, rfl, q1, q2, bv67, q3⟩
          · refine cSeq ?_
            refine cRegion ?_
            refine sBin (a := kn) (b := 5) rfl rfl aInt_eql ?_
            refine sAs (v := .bool _) rfl ?_
            refine sNil (kSeqN ?_)
            refine cCond (p := kn = 5) rfl (fun c5 => ?_) (fun c5 => ?_)
            · obtain ⟨a0, a1, ha⟩ := two_args (show e.args.length = 2 by rw [hkl, c5]; rfl)
              have hk5 : e.kind = 5 := by rw [hk, c5]; rfl
              have hg : gK (gT D) kn e t f = gBoth (gT D) [notX a0, notX a1] t f ++ [turnG t []] := by rw [gK, if_neg c0, if_neg c1, if_neg c2, if_neg c3, if_neg c4, if_pos c5, ha]; rfl
              have hu : uK (uT D) kn e f = inU (uT D) [notX a0, notX a1] f := by rw [uK, if_neg c0, if_neg c1, if_neg c2, if_neg c3, if_neg c4, if_pos c5, ha]; rfl
              rw [hg] at hlen
              rw [hg, hu]
              simp only [List.length_append, List.length_singleton] at hlen
              have hma0 : a0 ∈ e.args := by rw [ha]; simp
              have hma1 : a1 ∈ e.args := by rw [ha]; simp
              have hi0 : e.args[0]? = some a0 := by rw [ha]; rfl
              have hi1 : e.args[1]? = some a1 := by rw [ha]; rfl
              have hnf := nf_arg5 (d := d) hma0 hk5
              have hnf1 := nf_arg5 (d := d) hma1 hk5
              obtain ⟨b, o, r, c, rfl, _, hPb, hgb, hall⟩ := hat1.all (by rw [ha]; simp)
              obtain ⟨hsz, hata⟩ := hall 0 a0 hi0
              obtain ⟨hsz1, hata1⟩ := hall 1 a1 hi1
              obtain ⟨_, qa0, ca0, _, hca0⟩ := hata.agg
              obtain ⟨_, qa1, ca1, _, hca1⟩ := hata1.agg
              refine cSeq ?_
              refine cDrawH (hs := [(7, 0), (9, 0)]) rfl (by decide) ?_
              refine lStepO (sMv (v := .pointer _) rfl (sNil fun e0 hm0 => ?_))
              refine lStepO (sFA F66_2 rfl (sNil fun e1 hm1 => ?_))
              refine lStepLd (v := .slice (some ⟨b, o, some 3⟩) e.args.length cap) A64 rfl g1 rfl fun e2 hm2 hv2 hr2 => ?_
              refine lStepO (sIx T64 S66 rfl rfl (show 0 < e.args.length by rw [ha]; simp) (sNil fun e3 hm3 => ?_))
              refine lStepLdP A66 S66 rfl hgb hsz fun e4 hm4 hv4 hr4 => ?_
              obtain ⟨v75, m75, h75, rfl, g75, e75, z75⟩ := spec_not (m := m1) (k := a0.kind) (x := a0.var) (q := qa0) (n := a0.args.length) (cap := ca0)
              refine lStepO (sCall1 rfl call140 hca0 h75 (sNil fun e5 hm5 => ?_))
              refine lStepO (sFA F66_2 rfl (sNil fun e6 hm6 => ?_))
              refine lStepLd (v := .slice (some ⟨b, o, some 3⟩) e.args.length cap) A64 rfl (e75.cells g1) rfl fun e7 hm7 hv7 hr7 => ?_
              refine lStepO (sIx T64 S66 rfl rfl (show 1 < e.args.length by rw [ha]; simp) (sNil fun e8 hm8 => ?_))
              refine lStepLdP A66 S66 rfl (e75.cells hgb) hsz1 fun e9 hm9 hv9 hr9 => ?_
              obtain ⟨v80, m80, h80, rfl, g80, e80, z80⟩ := spec_not (m := m75) (k := a1.kind) (x := a1.var) (q := qa1) (n := a1.args.length) (cap := ca1)
              refine lStepO (sCall1 rfl call140 hca1 h80 (sNil fun e10 hm10 => ?_))
              refine lStepO (sBuildS T64 S66 Z66 (by decide) (by decide) (by decide) (by kernel_rfl) fill66b rfl (sNil fun e11 hm11 => ?_))
              refine lStepO (sMv (v := nv _) rfl (sNil fun e12 hm12 => ?_))
              refine lStepO (sMv (v := nv _) rfl (sNil fun e13 hm13 => ?_))
              have hX : Ext m1 (m80.push (.cells true #[nv 2, nv 0, .slice (some ⟨m1.size + 2, 0, some 3⟩) 1 1, nv 2, nv 0, .slice (some ⟨m75.size + 2, 0, some 3⟩) 1 1])) := (e75.trans e80).trans (.push _ _)
              have z80' := e80.1
              have hgA : Mem.get (m80.push (.cells true #[nv 2, nv 0, .slice (some ⟨m1.size + 2, 0, some 3⟩) 1 1, nv 2, nv 0, .slice (some ⟨m75.size + 2, 0, some 3⟩) 1 1])) (m1.size + 2) = .cells true #[.int .i64 a0.kind, .int .i64 a0.var, .slice qa0 a0.args.length ca0] := (gPn (by omega)).trans (e80.cells g75)
              have hgB : Mem.get (m80.push (.cells true #[nv 2, nv 0, .slice (some ⟨m1.size + 2, 0, some 3⟩) 1 1, nv 2, nv 0, .slice (some ⟨m75.size + 2, 0, some 3⟩) 1 1])) (m75.size + 2) = .cells true #[.int .i64 a1.kind, .int .i64 a1.var, .slice qa1 a1.args.length ca1] := (gPn (by omega)).trans g80
              have hgC : Mem.get (m80.push (.cells true #[nv 2, nv 0, .slice (some ⟨m1.size + 2, 0, some 3⟩) 1 1, nv 2, nv 0, .slice (some ⟨m75.size + 2, 0, some 3⟩) 1 1])) m80.size = .cells true #[nv 2, nv 0, .slice (some ⟨m1.size + 2, 0, some 3⟩) 1 1, nv 2, nv 0, .slice (some ⟨m75.size + 2, 0, some 3⟩) 1 1] := gP rfl
              have z81 : (m80.push (.cells true #[nv 2, nv 0, .slice (some ⟨m1.size + 2, 0, some 3⟩) 1 1, nv 2, nv 0, .slice (some ⟨m75.size + 2, 0, some 3⟩) 1 1])).size = m80.size + 1 := by simp
              generalize m80.push (.cells true #[nv 2, nv 0, .slice (some ⟨m1.size + 2, 0, some 3⟩) 1 1, nv 2, nv 0, .slice (some ⟨m75.size + 2, 0, some 3⟩) 1 1]) = m81 at *
              have hB81 : BldP (fun b => (P b ∨ b = m.size) ∨ (m1.size ≤ b ∧ b < m81.size)) N bb m81 W Gs bv := hB1.move hX.1 (fun b hb _ => hX.2 b hb) fun b hb => by
                rcases hb with hb | hb
                · exact ⟨by have := hB1.lt hb; have := hX.1; omega, .inl hb⟩
                · exact ⟨hb.2, .inr hb.1⟩
              have hat0 : BAt (fun b => (P b ∨ b = m.size) ∨ (m1.size ≤ b ∧ b < m81.size)) m81 (d + 1) (.agg #[nv 2, nv 0, .slice (some ⟨m1.size + 2, 0, some 3⟩) 1 1]) (notX a0) := not_at (.inr ⟨by omega, by omega⟩) hgA (by rw [← hca0]; exact hata.frame fun b hb hl => ⟨.inl hb, hX.2 b hl⟩)
              have hat1' : BAt (fun b => (P b ∨ b = m.size) ∨ (m1.size ≤ b ∧ b < m81.size)) m81 (d + 1) (.agg #[nv 2, nv 0, .slice (some ⟨m75.size + 2, 0, some 3⟩) 1 1]) (notX a1) := not_at (.inr ⟨by omega, by omega⟩) hgB (by rw [← hca1]; exact hata1.frame fun b hb hl => ⟨.inl hb, hX.2 b hl⟩)
              obtain ⟨r67, m67, h67, z67, k67, bv67, hB67⟩ := spec_both (cp0 := 2) (o0 := 0) ih (l := [notX a0, notX a1]) (d := d + 1) (t := t) (f := f) hB81 (by have := hX.1; omega) (.inr ⟨by omega, by omega⟩) hgC (fun i a hi => by
                have h1 := (List.getElem?_eq_some_iff.1 hi).1
                have hi' : i = 0 ∨ i = 1 := by simp at h1; omega
                rcases hi' with rfl | rfl
                · obtain rfl : notX a0 = a := by injection hi
                  exact ⟨by simp, hat0⟩
                · obtain rfl : notX a1 = a := by injection hi
                  exact ⟨by simp, hat1'⟩) rfl (fun a ha' => by
                rcases List.mem_cons.1 ha' with rfl | ha'
                · exact fm_not (hfa a0 hma0)
                · rcases List.mem_cons.1 ha' with rfl | ha'
                  · exact fm_not (hfa a1 hma1)
                  · cases ha') (fun a ha' => by
                rcases List.mem_cons.1 ha' with rfl | ha'
                · rw [nf_not]; omega
                · rcases List.mem_cons.1 ha' with rfl | ha'
                  · rw [nf_not]; omega
                  · cases ha') (by omega) (by omega)
              refine lStepO (sCall4 rfl call139 rfl rfl rfl rfl h67 (sNil fun e14 hm14 => ?_))
              refine ⟨?_, (kSeqN ?_)⟩
              · refine obl_atE (e := e7) (e' := e0) (by simp) (by rfl) (by simp) ((hr7 e0.m _ _ (by rw [hm0]; exact g1) (by rfl)).trans (congrArg some hv7.symm)) ?_
                refine obl_atE (e := e9) (e' := e0) (by simp) (by rfl) (by simp) ((hr9 e0.m _ (by rw [hm0]; exact hgb)).trans (congrArg some hv9.symm)) ?_
                trivial
              refine cRegion ?_
              refine sMv (v := .pointer _) rfl ?_
              refine sMv (v := nv _) rfl ?_
              have hB67' : BldP (fun b => P b ∨ b = m.size) N bb m67 (max W (inU (uT D) [notX a0, notX a1] f)) (Gs ++ gBoth (gT D) [notX a0, notX a1] t f) bv67 := hB67.move (Nat.le_refl _) (fun _ _ _ => rfl) fun b hb => ⟨by have := hB67.lt (.inl hb); omega, .inl (.inl hb)⟩
              obtain ⟨v14, m14, h14, w14, rfl, o14, e14⟩ := spec_turn (m := m67) (k := t) (a := .slice none 0 0) (l := []) (.inl ⟨rfl, .inl rfl⟩) (by simp)
              obtain ⟨q14, c14, rfl⟩ := o14.ints.lenN
              refine sCall2 rfl call78 rfl rfl h14 ?_
              refine sBuildS T28 S49 Z49 (by decide) (by decide) (by decide) (by kernel_rfl) fillA4 rfl ?_
              obtain ⟨r16, m16, h16, bv16, hB16, z16, k16⟩ := hone (gk := kindM [].length) hB67' (by have := hX.1; omega) e14 o14 (by simp only [List.length_append]; omega)
              refine sCall2 rfl call75 rfl rfl h16 ?_
              refine sNil (kBlkN ?_)
              obtain ⟨q1, q2, q3⟩ := hfin (by have := hX.1; omega) (fun b hb => (k16 b hb).trans ((k67 b (.inl hb)).trans (hX.2 b (hB1.lt hb)))) hB16
              exact ⟨.inl rfl, _, rfl, q1, q2, bv16, by rw [← List.append_assoc]; exact q3⟩
            · have hg : gK (gT D) kn e t f = [] := by rw [gK, if_neg c0, if_neg c1, if_neg c2, if_neg c3, if_neg c4, if_neg c5]
              have hu : uK (uT D) kn e f = 0 := by rw [uK, if_neg c0, if_neg c1, if_neg c2, if_neg c3, if_neg c4, if_neg c5]
              rw [hg, hu, Nat.max_zero, List.append_nil]
              refine cSkip (kBlkN ?_)
              obtain ⟨q1, q2, q3⟩ := hfin (Nat.le_refl _) (fun b _ => rfl) hB1
              exact ⟨.inl rfl, _, rfl, q1, q2, bv, q3⟩
end Go.AM

/-! ### R27 -/
namespace Go.AM
open Go.Proofs
def cpG0 (n d : Nat) (e : BX) : List Gt := gT (nfB d e) e n (n + 1)
def cpW0 (n d : Nat) (e : BX) : Nat := max (n + 1) (uT (nfB d e) e (n + 1))
def cpE (vars : Int) (d : Nat) (e : BX) : Nat := if goodB vars d e ≠ 0 then goodB vars d e else if 12 < cpW0 vars.toNat d e then 12 else if 120 < (cpG0 vars.toNat d e).length then 2 else 0
def cpN (vars : Int) (d : Nat) (e : BX) : Nat := if cpE vars d e = 0 then cpW0 vars.toNat d e else 0
def cpG (vars : Int) (d : Nat) (e : BX) : List Gt := if cpE vars d e = 0 then cpG0 vars.toNat d e else []
theorem sCallB3 {ρ : Env} {m m' : Mem} {K : Env → Mem → Prop} {ops : Array Oper} {l : List Oper} {d : Option Nat} {ty : TypeId} {pos : String} {af : Array Edge} {v : Value} {f x y z : Operand} {tys : Array TypeId} {g : FuncId} {a b c e : Value}
    (hv : evR ρ f = .func (.func g) #[a] #[]) (hk : callable Tryd.prog g = true) (h1 : evR ρ x = b) (h2 : evR ρ y = c) (h3 : evR ρ z = e) (h : ACalls Tryd.prog g #[a, b, c, e] m v m') (hK : wpOps Tryd.prog ops K l (updO ρ d v) m') :
    wpOps Tryd.prog ops K (⟨d, .call ⟨.value f, ⟨[x, y, z]⟩, tys⟩, ty, pos, af, none⟩ :: l) ρ m := sCall hv hk (by simpa [h1, h2, h3] using h) hK
theorem okf55 : okF Tryd.prog H0 55 42 = true := by kernel_rfl
theorem spec_Compile (vars : Int) (d : Nat) {m : Mem} {v : Value} {e : BX} (hG : GlobW m) (h : BAt (fun b => b < m.size) m d v e) (hs : szB d e ≤ 1000000) : ∃ v' m', ACalls Tryd.prog 55 #[v, .int .i64 vars] m v' m' ∧ (∃ s cs, v' = .tuple #[.agg #[nv (cpN vars d e), nv 0, s], nv (cpE vars d e)] ∧ OwnG m.size m' s cs (cpG vars d e) ∧ Ext m m') := by
  obtain ⟨d', q, cap, hd, rfl⟩ := h.agg
  refine wpF (args := [_, _]) mixed okf55 (fn := Tryd.f55) rfl rfl rfl (by simp) ?_
  refine cSeq ?_
  refine cRegion ?_
  refine sBox (v := .agg _) rfl ?_
  change wpOps _ _ _ _ _ (m.push (.cells true #[.int .i64 e.kind, .int .i64 e.var, .slice q e.args.length cap]))
  refine sAllocB (bl := m.size + 1) (by simp) Z30 (by kernel_rfl) ?_
  change wpOps _ _ _ _ _ ((m.push (.cells true #[.int .i64 e.kind, .int .i64 e.var, .slice q e.args.length cap])).push (.cells true #[nv 0, nv 0, .slice none 0 0]))
  have e1 : Ext m ((m.push (.cells true #[.int .i64 e.kind, .int .i64 e.var, .slice q e.args.length cap])).push (.cells true #[nv 0, nv 0, .slice none 0 0])) := (Ext.push _ _).trans (.push _ _)
  have g1 : Mem.get ((m.push (.cells true #[.int .i64 e.kind, .int .i64 e.var, .slice q e.args.length cap])).push (.cells true #[nv 0, nv 0, .slice none 0 0])) m.size = .cells true #[.int .i64 e.kind, .int .i64 e.var, .slice q e.args.length cap] := (gPn (by simp)).trans (gP rfl)
  have g2 : Mem.get ((m.push (.cells true #[.int .i64 e.kind, .int .i64 e.var, .slice q e.args.length cap])).push (.cells true #[nv 0, nv 0, .slice none 0 0])) (m.size + 1) = .cells true #[nv 0, nv 0, .slice none 0 0] := gP (by simp)
  have z1 : ((m.push (.cells true #[.int .i64 e.kind, .int .i64 e.var, .slice q e.args.length cap])).push (.cells true #[nv 0, nv 0, .slice none 0 0])).size = m.size + 2 := by simp
  generalize (m.push (.cells true #[.int .i64 e.kind, .int .i64 e.var, .slice q e.args.length cap])).push (.cells true #[nv 0, nv 0, .slice none 0 0]) = m1 at *
  refine sAs (v := nv 0) rfl ?_
  refine sNil (kSeqN ?_)
  refine cSeq ?_
  refine cSeq ?_
  refine cRegion ?_
  refine sLdAll A66 S66 rfl g1 rfl ?_
  refine sMv (v := .int .i64 vars) rfl ?_
  obtain ⟨v11, m11, h11, rfl, e11⟩ := spec_Good vars d (hG.ext e1) (h.ext e1) hs
  refine sCall2 rfl call57 rfl rfl h11 ?_
  have g211 := e11.cells g2
  have z11 := e11.1
  have hfail : ∀ (er : Nat) (M : Mem), cpE vars d e = er → er ≠ 0 → Ext m M → m.size + 1 < M.size → ∃ s cs, (Value.tuple #[.agg #[nv 0, nv 0, .slice none 0 0], nv er] : Value) = .tuple #[.agg #[nv (cpN vars d e), nv 0, s], nv (cpE vars d e)] ∧ OwnG m.size (M.setIfInBounds (m.size + 1) (.cells true #[nv 0, nv 0, .slice none 0 0])) s cs (cpG vars d e) ∧ Ext m (M.setIfInBounds (m.size + 1) (.cells true #[nv 0, nv 0, .slice none 0 0])) := by
    intro er M h1 h2 h3 h4
    refine ⟨.slice none 0 0, #[], ?_, ?_, h3.set (by omega) _⟩
    · rw [h1, cpN, h1, if_neg h2]
    · rw [cpG, h1, if_neg h2]; exact .nil _ _
  refine sAs (v := nv _) rfl ?_
  refine sNil (kSeqN ?_)
  refine cSeq ?_
  refine cRegion ?_
  refine sMv (v := nv _) rfl ?_
  refine sBin (a := goodB vars d e) (b := 0) rfl rfl aInt_neq ?_
  refine sNil (kSeqN ?_)
  refine cCond (p := goodB vars d e ≠ 0) rfl (fun c0 => ?_) (fun c0 => ?_)
  · refine cSeq ?_
    refine cRegion ?_
    refine sBuild B57_0 ?_
    refine sMv (v := nv _) rfl ?_
    refine sStAll S30 rfl rfl g211 rfl rfl (by kernel_rfl) ?_
    refine sAs (v := nv _) rfl ?_
    refine sNil (kSeqN ?_)
    refine cRet (kSeqR ?_)
    exact ⟨.inr rfl, _, resRs_agg2 A30 S30 rfl (gS rfl (by omega)) rfl, hfail _ m11 (by rw [cpE, if_pos c0]) c0 (e1.trans e11) (by omega)⟩
  · have hgv : ¬ (vars < 1 ∨ 8 < vars) := fun hh => c0 (by rw [goodB, if_pos hh]; decide)
    have h00 := Decidable.not_not.1 c0
    rw [goodB, if_neg hgv] at h00
    have hs24 : ¬ 24 < szB d e := fun hh => by rw [if_pos hh] at h00; cases h00
    rw [if_neg hs24] at h00
    obtain ⟨n, rfl⟩ : ∃ n : Nat, vars = Int.ofNat n := ⟨vars.toNat, by simp; omega⟩
    have hn8 : n ≤ 8 := by
      have h8 : Int.ofNat n ≤ 8 := by omega
      exact Int.ofNat_le.1 h8
    have hnf := nf_sz d e
    have hE : cpE (Int.ofNat n) d e = if 12 < cpW0 n d e then 12 else if 120 < (cpG0 n d e).length then 2 else 0 := by rw [cpE, if_neg c0]; rfl
    have hlen : (cpG0 n d e).length ≤ 200000 := gT_len h00 (by omega)
    refine cSkip (kSeqN ?_)
    refine cSeq ?_
    refine cRegion ?_
    refine sMv (v := nv _) rfl ?_
    refine sBin (a := n) (b := 1) rfl rfl (aInt_add (by omega)) ?_
    refine sBuild B57_1 ?_
    refine sBuild B96 ?_
    refine sAllocB (bl := m11.size) rfl Z96 (by kernel_rfl) ?_
    refine sStNAB rfl S96 rfl rfl rfl rfl (by kernel_rfl) ?_
    have e7 : Ext m11 (m11.push (.cells true #[nv (n + 1), nv 0, .slice none 0 0])) := .push _ _
    have hB0 : BldP (fun b => b < m11.size) (m11.size + 1) m11.size (m11.push (.cells true #[nv (n + 1), nv 0, .slice none 0 0])) (n + 1) [] (.slice none 0 0) := ⟨gP rfl, by omega, fun b hb => ⟨by simp; omega, by omega, fun e => by cases e⟩, #[], .nil _ _, fun i s hi => by simp at hi⟩
    have z7 : (m11.push (.cells true #[nv (n + 1), nv 0, .slice none 0 0])).size = m11.size + 1 := by simp
    generalize m11.push (.cells true #[nv (n + 1), nv 0, .slice none 0 0]) = m7 at *
    refine sNil (kSeqN ?_)
    refine cSeq ?_
    refine cRegion ?_
    refine sMFf rfl ?_
    refine sAs (v := .func _ _ _) rfl ?_
    refine sNil (kSeqN ?_)
    refine cSeq ?_
    refine cRegion ?_
    refine sMv (v := .func _ _ _) rfl ?_
    refine sLdAll A66 S66 rfl (e7.cells (e11.cells g1)) rfl ?_
    refine sMv (v := nv n) rfl ?_
    refine sMv (v := nv n) rfl ?_
    refine sBin (a := n) (b := 1) rfl rfl (aInt_add (by omega)) ?_
    obtain ⟨r26, m26, h26, z26, k26, bv, hB26⟩ := spec_to (Int.ofNat n) (nfB d e) (t := n) (f := n + 1) hB0 (by omega) (((h.ext e1).ext e11).frame (P' := fun b => b < m11.size) fun b hb hl => ⟨by omega, e7.2 b hl⟩) h00 (Nat.le_refl _) (by omega) (by simp only [List.length_nil, Nat.zero_add]; exact hlen)
    refine sCallB3 rfl call113 rfl rfl rfl h26 ?_
    have hx26 : Ext m m26 := ⟨by omega, fun b hb => by rw [k26 b (by omega), e7.2 b (by omega), e11.2 b (by omega)]; exact e1.2 b hb⟩
    have g226 : Mem.get m26 (m.size + 1) = .cells true #[nv 0, nv 0, .slice none 0 0] := by rw [k26 _ (by omega), e7.2 _ (by omega)]; exact g211
    rw [List.nil_append] at hB26
    obtain ⟨qb, cpb, rfl⟩ := hB26.len
    change BldP _ _ _ _ (cpW0 n d e) (cpG0 n d e) (.slice qb (cpG0 n d e).length cpb) at hB26
    refine sNil (kSeqN ?_)
    refine cSeq ?_
    refine cBlock ?_
    refine cSeq ?_
    refine cRegion ?_
    refine sFA F96_0 rfl ?_
    refine sFA F30_0 rfl ?_
    refine sLd (v := nv (cpW0 n d e)) A3 rfl hB26.1 rfl ?_
    refine sBin (a := cpW0 n d e) (b := 12) rfl rfl aInt_gtr ?_
    refine sAs (v := .bool _) rfl ?_
    refine sNil (kSeqN ?_)
    refine cCond (p := 12 < cpW0 n d e) rfl (fun c1 => ?_) (fun c1 => ?_)
    · refine cSeq ?_
      refine cRegion ?_
      refine sBuild B57_0 ?_
      refine sStAll S30 rfl rfl g226 rfl rfl (by kernel_rfl) ?_
      refine sAs (v := nv 12) rfl ?_
      refine sNil (kSeqN ?_)
      refine cRet (kBlkR (kSeqR ?_))
      exact ⟨.inr rfl, _, resRs_agg2 A30 S30 rfl (gS rfl (by omega)) rfl, hfail 12 m26 (by rw [hE, if_pos c1]) (by decide) hx26 (by omega)⟩
    · refine cSeq ?_
      refine cRegion ?_
      refine sFA F96_0 rfl ?_
      refine sFA F30_2 rfl ?_
      refine sLd (v := .slice qb (cpG0 n d e).length cpb) A28 rfl hB26.1 rfl ?_
      refine sLen T28 rfl ?_
      refine sBin (a := (cpG0 n d e).length) (b := 120) rfl rfl aInt_gtr ?_
      refine sAs (v := .bool _) rfl ?_
      refine sNil (kSeqN ?_)
      refine cCond (p := 120 < (cpG0 n d e).length) rfl (fun c2 => ?_) (fun c2 => ?_)
      · refine cSeq ?_
        refine cRegion ?_
        refine sBuild B57_0 ?_
        refine sStAll S30 rfl rfl g226 rfl rfl (by kernel_rfl) ?_
        refine sAs (v := nv 2) rfl ?_
        refine sNil (kSeqN ?_)
        refine cRet (kBlkR (kSeqR ?_))
        exact ⟨.inr rfl, _, resRs_agg2 A30 S30 rfl (gS rfl (by omega)) rfl, hfail 2 m26 (by rw [hE, if_neg c1, if_pos c2]) (by decide) hx26 (by omega)⟩
      · refine cSkip (kBlkN (kSeqN ?_))
        refine cSeq ?_
        refine cRegion ?_
        refine sFA F96_0 rfl ?_
        refine sLdAll A30 S30 rfl hB26.1 rfl ?_
        refine sStAll S30 rfl rfl g226 rfl rfl (by kernel_rfl) ?_
        refine sAs (v := nv 0) rfl ?_
        refine sNil (kSeqN ?_)
        refine cRet ?_
        have hE0 : cpE (Int.ofNat n) d e = 0 := by rw [hE, if_neg c1, if_neg c2]
        obtain ⟨_, _, _, cs, hO, _⟩ := hB26
        refine ⟨.inr rfl, _, resRs_agg2 A30 S30 rfl (gS rfl (by omega)) rfl, .slice qb (cpG0 n d e).length cpb, cs, ?_, ?_, hx26.set (by omega) _⟩
        · rw [cpN, hE0, if_pos rfl]; rfl
        · rw [cpG, hE0, if_pos rfl]
          exact (hO.only (.set (m.size + 1) m26 _) (by omega)).mono (by omega)
end Go.AM

/-! ### R28 -/
namespace Go.AM
open Go.Proofs
def firstS (n : Nat) (so : Nat → Bool) : Option Nat := (List.range (2 ^ n)).find? so
def foundN (n : Nat) (so : Nat → Bool) : Nat := (firstS n so).getD 0
def foundE (n : Nat) (so : Nat → Bool) : Nat := if (firstS n so).isSome then 0 else 6
theorem firstS_none {n : Nat} {so : Nat → Bool} (h : ∀ x, x < 2 ^ n → so x = false) : firstS n so = none := by
  unfold firstS
  rw [List.find?_eq_none]
  intro x hx
  rw [h x (List.mem_range.1 hx)]; decide
theorem firstS_some {n i : Nat} {so : Nat → Bool} (hi : i < 2 ^ n) (h : so i = true) (h0 : ∀ x, x < i → so x = false) : firstS n so = some i := by
  unfold firstS
  rw [List.find?_range_eq_some]
  exact ⟨h, List.mem_range.2 hi, fun x hx => by rw [h0 x hx]; rfl⟩
theorem spec_statesX {m : Mem} {lp p n : Nat} {J E : Nat → Mem → Prop} (hn : n ≤ 12)
    (hview : ∀ i m', J i m' → ∃ r, Mem.get m' p = .cells r #[nv n])
    (hJ : ∀ i m', i < 2 ^ n → J i m' → ∃ c m'', ARound Tryd.prog lp #[nv i] m' (.bool c) m'' ∧ (c = true ∧ J (i + 1) m'' ∨ c = false ∧ E i m''))
    (h0 : J 0 m) : ∃ v m', ACalls Tryd.prog 149 #[.func (.yield lp) #[] #[], .pointer (some ⟨p, 0, none⟩)] m v m' ∧ (J (2 ^ n) m' ∨ ∃ i, i < 2 ^ n ∧ E i m') := by
  obtain ⟨r, g1⟩ := hview 0 m h0
  have hp10 : 2 ^ n ≤ 2 ^ 12 := Nat.pow_le_pow_right (by omega) hn
  refine wpF (args := [_, _]) mixed okf149 (fn := Tryd.f149) rfl rfl rfl (by simp) ?_
  refine cSeq ?_
  refine cRegion ?_
  refine sLd (v := nv n) A3 rfl g1 rfl ?_
  refine sBin rfl rfl (aInt_shl (a := 1) (by omega)) ?_
  rw [Nat.shiftLeft_eq, Nat.one_mul]
  refine sMv (v := nv 0) rfl ?_
  refine sNil (kSeqN ?_)
  refine cBlock ?_
  refine wpC_loop (fun k' ρ m' => ∃ i, k' = 2 ^ n - i ∧ i ≤ 2 ^ n ∧ J i m' ∧ Has ρ [(0, .func (.yield lp) #[] #[]), (5, nv (2 ^ n)), (6, nv i)]) ⟨0, rfl, Nat.zero_le _, h0, rfl, rfl, rfl, trivial⟩ ?_
  clear g1
  rintro k' ρ m' ⟨i, rfl, hi, hJi, hh⟩
  rw [hh.env]; clear hh
  refine cSeq ?_
  refine cRegion ?_
  refine sBin rfl rfl (aInt_lss) ?_
  refine sNil (kSeqN ?_)
  refine cSeq ?_
  refine cCond rfl (fun c0 => ?_) (fun c0 => ?_)
  · refine cSkip (kSeqN ?_)
    refine cSeq ?_
    refine cBlock ?_
    refine cSeq ?_
    refine cRegion ?_
    refine sMv (v := nv _) rfl ?_
    refine sAs (v := nv _) rfl ?_
    refine sNil (kSeqN ?_)
    refine cSeq ?_
    refine cRegion ?_
    refine sMv (v := .func _ _ _) rfl ?_
    refine sMv (v := nv _) rfl ?_
    obtain ⟨c, m11, hR, hc⟩ := hJ i m' c0 hJi
    refine sYield1 rfl rfl hR ?_
    refine sP (v := .bool (!c)) rfl ?_
    refine sNil (kSeqN ?_)
    refine cCond (p := c = false) (by cases c <;> rfl) (fun c1 => ?_) (fun c1 => ?_)
    · refine cRet (kBlkR (kSeqR (kSeqR (kBlkR ?_))))
      rcases hc with ⟨h, _⟩ | ⟨_, h⟩
      · rw [h] at c1; cases c1
      · exact ⟨.inr rfl, _, rfl, .inr ⟨i, c0, h⟩⟩
    · refine cSkip (kBlkN (kSeqN ?_))
      refine cRegion ?_
      refine sBin rfl rfl (aInt_add (b := 1) (by omega)) ?_
      refine sMv (v := nv _) rfl ?_
      refine sNil (kSeqN ?_)
      rcases hc with ⟨_, h⟩ | ⟨h, _⟩
      · exact ⟨_, (by omega), i + 1, rfl, by omega, h, rfl, rfl, rfl, trivial⟩
      · exact absurd h c1
  · refine cExit (kSeqE (kSeqE (kBlkS ?_)))
    obtain rfl : i = 2 ^ n := by omega
    exact ⟨.inl rfl, _, rfl, .inl hJi⟩
theorem spec_foundX {m : Mem} {n fid : Nat} {c1 c2 : Value} {so : Nat → Bool} (hn : n ≤ 12) (hcall : callable Tryd.prog fid = true) (hso : ∀ x, x < 2 ^ n → ∀ m', Ext m m' → ∃ v m'', ACalls Tryd.prog fid #[nv x, c1, c2] m' v m'' ∧ (v = .bool (so x) ∧ Ext m' m'')) : ∃ v m', ACalls Tryd.prog 103 #[nv n, .func (.func fid) #[] #[c1, c2]] m v m' ∧ (v = .tuple #[nv (foundN n so), nv (foundE n so)] ∧ Ext m m') := by
  refine wpF (args := [_, _]) mixed okf103 (fn := Tryd.f103) rfl rfl rfl (by simp) ?_
  refine cSeq ?_
  refine cRegion ?_
  refine sBox (v := .func (.func fid) #[] #[c1, c2]) rfl ?_
  change wpOps _ _ _ _ _ (m.push (.cells true #[.func (.func fid) #[] #[c1, c2]]))
  refine sAllocB (bl := m.size + 1) (by simp) Z3 (by kernel_rfl) ?_
  refine sAllocB (bl := m.size + 2) (by simp) Z25 (by kernel_rfl) ?_
  change wpOps _ _ _ _ _ (((m.push (.cells true #[.func (.func fid) #[] #[c1, c2]])).push (.cells true #[nv 0])).push (.cells true #[nv 0]))
  have e1 : Ext m (((m.push (.cells true #[.func (.func fid) #[] #[c1, c2]])).push (.cells true #[nv 0])).push (.cells true #[nv 0])) := ((Ext.push _ _).trans (.push _ _)).trans (.push _ _)
  have hz : (((m.push (.cells true #[.func (.func fid) #[] #[c1, c2]])).push (.cells true #[nv 0])).push (.cells true #[nv 0])).size = m.size + 3 := by simp
  have g3 : Mem.get (((m.push (.cells true #[.func (.func fid) #[] #[c1, c2]])).push (.cells true #[nv 0])).push (.cells true #[nv 0])) m.size = .cells true #[.func (.func fid) #[] #[c1, c2]] := by rw [gPn (by simp; omega), gPn (by simp), gP rfl]
  have g4 : Mem.get (((m.push (.cells true #[.func (.func fid) #[] #[c1, c2]])).push (.cells true #[nv 0])).push (.cells true #[nv 0])) (m.size + 1) = .cells true #[nv 0] := by rw [gPn (by simp), gP (by simp)]
  have g5 : Mem.get (((m.push (.cells true #[.func (.func fid) #[] #[c1, c2]])).push (.cells true #[nv 0])).push (.cells true #[nv 0])) (m.size + 2) = .cells true #[nv 0] := gP (by simp)
  generalize ((m.push (.cells true #[.func (.func fid) #[] #[c1, c2]])).push (.cells true #[nv 0])).push (.cells true #[nv 0]) = M at *
  refine sNil (kSeqN ?_)
  refine cScope ?_
  refine cSeq ?_
  refine cLabel (kSeqN ?_)
  refine cSeq ?_
  refine cSeq ?_
  refine cRegion ?_
  refine sMv (v := nv _) rfl ?_
  obtain ⟨v8, m8, h8, rfl, rfl⟩ := spec_states (m := M) (n := n)
  refine sCall1 rfl call130 rfl h8 ?_
  have e2 : Ext M (M.push (.cells true #[nv n])) := .push _ _
  have g8 : Mem.get (M.push (.cells true #[nv n])) M.size = .cells true #[nv n] := gP rfl
  have hz2 : (M.push (.cells true #[nv n])).size = m.size + 4 := by simp [hz]
  generalize M.push (.cells true #[nv n]) = M2 at *
  refine sNil (kSeqN ?_)
  refine cBlock ?_
  refine cRangeX (by kernel_rfl) mixed (by kernel_rfl) rfl call149 ?_
  intro R B D hD hround
  have hJ : ∀ i m1, i < 2 ^ n → ((∀ x, x < i → so x = false) ∧ Low M2.size M2 m1 ∧ Mem.get m1 M2.size = .loop R) → ∃ c m3, ARound Tryd.prog M2.size #[nv i] m1 (.bool c) m3 ∧ (c = true ∧ ((∀ x, x < i + 1 → so x = false) ∧ Low M2.size M2 m3 ∧ Mem.get m3 M2.size = .loop R) ∨ c = false ∧ (so i = true ∧ (∀ x, x < i → so x = false) ∧ (∀ b, b < M2.size → b ≠ m.size + 1 → b ≠ m.size + 2 → Mem.get m3 b = Mem.get M2 b) ∧ Mem.get m3 (m.size + 1) = .cells true #[nv i] ∧ Mem.get m3 (m.size + 2) = .cells true #[nv 0] ∧ M2.size < m3.size ∧ Mem.get m3 M2.size = .loop (D .ret))) := by
    rintro i m1 hi ⟨hno, hlo, hlp⟩
    have hlt := Mem.lt_of_live (show (Mem.get m1 M2.size).live = true by rw [hlp]; rfl)
    have hgo : (∃ e m3, ARound Tryd.prog M2.size #[nv i] m1 (.bool (AExit.jump e).isNone) m3 ∧ (e = .normal ∧ ((∀ x, x < i + 1 → so x = false) ∧ Low M2.size M2 m3 ∧ Mem.get m3 M2.size = .loop R) ∨ e = .ret ∧ (so i = true ∧ (∀ x, x < i → so x = false) ∧ (∀ b, b < M2.size → b ≠ m.size + 1 → b ≠ m.size + 2 → Mem.get m3 b = Mem.get M2 b) ∧ Mem.get m3 (m.size + 1) = .cells true #[nv i] ∧ Mem.get m3 (m.size + 2) = .cells true #[nv 0] ∧ M2.size < m3.size ∧ Mem.get m3 M2.size = .loop (D .ret)))) → ∃ c m3, ARound Tryd.prog M2.size #[nv i] m1 (.bool c) m3 ∧ (c = true ∧ ((∀ x, x < i + 1 → so x = false) ∧ Low M2.size M2 m3 ∧ Mem.get m3 M2.size = .loop R) ∨ c = false ∧ (so i = true ∧ (∀ x, x < i → so x = false) ∧ (∀ b, b < M2.size → b ≠ m.size + 1 → b ≠ m.size + 2 → Mem.get m3 b = Mem.get M2 b) ∧ Mem.get m3 (m.size + 1) = .cells true #[nv i] ∧ Mem.get m3 (m.size + 2) = .cells true #[nv 0] ∧ M2.size < m3.size ∧ Mem.get m3 M2.size = .loop (D .ret))) := by
      rintro ⟨e, m3, hr, ⟨rfl, h⟩ | ⟨rfl, h⟩⟩
      · exact ⟨true, m3, hr, .inl ⟨rfl, h⟩⟩
      · exact ⟨false, m3, hr, .inr ⟨rfl, h⟩⟩
    refine hgo (hround m1 (nv i) _ hlp ?_)
    clear hgo
    have hlo2 : Low M2.size M2 (m1.setIfInBounds M2.size (.loop B)) := hlo.trans (.set (Nat.le_refl _) _)
    have E1 : Ext M2 (m1.setIfInBounds M2.size (.loop B)) := Low.to_ext (.refl _) hlo2 (Nat.le_refl _)
    have hlt2 : M2.size < (m1.setIfInBounds M2.size (.loop B)).size := by simpa using hlt
    have hBB : Mem.get (m1.setIfInBounds M2.size (.loop B)) M2.size = .loop B := gS rfl hlt
    refine cRegion ?_
    refine sAs (v := nv _) rfl ?_
    refine sNil ?_
    refine ⟨rfl, hlp, ?_⟩
    generalize m1.setIfInBounds M2.size (.loop B) = m2 at *
    refine cBlock ?_
    refine cSeq ?_
    refine cSeq ?_
    refine cRegion ?_
    refine sLd (v := .func (.func fid) #[] #[c1, c2]) A131 rfl ((e2.trans E1).cells g3) rfl ?_
    refine sMv (v := nv _) rfl ?_
    obtain ⟨v12, m12, h12, rfl, e12⟩ := hso i hi _ (e1.trans (e2.trans E1))
    refine sCall rfl hcall (by simpa [evR, updO] using h12) ?_
    have z12 := e12.1
    refine sP (v := .bool (!so i)) rfl ?_
    refine sNil (kSeqN ?_)
    refine cCond (p := so i = false) (by cases so i <;> rfl) (fun c0 => ?_) (fun c0 => ?_)
    · refine cExit (kSeqE (kBlkS ?_))
      refine ⟨(e12.2 _ hlt2).trans hBB, .inl ⟨rfl, fun x hx => ?_, (hlo2.trans_ext e12 (by omega)).trans (.set (Nat.le_refl _) _), ?_⟩⟩
      · by_cases h : x = i
        · subst h; exact c0
        · exact hno x (by omega)
      · rw [hD]; exact gS rfl (by omega)
    · have hsi : so i = true := by simpa using c0
      have g412 := e12.cells ((e2.trans E1).cells g4)
      have g512 := e12.cells ((e2.trans E1).cells g5)
      refine cSkip (kSeqN ?_)
      refine cSeq ?_
      refine cRegion ?_
      refine sMv (v := nv _) rfl ?_
      refine sSt (v := nv _) S3 rfl rfl g412 (by simp) rfl rfl ?_
      refine sSt (v := nv 0) S25 rfl rfl ((gSn (by omega)).trans g512) (by simp) rfl rfl ?_
      refine sNil (kSeqN ?_)
      refine cRet (kBlkR ?_)
      refine ⟨?_, .inr ⟨rfl, hsi, hno, fun b h1 h2 h3 => ?_, ?_, ?_, by simp; omega, gS rfl (by simp; omega)⟩⟩
      · rw [gSn (by omega), gSn (by omega), e12.2 _ hlt2]; exact hBB
      · rw [gSn (by omega), gSn (by omega), gSn (by omega), e12.2 b (by omega)]; exact E1.2 b h1
      · rw [gSn (by omega), gSn (by omega)]; exact gS rfl (live g412)
      · rw [gSn (by omega)]; exact gS rfl (by simp; exact live g512)
  obtain ⟨v2, m2, h2, hout⟩ := spec_statesX (m := M2.push (.loop R)) (lp := M2.size) (p := M.size) (n := n) (J := fun i m1 => (∀ x, x < i → so x = false) ∧ Low M2.size M2 m1 ∧ Mem.get m1 M2.size = .loop R) (E := fun i m3 => so i = true ∧ (∀ x, x < i → so x = false) ∧ (∀ b, b < M2.size → b ≠ m.size + 1 → b ≠ m.size + 2 → Mem.get m3 b = Mem.get M2 b) ∧ Mem.get m3 (m.size + 1) = .cells true #[nv i] ∧ Mem.get m3 (m.size + 2) = .cells true #[nv 0] ∧ M2.size < m3.size ∧ Mem.get m3 M2.size = .loop (D .ret)) hn (fun i m' h => ⟨true, (Low.to_ext (.refl _) h.2.1 (Nat.le_refl _)).cells g8⟩) hJ ⟨fun x hx => by omega, .push _ (Nat.le_refl _) _, gP rfl⟩
  rcases hout with ⟨hno, hlo, hlp⟩ | ⟨i, hi, hsi, hno, k1, k2, k3, k4, k5⟩
  rotate_left
  · refine ⟨v2, m2, .ret, h2, k5, (kBlkR (kSeqR ?_))⟩
    refine ⟨.inr rfl, _, resRs_cell2 A3 rfl (by rw [gSn (by omega)]; exact k2) rfl A25 rfl ((gSn (by omega)).trans k3) rfl, ?_, ⟨by simp; omega, fun b hb => ?_⟩⟩
    · rw [foundN, foundE, firstS_some hi hsi hno]; rfl
    · rw [gSn (by omega), k1 b (by omega) (by omega) (by omega), e2.2 b (by omega)]; exact e1.2 b hb
  have E2 : Ext M2 (m2.setIfInBounds M2.size .dead) := Low.to_ext (.refl _) (hlo.trans (.set (Nat.le_refl _) _)) (Nat.le_refl _)
  replace g4 := (e2.trans E2).cells g4
  replace g5 := (e2.trans E2).cells g5
  refine ⟨v2, m2, .normal, h2, (by rw [hD]; exact hlp), (kBlkN (kSeqN ?_))⟩
  refine cSeq ?_
  refine cRegion ?_
  refine sSt (v := nv 0) S3 rfl rfl g4 (by simp) rfl rfl ?_
  refine sSt (v := nv 6) S25 rfl rfl (by rw [gSn (by omega)]; exact g5) (by simp) rfl rfl ?_
  refine sNil (kSeqN ?_)
  refine cRet ?_
  have hz2' := E2.1
  refine ⟨.inr rfl, _, resRs_cell2 A3 rfl (by rw [gSn (by omega)]; exact gS rfl (live g4)) rfl A25 rfl (gS rfl (by simp; have := live g5; simpa using this)) rfl, ?_, ?_⟩
  · rw [foundN, foundE, firstS_none hno]; rfl
  · have e9 : Ext m (m2.setIfInBounds M2.size .dead) := e1.trans (e2.trans E2)
    exact (e9.set (b := m.size + 1) (by omega) _).set (b := m.size + 2) (by omega) _
end Go.AM

/-! ### R29 -/
namespace Go.AM
open Go.Proofs
def cleanS (Gs : List (Nat × List Nat)) (mk x : Nat) : Bool := decide (x &&& mk = 0) && decide (runM Gs x &&& mk ≠ 0)
def borrS (Gs : List (Nat × List Nat)) (mk x : Nat) : Bool := decide ((runM Gs x ^^^ x) &&& mk ≠ 0) || decide (offM (runM Gs x ^^^ runM Gs (offM x mk)) mk ≠ 0)
theorem spec_Clean1X {m : Mem} {N n x p1 p2 mk : Nat} {r1 r2 : Bool} {s : Value} {cs : Array Value} {Gs : List (Nat × List Nat)} (hC : GlobC m) (hG : OwnG N m s cs Gs) (hc : CircOk n Gs) (hx : x < 2 ^ n) (g1 : Mem.get m p1 = .cells r1 #[nv mk]) (g2 : Mem.get m p2 = .cells r2 #[nv n, nv 0, s]) (hmk : mk < 2 ^ 12) : ∃ v m', ACalls Tryd.prog 104 #[nv x, .pointer (some ⟨p1, 0, none⟩), .pointer (some ⟨p2, 0, none⟩)] m v m' ∧ (v = .bool (cleanS Gs mk x) ∧ Ext m m') := by
  obtain ⟨q, cap, rfl⟩ := hG.1.len
  have h10 := hc.ten
  have hp10 : 2 ^ n ≤ 2 ^ 12 := Nat.pow_le_pow_right (by omega) h10
  have hrl := runM_lt hx hc.all
  refine wpF (args := [_, _, _]) mixed okf104 (fn := Tryd.f104) rfl rfl rfl (by simp) ?_
  refine cSeq ?_
  refine cRegion ?_
  refine sAs (v := .bool _) rfl ?_
  refine sNil (kSeqN ?_)
  refine cSeq ?_
  refine cDrawH (hs := [(1, 8), (5, 8), (8, 0)]) rfl (by decide) ?_
  refine lStepO (sMv (v := nv _) rfl (sNil fun e0 hm0 => ?_))
  refine lStepLd (v := nv mk) A3 rfl g1 rfl fun e1 hm1 hv1 hr1 => ?_
  refine lStepO (sBin (a := x) (b := mk) rfl rfl (aInt_and ⟨by omega, by omega⟩) (sNil fun e2 hm2 => ?_))
  refine lStepO (sBin (v := .bool (decide (x &&& mk = 0))) (b := 0) rfl rfl aInt_eql (sNil fun e3 hm3 => ?_))
  refine lStepO (sMv (v := .bool _) rfl (sNil fun e4 hm4 => ?_))
  by_cases h1 : x &&& mk = 0
  · rw [decide_eq_true h1]
    refine lG rfl rfl ?_
    refine lStepLdA A30 S30 rfl g2 rfl fun e5 hm5 hv5 hr5 => ?_
    refine lG rfl rfl ?_
    refine lStepO (sMv (v := nv _) rfl (sNil fun e6 hm6 => ?_))
    refine lG rfl rfl ?_
    obtain ⟨v12, m12, h12, rfl, ex12⟩ := spec_run hC hG hc hx
    refine lStepO (sCall2 rfl call97 rfl rfl h12 (sNil fun e7 hm7 => ?_))
    refine lG rfl rfl ?_
    refine lStepLd (v := nv mk) A3 rfl (ex12.cells g1) rfl fun e8 hm8 hv8 hr8 => ?_
    refine lG rfl rfl ?_
    refine lStepO (sBin (a := runM Gs x) (b := mk) rfl rfl (aInt_and ⟨by omega, by omega⟩) (sNil fun e9 hm9 => ?_))
    refine lG rfl rfl ?_
    refine lStepO (sBin (a := runM Gs x &&& mk) (b := 0) rfl rfl aInt_neq (sNil fun e10 hm10 => ?_))
    refine lStepO (sP (v := .bool _) rfl (sNil fun e11 hm11 => ?_))
    refine lStepO (sAs (v := .bool _) rfl (sNil fun e12 hm12 => ?_))
    refine ⟨?_, (kSeqN ?_)⟩
    · refine obl_atE (e := e1) (e' := e8) (by simp) (by rfl) (by simp) ((hr1 e8.m _ _ (by rw [hm8]; exact ex12.cells g1) (by rfl)).trans (congrArg some hv1.symm)) ?_
      refine obl_atE (e := e5) (e' := e8) (by simp) (by rfl) (by simp) ((hr5 e8.m _ (by rw [hm8]; exact ex12.cells g2)).trans (congrArg some hv5.symm)) ?_
      refine obl_atE (e := e8) (e' := e0) (by simp) (by rfl) (by simp) ((hr8 e0.m _ _ (by rw [hm0]; exact g1) (by rfl)).trans (congrArg some hv8.symm)) ?_
      trivial
    refine cRet ?_
    exact ⟨.inr rfl, _, rfl, by rw [cleanS, decide_eq_true h1]; rfl, ex12⟩
  · rw [decide_eq_false h1]
    refine lGno (q' := false) rfl rfl (by simp) fun e5 hm5 hq5 => ?_
    refine lGno (q' := false) rfl rfl (by simp) fun e6 hm6 hq6 => ?_
    refine lGno (q' := false) rfl rfl (by simp) fun e7 hm7 hq7 => ?_
    refine lGno (q' := false) rfl rfl (by simp) fun e8 hm8 hq8 => ?_
    refine lGno (q' := false) rfl rfl (by simp) fun e9 hm9 hq9 => ?_
    refine lGno (q' := false) rfl rfl (by simp) fun e10 hm10 hq10 => ?_
    refine lStepO (sP (v := .bool _) rfl (sNil fun e11 hm11 => ?_))
    refine lStepO (sAs (v := .bool _) rfl (sNil fun e12 hm12 => ?_))
    refine ⟨?_, (kSeqN ?_)⟩
    · refine obl_atE (e := e1) (e' := e8) (by simp) (by rfl) (by simp) ((hr1 e8.m _ _ (by rw [hm8]; exact g1) (by rfl)).trans (congrArg some hv1.symm)) ?_
      refine obl_no (e := e5) (by simp) (by rfl) rfl rfl hq5 (by simp) ?_
      refine obl_no (e := e8) (by simp) (by rfl) rfl rfl hq8 (by simp) ?_
      trivial
    refine cRet ?_
    exact ⟨.inr rfl, _, rfl, by rw [cleanS, decide_eq_false h1]; rfl, .refl _⟩
def H106r : Nat → List (Nat × Nat) := fun id => if id = 2 then [(3, 13), (8, 13), (10, 13), (14, 0)] else []
theorem okf106 : okF Tryd.prog H106r 106 27 = true := by kernel_rfl
theorem spec_Borr1 {m : Mem} {N n x p1 p2 mk : Nat} {r1 r2 : Bool} {s : Value} {cs : Array Value} {Gs : List (Nat × List Nat)} (hC : GlobC m) (hG : OwnG N m s cs Gs) (hc : CircOk n Gs) (hx : x < 2 ^ n) (g1 : Mem.get m p2 = .cells r1 #[nv mk]) (g2 : Mem.get m p1 = .cells r2 #[nv n, nv 0, s]) (hmk : mk < 2 ^ 12) : ∃ v m', ACalls Tryd.prog 106 #[nv x, .pointer (some ⟨p1, 0, none⟩), .pointer (some ⟨p2, 0, none⟩)] m v m' ∧ (v = .bool (borrS Gs mk x) ∧ Ext m m') := by
  obtain ⟨q, cap, rfl⟩ := hG.1.len
  have h10 := hc.ten
  have hp10 : 2 ^ n ≤ 2 ^ 12 := Nat.pow_le_pow_right (by omega) h10
  have hrl := runM_lt hx hc.all
  have hxl : runM Gs x ^^^ x < 2 ^ 12 := Nat.xor_lt_two_pow (by omega) (by omega)
  have hofl := offM_le x mk
  have hrl2 := runM_lt (x := offM x mk) (n := n) (Gs := Gs) (by omega) hc.all
  have hxl2 : runM Gs x ^^^ runM Gs (offM x mk) < 2 ^ 12 := Nat.xor_lt_two_pow (by omega) (by omega)
  refine wpF (args := [_, _, _]) mixed okf106 (fn := Tryd.f106) rfl rfl rfl (by simp) ?_
  refine cSeq ?_
  refine cRegion ?_
  refine sAs (v := .bool _) rfl ?_
  refine sNil (kSeqN ?_)
  refine cSeq ?_
  refine cRegion ?_
  refine sLdAll A30 S30 rfl g2 rfl ?_
  refine sMv (v := nv _) rfl ?_
  obtain ⟨v8, m8, h8, rfl, ex8⟩ := spec_run hC hG hc hx
  refine sCall2 rfl call97 rfl rfl h8 ?_
  have g1' := ex8.cells g1
  have g2' := ex8.cells g2
  refine sAs (v := nv _) rfl ?_
  refine sNil (kSeqN ?_)
  refine cSeq ?_
  refine cDrawH (hs := [(3, 13), (8, 13), (10, 13), (14, 0)]) rfl (by decide) ?_
  refine lStepO (sMv (v := nv _) rfl (sNil fun e0 hm0 => ?_))
  refine lStepO (sMv (v := nv _) rfl (sNil fun e1 hm1 => ?_))
  refine lStepO (sBin (a := runM Gs x) (b := x) rfl rfl (aInt_xor ⟨by omega, by omega⟩) (sNil fun e2 hm2 => ?_))
  refine lStepLd (v := nv mk) A3 rfl g1' rfl fun e3 hm3 hv3 hr3 => ?_
  refine lStepO (sBin (a := runM Gs x ^^^ x) (b := mk) rfl rfl (aInt_and ⟨by omega, by omega⟩) (sNil fun e4 hm4 => ?_))
  refine lStepO (sBin (a := (runM Gs x ^^^ x) &&& mk) (b := 0) rfl rfl aInt_neq (sNil fun e5 hm5 => ?_))
  refine lStepO (sMv (v := .bool _) rfl (sNil fun e6 hm6 => ?_))
  by_cases h1 : (runM Gs x ^^^ x) &&& mk ≠ 0
  · rw [decide_eq_true h1]
    refine lGno (q' := true) rfl rfl (by simp) fun e7 hm7 hq7 => ?_
    refine lGno (q' := true) rfl rfl (by simp) fun e8 hm8 hq8 => ?_
    refine lGno (q' := true) rfl rfl (by simp) fun e9 hm9 hq9 => ?_
    refine lGno (q' := true) rfl rfl (by simp) fun e10 hm10 hq10 => ?_
    refine lGno (q' := true) rfl rfl (by simp) fun e11 hm11 hq11 => ?_
    refine lGno (q' := true) rfl rfl (by simp) fun e12 hm12 hq12 => ?_
    refine lGno (q' := true) rfl rfl (by simp) fun e13 hm13 hq13 => ?_
    refine lGno (q' := true) rfl rfl (by simp) fun e14 hm14 hq14 => ?_
    refine lGno (q' := true) rfl rfl (by simp) fun e15 hm15 hq15 => ?_
    refine lGno (q' := true) rfl rfl (by simp) fun e16 hm16 hq16 => ?_
    refine lStepO (sP (v := .bool _) rfl (sNil fun e17 hm17 => ?_))
    refine lStepO (sAs (v := .bool _) rfl (sNil fun e18 hm18 => ?_))
    refine ⟨?_, (kSeqN ?_)⟩
    · refine obl_atE (e := e3) (e' := e13) (by simp) (by rfl) (by simp) ((hr3 e13.m _ _ (by rw [hm13]; exact g1') (by rfl)).trans (congrArg some hv3.symm)) ?_
      refine obl_no (e := e8) (by simp) (by rfl) rfl rfl hq8 (by simp) ?_
      refine obl_no (e := e10) (by simp) (by rfl) rfl rfl hq10 (by simp) ?_
      refine obl_no (e := e14) (by simp) (by rfl) rfl rfl hq14 (by simp) ?_
      trivial
    refine cRet ?_
    exact ⟨.inr rfl, _, rfl, by rw [borrS, decide_eq_true h1]; rfl, ex8⟩
  · rw [decide_eq_false h1]
    refine lG rfl rfl ?_
    refine lStepO (sMv (v := nv _) rfl (sNil fun e7 hm7 => ?_))
    refine lG rfl rfl ?_
    refine lStepLdA A30 S30 rfl g2' rfl fun e8 hm8 hv8 hr8 => ?_
    refine lG rfl rfl ?_
    refine lStepO (sMv (v := nv _) rfl (sNil fun e9 hm9 => ?_))
    refine lG rfl rfl ?_
    refine lStepLd (v := nv mk) A3 rfl g1' rfl fun e10 hm10 hv10 hr10 => ?_
    refine lG rfl rfl ?_
    refine lStepO (sBin (a := x) (b := mk) rfl rfl (aInt_andNot ⟨by omega, by omega⟩) (sNil fun e11 hm11 => ?_))
    refine lG rfl rfl ?_
    obtain ⟨v12, m12, h12, rfl, ex12⟩ := spec_run (hC.ext ex8) (hG.ext ex8) hc (x := offM x mk) (by omega)
    refine lStepO (sCall2 rfl call97 rfl rfl h12 (sNil fun e12 hm12 => ?_))
    refine lG rfl rfl ?_
    refine lStepO (sBin (a := runM Gs x) (b := runM Gs (offM x mk)) rfl rfl (aInt_xor ⟨by omega, by omega⟩) (sNil fun e13 hm13 => ?_))
    refine lG rfl rfl ?_
    refine lStepLd (v := nv mk) A3 rfl (ex12.cells g1') rfl fun e14 hm14 hv14 hr14 => ?_
    refine lG rfl rfl ?_
    refine lStepO (sBin (a := runM Gs x ^^^ runM Gs (offM x mk)) (b := mk) rfl rfl (aInt_andNot ⟨by omega, by omega⟩) (sNil fun e15 hm15 => ?_))
    refine lG rfl rfl ?_
    refine lStepO (sBin (a := offM (runM Gs x ^^^ runM Gs (offM x mk)) mk) (b := 0) rfl rfl aInt_neq (sNil fun e16 hm16 => ?_))
    refine lStepO (sP (v := .bool _) rfl (sNil fun e17 hm17 => ?_))
    refine lStepO (sAs (v := .bool _) rfl (sNil fun e18 hm18 => ?_))
    refine ⟨?_, (kSeqN ?_)⟩
    · refine obl_atE (e := e3) (e' := e13) (by simp) (by rfl) (by simp) ((hr3 e13.m _ _ (by rw [hm13]; exact ex12.cells g1') (by rfl)).trans (congrArg some hv3.symm)) ?_
      refine obl_atE (e := e8) (e' := e13) (by simp) (by rfl) (by simp) ((hr8 e13.m _ (by rw [hm13]; exact ex12.cells g2')).trans (congrArg some hv8.symm)) ?_
      refine obl_atE (e := e10) (e' := e13) (by simp) (by rfl) (by simp) ((hr10 e13.m _ _ (by rw [hm13]; exact ex12.cells g1') (by rfl)).trans (congrArg some hv10.symm)) ?_
      refine obl_atE (e := e14) (e' := e0) (by simp) (by rfl) (by simp) ((hr14 e0.m _ _ (by rw [hm0]; exact g1') (by rfl)).trans (congrArg some hv14.symm)) ?_
      trivial
    refine cRet ?_
    exact ⟨.inr rfl, _, rfl, by rw [borrS, decide_eq_false h1]; rfl, ex8.trans ex12⟩
theorem spec_CleanX {m : Mem} {N n : Nat} {s a : Value} {cs : Array Value} {Gs : List (Nat × List Nat)} {l : List Nat} (hC : GlobC m) (hG : OwnG N m s cs Gs) (hc : CircOk n Gs) (ha : IntsAt m a (ofs l)) (hlt : ∀ y ∈ l, y < n) (hnd : l.Nodup) : ∃ v m', ACalls Tryd.prog 46 #[.agg #[nv n, nv 0, s], a] m v m' ∧ (v = .tuple #[nv (foundN n (cleanS Gs (posM l))), nv (foundE n (cleanS Gs (posM l)))] ∧ Ext m m') := by
  obtain ⟨q, cap, rfl⟩ := hG.1.len
  obtain ⟨qa, ca, rfl⟩ := ha.lenN
  have h10 := hc.ten
  have hpl : posM l < 2 ^ 12 := posM_lt fun y hy => by have := hlt y hy; omega
  refine wpF (args := [_, _]) mixed okf46 (fn := Tryd.f46) rfl rfl rfl (by simp) ?_
  refine cSeq ?_
  refine cRegion ?_
  refine sBox (v := .agg _) rfl ?_
  change wpOps _ _ _ _ _ (m.push (.cells true #[nv n, nv 0, .slice q Gs.length cap]))
  have e1 : Ext m (m.push (.cells true #[nv n, nv 0, .slice q Gs.length cap])) := .push _ _
  have g1 : Mem.get (m.push (.cells true #[nv n, nv 0, .slice q Gs.length cap])) m.size = .cells true #[nv n, nv 0, .slice q Gs.length cap] := gP rfl
  refine sAs (v := nv 0) rfl ?_
  refine sAs (v := nv 0) rfl ?_
  refine sNil (kSeqN ?_)
  refine cSeq ?_
  refine cRegion ?_
  refine sLdAll A30 S30 rfl g1 rfl ?_
  refine sMv (v := .slice _ _ _) rfl ?_
  obtain ⟨v11, m11, h11, rfl, e11⟩ := spec_mask (hC.ext e1) (hG.ext e1) hc (ha.ext e1) hlt hnd
  refine sCall2 rfl call102 rfl rfl h11 ?_
  replace g1 := e11.cells g1
  replace e1 := e1.trans e11
  refine sMv (v := .tuple _) rfl ?_
  refine sP (v := nv _) rfl ?_
  refine sP (v := nv _) rfl ?_
  refine sAlloc Z3 (by kernel_rfl) ?_
  refine sStN (v := nv (posM l)) S3 rfl rfl rfl rfl rfl ?_
  have e2 : Ext m11 (m11.push (.cells true #[nv (posM l)])) := .push _ _
  have g2 : Mem.get (m11.push (.cells true #[nv (posM l)])) m11.size = .cells true #[nv (posM l)] := gP rfl
  replace g1 := e2.cells g1
  replace e1 := e1.trans e2
  refine sAs (v := nv _) rfl ?_
  refine sNil (kSeqN ?_)
  refine cSeq ?_
  refine cSeq ?_
  refine cRegion ?_
  refine sMv (v := nv _) rfl ?_
  refine sBin (v := .bool false) (a := 0) (b := 0) rfl rfl (neqF rfl) ?_
  refine sNil (kSeqN ?_)
  refine cCondF rfl ?_
  refine cSkip (kSeqN ?_)
  refine cSeq ?_
  refine cRegion ?_
  refine sFA F30_0 rfl ?_
  refine sLd (v := nv n) A3 rfl g1 rfl ?_
  refine sMFc2 rfl rfl ?_
  obtain ⟨v20, m20, h20, rfl, e20⟩ := spec_foundX (m := m11.push (.cells true #[nv (posM l)])) (fid := 104) (so := cleanS Gs (posM l)) (c1 := .pointer (some ⟨m11.size, 0, none⟩)) (c2 := .pointer (some ⟨m.size, 0, none⟩)) h10 call104 fun x hx m' he => spec_Clean1X ((hC.ext e1).ext he) ((hG.ext e1).ext he) hc hx (he.cells g2) (he.cells g1) hpl
  refine sCall2 rfl call103 rfl rfl h20 ?_
  refine sP (v := nv _) rfl ?_
  refine sP (v := nv _) rfl ?_
  refine sAs (v := nv _) rfl ?_
  refine sAs (v := nv _) rfl ?_
  refine sNil (kSeqN ?_)
  refine cRet ?_
  exact ⟨.inr rfl, _, rfl, rfl, e1.trans e20⟩
theorem okf48 : okF Tryd.prog H0 48 23 = true := by kernel_rfl
theorem spec_BorrX {m : Mem} {N n : Nat} {s a : Value} {cs : Array Value} {Gs : List (Nat × List Nat)} {l : List Nat} (hC : GlobC m) (hG : OwnG N m s cs Gs) (hc : CircOk n Gs) (ha : IntsAt m a (ofs l)) (hlt : ∀ y ∈ l, y < n) (hnd : l.Nodup) : ∃ v m', ACalls Tryd.prog 48 #[.agg #[nv n, nv 0, s], a] m v m' ∧ (v = .tuple #[nv (foundN n (borrS Gs (posM l))), nv (foundE n (borrS Gs (posM l)))] ∧ Ext m m') := by
  obtain ⟨q, cap, rfl⟩ := hG.1.len
  obtain ⟨qa, ca, rfl⟩ := ha.lenN
  have h10 := hc.ten
  have hpl : posM l < 2 ^ 12 := posM_lt fun y hy => by have := hlt y hy; omega
  refine wpF (args := [_, _]) mixed okf48 (fn := Tryd.f48) rfl rfl rfl (by simp) ?_
  refine cSeq ?_
  refine cRegion ?_
  refine sBox (v := .agg _) rfl ?_
  change wpOps _ _ _ _ _ (m.push (.cells true #[nv n, nv 0, .slice q Gs.length cap]))
  have e1 : Ext m (m.push (.cells true #[nv n, nv 0, .slice q Gs.length cap])) := .push _ _
  have g1 : Mem.get (m.push (.cells true #[nv n, nv 0, .slice q Gs.length cap])) m.size = .cells true #[nv n, nv 0, .slice q Gs.length cap] := gP rfl
  refine sAs (v := nv 0) rfl ?_
  refine sAs (v := nv 0) rfl ?_
  refine sNil (kSeqN ?_)
  refine cSeq ?_
  refine cRegion ?_
  refine sLdAll A30 S30 rfl g1 rfl ?_
  refine sMv (v := .slice _ _ _) rfl ?_
  obtain ⟨v11, m11, h11, rfl, e11⟩ := spec_mask (hC.ext e1) (hG.ext e1) hc (ha.ext e1) hlt hnd
  refine sCall2 rfl call102 rfl rfl h11 ?_
  replace g1 := e11.cells g1
  replace e1 := e1.trans e11
  refine sMv (v := .tuple _) rfl ?_
  refine sP (v := nv _) rfl ?_
  refine sP (v := nv _) rfl ?_
  refine sAlloc Z3 (by kernel_rfl) ?_
  refine sStN (v := nv (posM l)) S3 rfl rfl rfl rfl rfl ?_
  have e2 : Ext m11 (m11.push (.cells true #[nv (posM l)])) := .push _ _
  have g2 : Mem.get (m11.push (.cells true #[nv (posM l)])) m11.size = .cells true #[nv (posM l)] := gP rfl
  replace g1 := e2.cells g1
  replace e1 := e1.trans e2
  refine sAs (v := nv _) rfl ?_
  refine sNil (kSeqN ?_)
  refine cSeq ?_
  refine cSeq ?_
  refine cRegion ?_
  refine sMv (v := nv _) rfl ?_
  refine sBin (v := .bool false) (a := 0) (b := 0) rfl rfl (neqF rfl) ?_
  refine sNil (kSeqN ?_)
  refine cCondF rfl ?_
  refine cSkip (kSeqN ?_)
  refine cSeq ?_
  refine cRegion ?_
  refine sFA F30_0 rfl ?_
  refine sLd (v := nv n) A3 rfl g1 rfl ?_
  refine sMFc2 rfl rfl ?_
  obtain ⟨v20, m20, h20, rfl, e20⟩ := spec_foundX (m := m11.push (.cells true #[nv (posM l)])) (fid := 106) (so := borrS Gs (posM l)) (c1 := .pointer (some ⟨m.size, 0, none⟩)) (c2 := .pointer (some ⟨m11.size, 0, none⟩)) h10 call106 fun x hx m' he => spec_Borr1 ((hC.ext e1).ext he) ((hG.ext e1).ext he) hc hx (he.cells g2) (he.cells g1) hpl
  refine sCall2 rfl call103 rfl rfl h20 ?_
  refine sP (v := nv _) rfl ?_
  refine sP (v := nv _) rfl ?_
  refine sAs (v := nv _) rfl ?_
  refine sAs (v := nv _) rfl ?_
  refine sNil (kSeqN ?_)
  refine cRet ?_
  exact ⟨.inr rfl, _, rfl, rfl, e1.trans e20⟩
end Go.AM

/-! ### R30 -/
namespace Go.AM
open Go.Proofs
theorem sRow {ρ : Env} {m : Mem} {K : Env → Mem → Prop} {ops : Array Oper} {l : List Oper} {d : Option Nat} {ty : TypeId} {pos : String} {af : Array Edge} {len : Nat} {ps : Array (Nat × Operand)} (r : List Nat) (hlen : len = r.length) (h1 : len * 1 ≤ 16777216)
    (hf : Instr.fill (fun i => some (i * 1, 1)) (if len * 1 = 0 then #[] else (Array.range (len * 1)).map ((nv 0).cells[· % (nv 0).cells.size]!)) (ps.toList.map fun p => (p.1, evR ρ p.2)) = some (cellsN r))
    (hk : ∀ q m', OwnF 0 m' (.slice q r.length r.length) (ofs r) → Ext m m' → wpOps Tryd.prog ops K l (updO ρ d (.slice q r.length r.length)) m') : wpOps Tryd.prog ops K (⟨d, .buildSlice 22 len ps, ty, pos, af, none⟩ :: l) ρ m := by
  subst hlen
  refine sBuildS T22 S3 Z3 (by decide) h1 (by decide) (by kernel_rfl) hf (by simp) ?_
  refine hk (some ⟨m.size, 0, some 1⟩) _ ?_ (.push _ _)
  have := OwnF.ofCells (N := 0) (m := m.push (.cells true (cellsN r))) (b := m.size) (l := r) (r := []) (Nat.zero_le _) (by rw [List.append_nil]; exact gP rfl)
  rw [List.append_nil] at this
  exact this
def quadsC (l : List (Nat × Value × List Nat)) : Array Value := (l.flatMap fun t => [nv t.1, t.2.1, nv 0, nv 0]).toArray
theorem quads_len (l : List (Nat × Value × List Nat)) : (l.flatMap fun t => [nv t.1, t.2.1, nv 0, nv 0]).length = l.length * 4 := by
  induction l with
  | nil => rfl
  | cons t l ih => rw [List.flatMap_cons, List.length_append, ih, List.length_cons]; simp; omega
theorem quadsC_size (l : List (Nat × Value × List Nat)) : (quadsC l).size = l.length * 4 := by unfold quadsC; rw [List.size_toArray, quads_len]
theorem CircOk.of {n : Nat} {Gs : List (Nat × List Nat)} (h : 1 ≤ n ∧ n ≤ 12 ∧ Gs.length ≤ 120 ∧ ∀ g ∈ Gs, ((g.1 = 1 ∧ g.2.length = 1) ∨ (g.1 = 9 ∧ g.2.length = 2) ∨ (g.1 = 12 ∧ g.2.length = 3)) ∧ (∀ w ∈ g.2, w < n) ∧ g.2.Nodup) : CircOk n Gs :=
  ⟨h.1, h.2.1, h.2.2.1, fun g hg => ⟨(h.2.2.2 g hg).1, (h.2.2.2 g hg).2.1, (h.2.2.2 g hg).2.2⟩⟩
theorem quads_get : ∀ (l : List (Nat × Value × List Nat)) (i : Nat) (t : Nat × Value × List Nat), l[i]? = some t → ∀ j, j < 4 → (l.flatMap fun t => [nv t.1, t.2.1, nv 0, nv 0])[i * 4 + j]? = [nv t.1, t.2.1, nv 0, nv 0][j]?
  | [], i, t, h, j, hj => by simp at h
  | a :: l, 0, t, h, j, hj => by
    obtain rfl : a = t := by simpa using h
    rw [List.flatMap_cons, List.getElem?_append_left (by simp; omega), Nat.zero_mul, Nat.zero_add]
  | a :: l, i + 1, t, h, j, hj => by
    rw [List.flatMap_cons, List.getElem?_append_right (by simp; omega)]
    have := quads_get l i t (by simpa using h) j hj
    rw [← this]; congr 1; simp; omega
theorem ownG_build {m : Mem} (l : List (Nat × Value × List Nat)) (h : ∀ t ∈ l, OwnF 0 m t.2.1 (ofs t.2.2)) : OwnG 0 (m.push (.cells true (quadsC l))) (.slice (some ⟨m.size, 0, some 4⟩) l.length l.length) (quadsC l) (l.map fun t => (t.1, t.2.2)) := by
  refine ⟨.inr ⟨m.size, l.length, quadsC l, by rw [List.length_map], Nat.zero_le _, gP rfl, by rw [List.length_map]; exact Nat.le_refl _, quadsC_size l, by rw [quadsC_size, List.length_map], fun i _ => rfl⟩, fun i g hi => ?_⟩
  rw [List.getElem?_map] at hi
  obtain ⟨t, ht, rfl⟩ := Option.map_eq_some_iff.1 hi
  have hq := quads_get l i t ht
  have ho := h t (List.mem_of_getElem? ht)
  refine ⟨t.2.1, ?_, ?_, ?_, ?_, ho.ext (.push _ _), fun b hb e => ?_⟩
  · have := hq 0 (by omega); simp [quadsC] at this ⊢; exact this
  · have := hq 1 (by omega); simp [quadsC] at this ⊢; exact this
  · have := hq 2 (by omega); simp [quadsC] at this ⊢; exact this
  · have := hq 3 (by omega); simp [quadsC] at this ⊢; exact this
  · have h1 := (ho.lt hb).2
    have e' : m.size = b := Option.some.inj e
    omega
theorem sGates {ρ : Env} {m : Mem} {K : Env → Mem → Prop} {ops : Array Oper} {l : List Oper} {d : Option Nat} {ty : TypeId} {pos : String} {af : Array Edge} {len : Nat} {ps : Array (Nat × Operand)} (r : List (Nat × Value × List Nat)) (hr : ∀ t ∈ r, OwnF 0 m t.2.1 (ofs t.2.2)) (hlen : len = r.length) (h1 : len * 4 ≤ 16777216)
    (hf : Instr.fill (fun i => some (i * 4, 4)) (if len * 4 = 0 then #[] else (Array.range (len * 4)).map ((Value.agg #[nv 0, .slice none 0 0, nv 0, nv 0]).cells[· % (Value.agg #[nv 0, .slice none 0 0, nv 0, nv 0]).cells.size]!)) (ps.toList.map fun p => (p.1, evR ρ p.2)) = some (quadsC r))
    (hk : ∀ q m' cs, OwnG 0 m' (.slice q r.length r.length) cs (r.map fun t => (t.1, t.2.2)) → Ext m m' → wpOps Tryd.prog ops K l (updO ρ d (.slice q r.length r.length)) m') : wpOps Tryd.prog ops K (⟨d, .buildSlice 28 len ps, ty, pos, af, none⟩ :: l) ρ m := by
  subst hlen
  refine sBuildS T28 S49 Z49 (by decide) h1 (by decide) (by kernel_rfl) hf (quadsC_size r) ?_
  exact hk (some ⟨m.size, 0, some 4⟩) _ _ (ownG_build r hr) (.push _ _)
theorem B49k {k : Nat} {q : Option Addr} {n c : Nat} : aBuild Tryd.prog 49 [(0, nv k), (1, .slice q n c)] = some (.agg #[nv k, .slice q n c, nv 0, nv 0]) := by kernel_rfl
theorem B30k {k : Nat} {q : Option Addr} {n c : Nat} : aBuild Tryd.prog 30 [(0, nv k), (2, .slice q n c)] = some (.agg #[nv k, nv 0, .slice q n c]) := by kernel_rfl
theorem B66k {k : Nat} {q : Option Addr} {n c : Nat} : aBuild Tryd.prog 66 [(0, nv k), (2, .slice q n c)] = some (.agg #[nv k, nv 0, .slice q n c]) := by kernel_rfl
theorem B66v {k : Nat} : aBuild Tryd.prog 66 [(0, nv 1), (1, nv k)] = some (.agg #[nv 1, nv k, .slice none 0 0]) := by kernel_rfl
theorem okf69 : okF Tryd.prog H0 69 8 = true := by kernel_rfl
theorem spec_lgate {m : Mem} {k n c : Nat} {q : Option Addr} : ∃ v m', ACalls Tryd.prog 69 #[nv k, .slice q n c] m v m' ∧ (v = .agg #[nv k, .slice q n c, nv 0, nv 0] ∧ Ext m m') := by
  refine wpF (args := [_, _]) mixed okf69 (fn := Tryd.f69) rfl rfl rfl (by simp) ?_
  refine cSeq ?_
  refine cRegion ?_
  refine sAlloc Z49 (by kernel_rfl) ?_
  refine sNil (kSeqN ?_)
  refine cSeq ?_
  refine cRegion ?_
  refine sMv (v := nv _) rfl ?_
  refine sMv (v := .slice _ _ _) rfl ?_
  refine sBuild B49k ?_
  refine sStAll S49 rfl rfl (gP rfl) rfl rfl (by kernel_rfl) ?_
  refine sNil (kSeqN ?_)
  refine cRet ?_
  exact ⟨.inr rfl, _, resRs_agg A49 S49 rfl (gS rfl (by simp)) rfl, rfl, (Ext.push _ _).set (Nat.le_refl _) _⟩
theorem okf68 : okF Tryd.prog H0 68 8 = true := by kernel_rfl
theorem spec_lof {m : Mem} {k n c : Nat} {q : Option Addr} : ∃ v m', ACalls Tryd.prog 68 #[nv k, .slice q n c] m v m' ∧ (v = .agg #[nv k, nv 0, .slice q n c] ∧ Ext m m') := by
  refine wpF (args := [_, _]) mixed okf68 (fn := Tryd.f68) rfl rfl rfl (by simp) ?_
  refine cSeq ?_
  refine cRegion ?_
  refine sAlloc Z30 (by kernel_rfl) ?_
  refine sNil (kSeqN ?_)
  refine cSeq ?_
  refine cRegion ?_
  refine sMv (v := nv _) rfl ?_
  refine sMv (v := .slice _ _ _) rfl ?_
  refine sBuild B30k ?_
  refine sStAll S30 rfl rfl (gP rfl) rfl rfl (by kernel_rfl) ?_
  refine sNil (kSeqN ?_)
  refine cRet ?_
  exact ⟨.inr rfl, _, resRs_agg A30 S30 rfl (gS rfl (by simp)) rfl, rfl, (Ext.push _ _).set (Nat.le_refl _) _⟩
theorem okf71 : okF Tryd.prog H0 71 8 = true := by kernel_rfl
theorem spec_lmade {m : Mem} {k n c : Nat} {q : Option Addr} : ∃ v m', ACalls Tryd.prog 71 #[nv k, .slice q n c] m v m' ∧ (v = .agg #[nv k, nv 0, .slice q n c] ∧ Ext m m') := by
  refine wpF (args := [_, _]) mixed okf71 (fn := Tryd.f71) rfl rfl rfl (by simp) ?_
  refine cSeq ?_
  refine cRegion ?_
  refine sAlloc Z66 (by kernel_rfl) ?_
  refine sNil (kSeqN ?_)
  refine cSeq ?_
  refine cRegion ?_
  refine sMv (v := nv _) rfl ?_
  refine sMv (v := .slice _ _ _) rfl ?_
  refine sBuild B66k ?_
  refine sStAll S66 rfl rfl (gP rfl) rfl rfl (by kernel_rfl) ?_
  refine sNil (kSeqN ?_)
  refine cRet ?_
  exact ⟨.inr rfl, _, resRs_agg A66 S66 rfl (gS rfl (by simp)) rfl, rfl, (Ext.push _ _).set (Nat.le_refl _) _⟩
theorem okf72 : okF Tryd.prog H0 72 5 = true := by kernel_rfl
theorem spec_lvar {m : Mem} {k : Nat} : ∃ v m', ACalls Tryd.prog 72 #[nv k] m v m' ∧ (v = .agg #[nv 1, nv k, .slice none 0 0] ∧ Ext m m') := by
  refine wpF (args := [_]) mixed okf72 (fn := Tryd.f72) rfl rfl rfl (by simp) ?_
  refine cSeq ?_
  refine cRegion ?_
  refine sAlloc Z66 (by kernel_rfl) ?_
  refine sNil (kSeqN ?_)
  refine cSeq ?_
  refine cRegion ?_
  refine sMv (v := nv _) rfl ?_
  refine sBuild B66v ?_
  refine sStAll S66 rfl rfl (gP rfl) rfl rfl (by kernel_rfl) ?_
  refine sNil (kSeqN ?_)
  refine cRet ?_
  exact ⟨.inr rfl, _, resRs_agg A66 S66 rfl (gS rfl (by simp)) rfl, rfl, (Ext.push _ _).set (Nat.le_refl _) _⟩
theorem okf70 : okF Tryd.prog H0 70 14 = true := by kernel_rfl
theorem spec_known {m : Mem} {a b : Value} {W B W' B' er : Nat} {l r : List GateV} (ha : GatesAt m a l) (hb : GatesAt m b r) (hl : l.length < 4611686018427387904) (hw : ∀ g ∈ l, g.2.1.length < 4611686018427387904) : ∃ v m', ACalls Tryd.prog 70 #[.agg #[nv W, nv B, a], nv er, .agg #[nv W', nv B', b]] m v m' ∧ (v = .bool (decide (er = 0) && decide (W = W' ∧ B = B' ∧ l = r)) ∧ Ext m m') := by
  obtain ⟨q, cap, rfl⟩ := ha.len
  obtain ⟨q', cap', rfl⟩ := hb.len
  refine wpF (args := [_, _, _]) mixed okf70 (fn := Tryd.f70) rfl rfl rfl (by simp) ?_
  refine cSeq ?_
  refine cRegion ?_
  refine sBox (v := .agg _) rfl ?_
  change wpOps _ _ _ _ _ (m.push (.cells true #[nv W, nv B, .slice q l.length cap]))
  refine sBoxB (bl := m.size + 1) (v := .agg _) (by simp) rfl ?_
  change wpOps _ _ _ _ _ ((m.push (.cells true #[nv W, nv B, .slice q l.length cap])).push (.cells true #[nv W', nv B', .slice q' r.length cap']))
  refine sAs (v := .bool _) rfl ?_
  refine sNil (kSeqN ?_)
  refine cSeq ?_
  refine cRegion ?_
  refine sMv (v := nv _) rfl ?_
  refine sBin (a := er) (b := 0) rfl rfl aInt_eql ?_
  refine sMv (v := .bool _) rfl ?_
  by_cases h0 : er = 0
  · rw [decide_eq_true h0]
    refine sG rfl rfl ?_
    refine sLdAll A30 S30 rfl ((gPn (by simp)).trans (gP rfl)) rfl ?_
    refine sG rfl rfl ?_
    refine sLdAll A30 S30 rfl (gP (by simp)) rfl ?_
    refine sG rfl rfl ?_
    obtain ⟨v12, m12, h12, rfl, e12⟩ := spec_Same (W := W) (B := B) (W' := W') (B' := B') (m := (m.push (.cells true #[nv W, nv B, .slice q l.length cap])).push (.cells true #[nv W', nv B', .slice q' r.length cap'])) ((ha.ext (.push _ _)).ext (.push _ _)) ((hb.ext (.push _ _)).ext (.push _ _)) hl hw
    refine sCall2 rfl call20 rfl rfl h12 ?_
    refine sP (v := .bool _) rfl ?_
    refine sAs (v := .bool _) rfl ?_
    refine sNil (kSeqN ?_)
    refine cRet ?_
    exact ⟨.inr rfl, _, rfl, rfl, ((Ext.push _ _).trans (.push _ _)).trans e12⟩
  · rw [decide_eq_false h0]
    refine sGno (q' := false) rfl rfl (by simp) ?_
    refine sGno (q' := false) rfl rfl (by simp) ?_
    refine sGno (q' := false) rfl rfl (by simp) ?_
    refine sP (v := .bool _) rfl ?_
    refine sAs (v := .bool _) rfl ?_
    refine sNil (kSeqN ?_)
    refine cRet ?_
    exact ⟨.inr rfl, _, rfl, rfl, (Ext.push _ _).trans (.push _ _)⟩
end Go.AM
