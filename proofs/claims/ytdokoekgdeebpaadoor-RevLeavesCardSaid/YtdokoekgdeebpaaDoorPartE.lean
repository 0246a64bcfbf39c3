/- Part 5 of the proof: Plain laws, and contracts of the program's functions. -/
import Derived.Test.YtdokoekgdeebpaaDoorPartD
set_option linter.unusedVariables false
set_option linter.unusedSimpArgs false
set_option maxRecDepth 100000
/-! R11 -/
namespace Go.AM
open Go.Proofs
theorem mem_ext {m m' : Mem} (hs : m.size = m'.size) (h : ∀ b, b < m.size → Mem.get m b = Mem.get m' b) : m = m' := by
 apply Array.ext hs
 intro i h1 h2
 have := h i h1
 unfold Mem.get at this
 rw [Array.getD_eq_getD_getElem?, Array.getD_eq_getD_getElem?, Array.getElem?_eq_getElem h1, Array.getElem?_eq_getElem h2] at this
 simpa using this
def padM (k : Nat) (m : Mem) : Mem := m ++ Array.replicate k .dead
theorem padM_size (k : Nat) (m : Mem) : (padM k m).size = m.size + k := by simp [padM]
theorem padM_get (k : Nat) (m : Mem) (b : Nat) : Mem.get (padM k m) b = Mem.get m b := by
 unfold Mem.get padM
 rw [Array.getD_eq_getD_getElem?, Array.getD_eq_getD_getElem?]
 by_cases h : b < m.size
 ·rw [Array.getElem?_append_left h]
 ·rw [Array.getElem?_append_right (by omega), Array.getElem?_replicate, Array.getElem?_eq_none_iff.2 (show m.size ≤ b by omega)]
  split <;> rfl
theorem count_addS (S : Nat → Bool) (f : Nat → Bool) (i : Nat) (hS : S i = false) : ∀ n, (List.range n).countP (fun j => addS S i j && f j) = (List.range n).countP (fun j => S j && f j) + (if i < n ∧ f i = true then 1 else 0)
 | 0 => by simp
 | n + 1 => by
  rw [List.range_succ, List.countP_append, List.countP_append, count_addS S f i hS n]
  simp only [List.countP_cons, List.countP_nil]
  by_cases hn : n = i
  ·subst hn
   have h1 : addS S n n = true := by simp [addS]
   rw [h1, hS]
   cases f n <;> simp
  ·have h1 : addS S i n = S n := by simp [addS, hn]
   rw [h1]
   have key : (if i < n + 1 ∧ f i = true then (1 : Nat) else 0) = if i < n ∧ f i = true then 1 else 0 := by
    simp only [show (i < n + 1 ∧ f i = true) ↔ (i < n ∧ f i = true) from ⟨fun h => ⟨by omega, h.2⟩, fun h => ⟨by omega, h.2⟩⟩]
   rw [key]; omega
noncomputable def opsV2 : Array Oper := match Tryd.f135.body with
  | some (.seq _ (.block _ (.loop (.seq _ (.seq _ (.block _ (.seq (.region _ o _) _))))))) => o
  | _ => #[]
noncomputable def codeV : Code := match Tryd.f135.body with
  | some (.seq _ (.block _ (.loop (.seq _ (.seq _ (.block _ (.seq _ x))))))) => x
  | _ => .skip
theorem body135 : Tryd.f135.body = some (iterCode 111 "iter.go:40" #[⟨0, .data⟩] #[⟨0, .data⟩] opsV2 codeV) := rfl
theorem okX135 : ((opsV2.toList.all (okO Tryd.prog.globals.size 15)) && okC Tryd.prog.globals.size 15 codeV && okH H0 codeV) = true := by kernel_rfl
theorem fr_eta {t : Array Value} {n : Nat} (h : t.size = n) : t = fr n (fun i => t.getD i Go.undef) := by
 subst h
 apply Array.ext
 ·rw [fr_size]
 ·intro i h1 h2
  simp [fr, Array.getD_eq_getD_getElem?, h1]
theorem fr_iter {lp p0 it : Nat} {ρ : Env} (h0 : ρ 0 = .func (.yield lp) #[] #[]) (h1 : ρ 1 = .pointer (some ⟨p0, 0, none⟩)) (h6 : ρ 6 = .pointer (some ⟨it, 0, none⟩)) : IterFr lp p0 it (fr 15 ρ) :=
 ⟨fr_size _ _, by rw [fr_get (by decide), h0], by rw [fr_get (by decide), h1], by rw [fr_get (by decide), h6]⟩
theorem values_count {m : Mem} {lp p0 p8 r : Nat} {rp : Bool} {L : List Met} {q : Met → Bool} {R : ALoop} (g1 : Mem.get m p0 = .cells rp #[.map (some r)]) (g2 : Mem.get m r = .map true (metV L)) (g8 : Mem.get m p8 = .cells true #[nv 0]) (glp : Mem.get m lp = .loop R) (hsrc : ∀ e ∈ L, e.src.length = 8)
  (hround : ∀ m1 e c, e ∈ L → Mem.get m1 lp = .loop R → (∀ b, b < m.size → b ≠ p8 → b ≠ r → Mem.get m1 b = Mem.get m b) → m.size ≤ m1.size → Mem.get m1 p8 = .cells true #[nv c] → c ≤ L.length →
   ∃ m3, ARound Tryd.prog lp #[stepV e] m1 (.bool true) m3 ∧ m3.size = m1.size + 1 ∧ Mem.get m3 p8 = .cells true #[nv (c + if q e then 1 else 0)] ∧ ∀ b, b < m1.size → b ≠ p8 → Mem.get m3 b = Mem.get m1 b) :
  ∃ m2, ACalls Tryd.prog 135 #[.func (.yield lp) #[] #[], .pointer (some ⟨p0, 0, none⟩)] m (oneOf []) m2 ∧ Mem.get m2 p8 = .cells true #[nv (L.countP q)] ∧ m.size ≤ m2.size ∧ ∀ b, b < m.size → b ≠ p8 → b ≠ r → Mem.get m2 b = Mem.get m b := by
 have hlpm : lp < m.size := Mem.lt_of_live (by rw [glp]; rfl)
 have hp8 : p8 < m.size := live g8
 have hrm : r < m.size := Mem.lt_of_live (by rw [g2]; rfl)
 have hp0 : p0 < m.size := Mem.lt_of_live (by rw [g1]; rfl)
 have n8r : p8 ≠ r := fun e => by subst e; rw [g2] at g8; cases g8
 have n8l : p8 ≠ lp := fun e => by subst e; rw [glp] at g8; cases g8
 have nrl : r ≠ lp := fun e => by subst e; rw [glp] at g2; cases g2
 let qi : Nat → Bool := fun i => match L[i]? with
  | some e => q e
  | none => false
 let card : (Nat → Bool) → Nat := fun S => (List.range L.length).countP fun j => S j && true
 let cnt : (Nat → Bool) → Nat := fun S => (List.range L.length).countP fun j => S j && qi j
 let base : Nat → Mem := fun c => ((m.setIfInBounds r (.map false (metV L))).setIfInBounds p8 (.cells true #[nv c])).push .dead
 let memF : (Nat → Bool) → Mem := fun S => padM (2 * card S) (base (cnt S))
 have bsz : ∀ c, (base c).size = m.size + 1 := fun c => by simp [base]
 have bg8 : ∀ c, Mem.get (base c) p8 = .cells true #[nv c] := fun c => by
  simp only [base]; rw [gPn (by simpa using hp8)]; exact gS rfl (by simpa using hp8)
 have bgr : ∀ c, Mem.get (base c) r = .map false (metV L) := fun c => by
  simp only [base]; rw [gPn (by simpa using hrm), gSn n8r]; exact gS rfl hrm
 have bgo : ∀ c b, b < m.size → b ≠ p8 → b ≠ r → Mem.get (base c) b = Mem.get m b := fun c b hb h1 h2 => by
  simp only [base]; rw [gPn (by simpa using hb), gSn (fun e => h1 e.symm), gSn (fun e => h2 e.symm)]
 have bgd : ∀ c b, m.size ≤ b → Mem.get (base c) b = .dead := fun c b hb => by
  rcases Nat.lt_or_ge b (base c).size with h | h
  ·have : b = m.size := by rw [bsz] at h; omega
   subst this
   simp only [base]; exact gP (by simp)
  ·unfold Mem.get
   rw [Array.getD_eq_getD_getElem?, Array.getElem?_eq_none_iff.2 h]; rfl
 have fsz : ∀ S, (memF S).size = m.size + 1 + 2 * card S := fun S => by simp only [memF]; rw [padM_size, bsz]
 have fget : ∀ S b, Mem.get (memF S) b = Mem.get (base (cnt S)) b := fun S b => padM_get _ _ _
 have hcnt : ∀ S, cnt S ≤ L.length := fun S => by
  have := List.countP_le_length (p := fun j => S j && qi j) (l := List.range L.length)
  simpa using this
 have hok := okX135
 simp only [Bool.and_eq_true] at hok
 obtain ⟨⟨hok1, hok2⟩, hok3⟩ := hok
 have hlow : ∀ S, LoopsIn m (memF S) := fun S b hb => by
  have hbm : b < m.size := Mem.lt_of_live (by cases h : Mem.get m b <;> rw [h] at hb <;> first | rfl | cases hb)
  rw [fget]
  by_cases h1 : b = p8
  ·subst h1; rw [g8] at hb; cases hb
  ·by_cases h2 : b = r
   ·subst h2; rw [g2] at hb; cases hb
   ·rw [bgo _ b hbm h1 h2]; exact hb
 refine ⟨memF (fun i => decide (i < (metV L).length)), calls_values (p := "iter.go:40") (kt := 109) (et := 116) (n2 := 3) (fn := Tryd.f135) (a0 := #[⟨0, .data⟩]) (a1 := #[⟨0, .data⟩]) (ops2 := opsV2) (X := codeV) (rp := rp) (es := metV L) (memF := memF) (by rfl) body135 rfl rfl rfl rfl T111 A111 g1 g2 ?_ (fun S => (fget S r).trans (bgr _)) ?_ hlpm (hlow _), ?_, ?_, ?_⟩
 ·
  have h0 : card (fun _ => false) = 0 := by simp [card]
  have h1 : cnt (fun _ => false) = 0 := by simp [cnt]
  refine mem_ext (by rw [fsz, h0]; simp) fun b hb => ?_
  rw [fget, h1]
  rcases Nat.lt_or_ge b m.size with h | h
  ·by_cases e8 : b = p8
   ·subst e8; rw [bg8, gPn (by simpa using h), gSn (fun e => n8r e.symm)]; exact g8.symm
   ·by_cases er : b = r
    ·subst er; rw [bgr, gPn (by simpa using h)]; exact (gS rfl h).symm
    ·rw [bgo _ b h e8 er, gPn (by simpa using h), gSn (fun e => er e.symm)]
  ·rw [bgd _ b h]
   rcases Nat.eq_or_lt_of_le h with e | e
   ·subst e; exact (gP (by simp)).symm
   ·exfalso; rw [fsz, h0] at hb; omega
 ·
  intro S i x t hx hS hF
  have hil : i < L.length := by have := (List.getElem?_eq_some_iff.1 hx).1; simpa [metV] using this
  obtain ⟨e, he⟩ : ∃ e, L[i]? = some e := ⟨_, List.getElem?_eq_getElem hil⟩
  have hxe : x = (smV e.tab, stepV e) := by
   unfold metV at hx; rw [List.getElem?_map, he] at hx
   injection hx with hx; exact hx.symm
  subst hxe
  have heL := List.mem_of_getElem? he
  have hse := hsrc e heL
  have hzs := stepV_size hse
  have hF0 := hF
  obtain ⟨f1, f2, f3, f4⟩ := hF
  rw [fr_eta f1] at f2 f3 f4 ⊢
  generalize (fun i => t.getD i Go.undef) = ρ at f2 f3 f4 ⊢
  rw [fr_get (by decide)] at f2 f3 f4
  injection f2 with f2; injection f3 with f3; injection f4 with f4
  rw [put_fr]
  have hglp : Mem.get (memF S) lp = .loop R := by rw [fget, bgo _ lp hlpm (fun e => n8l e.symm) (fun e => nrl e.symm)]; exact glp
  have hg8 : Mem.get (memF S) p8 = .cells true #[nv (cnt S)] := (fget S p8).trans (bg8 _)
  obtain ⟨m3, hr3, hz3, h38, h3o⟩ := hround ((memF S).push (.cells true (cellsN e.src ++ #[.int .i64 e.gate, nv e.many]))) e (cnt S) heL ((gPn (by rw [fsz]; omega)).trans hglp) (fun b h1 h2 h3 => by rw [gPn (by rw [fsz]; omega), fget]; exact bgo _ b h1 h2 h3) (by simp [fsz]; omega) ((gPn (by rw [fsz]; omega)).trans hg8) (hcnt S)
  have hkill : Kills m3 (memF (addS S i)) := by
   refine ⟨[(memF S).size, (memF S).size + 1], ?_⟩
   have hcard : card (addS S i) = card S + 1 := by
    have := count_addS S (fun _ => true) i hS L.length
    rw [if_pos ⟨hil, rfl⟩] at this
    exact this
   have hcn : cnt (addS S i) = cnt S + if q e then 1 else 0 := by
    have := count_addS S qi i hS L.length
    have hq : qi i = q e := by simp only [qi, he]
    rw [hq] at this
    have h2 : (if i < L.length ∧ q e = true then 1 else 0) = if q e then 1 else 0 := by
     cases q e <;> simp [hil]
    rw [h2] at this
    exact this
   simp only [List.foldl_cons, List.foldl_nil]
   have hz3' : m3.size = (memF S).size + 2 := by rw [hz3]; simp
   refine mem_ext (by rw [fsz, hcard]; simp only [Array.size_setIfInBounds]; rw [hz3', fsz]; omega) fun b hb => ?_
   rw [fsz, hcard] at hb
   rw [fget, hcn]
   by_cases b2 : b = (memF S).size + 1
   ·subst b2
    rw [gS rfl (by simp only [Array.size_setIfInBounds]; omega), bgd _ _ (by rw [fsz]; omega)]
   ·rw [gSn (fun h => b2 h.symm)]
    by_cases b1 : b = (memF S).size
    ·subst b1
     rw [gS rfl (by omega), bgd _ _ (by rw [fsz]; omega)]
    ·rw [gSn (fun h => b1 h.symm)]
     rw [fsz] at b1 b2
     have hbl : b < (memF S).size := by rw [fsz]; omega
     by_cases e8 : b = p8
     ·subst e8; rw [h38, bg8]
     ·rw [h3o b (by simp; omega) e8, gPn hbl, fget]
      rcases Nat.lt_or_ge b m.size with h | h
      ·by_cases er : b = r
       ·subst er; rw [bgr, bgr]
       ·rw [bgo _ b h e8 er, bgo _ b h e8 er]
      ·rw [bgd _ b h, bgd _ b h]
  have hw : wpOps Tryd.prog opsV2 (fun ρ1 m1 => wpC Tryd.prog 15 H0 codeV (fun e' ρ' m' => e' = .normal ∧ ρ' 0 = .func (.yield lp) #[] #[] ∧ ρ' 1 = .pointer (some ⟨p0, 0, none⟩) ∧ ρ' 6 = .pointer (some ⟨m.size, 0, none⟩) ∧ Kills m' (memF (addS S i))) ρ1 m1) (opsV2.toList.drop 1) (updO ρ (some 9) (.tuple #[smV e.tab, stepV e])) (memF S) := by
   refine sP (v := stepV e) rfl ?_
   refine sAlloc Z116 (by kernel_rfl) ?_
   refine sStNA S116 rfl rfl rfl hzs one_step ?_
   refine sNil ?_
   refine cSR ?_
   refine sMv (v := .func (.yield lp) #[] #[]) f2 ?_
   refine sLdAll A116 S116 rfl (gP rfl) hzs ?_
   refine sYield1 rfl rfl hr3 ?_
   refine sP (v := .bool false) rfl ?_
   refine sN ?_
   refine cCondF rfl ?_
   refine cSkip ?_
   exact ⟨rfl, f2, f3, f4, hkill⟩
  obtain ⟨ρ1, m1, hrow, hc⟩ := wpOps_sound (n := 15) hok1 (opsV2.toList.drop 1) 1 _ _ rfl hw
  obtain ⟨e2, ρ2, m2, hcd, rfl, q0, q1, q6, hk⟩ := wpC_sound mixed codeV hok2 hok3 _ _ _ hc
  exact ⟨_, m1, _, m2, hrow, hcd, fr_iter q0 q1 q6, hk⟩
 ·have hl : (metV L).length = L.length := by simp [metV]
  rw [fget, bg8]
  have : cnt (fun i => decide (i < (metV L).length)) = L.countP q := by
   have h1 : ∀ (n : Nat), n ≤ L.length → (List.range n).countP (fun j => decide (j < (metV L).length) && qi j) = (L.take n).countP q := by
    intro n
    induction n with
    | zero => intro _; simp
    | succ n ih =>
     intro hn
     rw [List.range_succ, List.countP_append, ih (by omega), List.take_add_one, List.getElem?_eq_getElem (by omega), List.countP_append]
     congr 1
     have hqi : qi n = q (L[n]'(by omega)) := by simp only [qi, List.getElem?_eq_getElem (show n < L.length by omega)]
     simp only [List.countP_cons, List.countP_nil, Option.toList, hqi, decide_eq_true (show n < (metV L).length by omega), Bool.true_and]
   have := h1 L.length (Nat.le_refl _)
   rw [List.take_length] at this
   exact this
  rw [this]
 ·rw [fsz]; omega
 ·intro b hb h1 h2
  rw [fget]; exact bgo _ b hb h1 h2
end Go.AM

/-! R12 -/
namespace Go.AM
open Go.Proofs
def countE (w g : Int) : Nat := if w < 1 ∨ 3 < w then 2 else if g < 0 ∨ 4 < g then 3 else 0
def countN (n most : Nat) : Nat := (reachM n most).countP fun e => decide (e.many = most)
def countV (w g : Int) : Nat := if countE w g = 0 then countN w.toNat g.toNat else 0
theorem many_at {e : Met} (h : e.src.length = 8) : (cellsN e.src ++ #[Value.int .i64 e.gate, nv e.many])[0 + 9]? = some (nv e.many) := by
 rw [Array.getElem?_append_right (by simp [h]), cellsN_size, h]; rfl
theorem okf95 : okF Tryd.prog H0 95 4 = true := by kernel_rfl
theorem spec_Values {m : Mem} {r : Nat} : ∃ v m', ACalls Tryd.prog 95 #[.map (some r)] m v m' ∧ (v = .func (.func 135) #[] #[.pointer (some ⟨m.size, 0, none⟩)] ∧ m.push (.cells true #[.map (some r)]) = m') := by
 refine wpF (args := [_]) mixed okf95 (fn := Tryd.f95) rfl rfl rfl (by simp) ?_
 refine cSR ?_
 refine sBox (v := .map (some r)) rfl ?_
 refine sAs rfl ?_
 refine sN ?_
 refine cSR ?_
 refine sMFc1 rfl ?_
 refine sAs rfl ?_
 refine sN ?_
 refine cRet ?_
 exact ⟨.inr rfl, _, rfl, rfl, rfl⟩
theorem okf35 : okF Tryd.prog H0 35 40 = true := by kernel_rfl
theorem spec_Count {m : Mem} {w g : Int} : ∃ v m', ACalls Tryd.prog 35 #[.int .i64 w, .int .i64 g] m v m' ∧ (v = .tuple #[nv (countV w g), nv (countE w g)] ∧ Ext m m') := by
 refine wpF (args := [_, _]) mixed okf35 (fn := Tryd.f35) rfl rfl rfl (by simp) ?_
 refine cSR ?_
 refine sBox (v := .int .i64 g) rfl ?_
 change wpOps _ _ _ _ _ (m.push (.cells true #[.int .i64 g]))
 refine sAn rfl ?_
 refine sAn rfl ?_
 refine sN ?_
 refine cSeq (cBlock (cSR ?_))
 refine sMv (v := .int _ _) rfl ?_
 refine sBinI (v := .bool (decide (w < 1))) rfl rfl aInt_lssI ?_
 refine sMb rfl ?_
 by_cases h1 : w < 1
 ·
  rw [decide_eq_true h1]
  refine sGT rfl rfl ?_
  refine sGT rfl rfl ?_
  refine sPb rfl ?_
  refine sAb rfl ?_
  refine sN ?_
  refine cCondT rfl ?_
  refine cSR ?_
  refine sAn rfl ?_
  refine sAs (v := nv 2) rfl ?_
  refine sN ?_
  refine cRet (kBlkR (kSeqR ?_))
  exact ⟨.inr rfl, _, rfl, by rw [countV, show countE w g = 2 by rw [countE, if_pos (.inl h1)]]; rfl, .push _ _⟩
 ·
  rw [decide_eq_false h1]
  refine sG rfl rfl ?_
  refine sMv (v := .int _ _) rfl ?_
  refine sG rfl rfl ?_
  refine sBinI (v := .bool (decide (3 < w))) rfl rfl aInt_gtrI ?_
  refine sPb rfl ?_
  refine sAb rfl ?_
  refine sN ?_
  refine cCond (p := 3 < w) rfl (fun c1 => ?_) (fun c1 => ?_)
  ·
   refine cSR ?_
   refine sAn rfl ?_
   refine sAs (v := nv 2) rfl ?_
   refine sN ?_
   refine cRet (kBlkR (kSeqR ?_))
   exact ⟨.inr rfl, _, rfl, by rw [countV, show countE w g = 2 by rw [countE, if_pos (.inr c1)]]; rfl, .push _ _⟩
  ·
   refine cSR ?_
   refine sLd (v := .int .i64 g) A3 rfl (gP rfl) rfl ?_
   refine sBinI (v := .bool (decide (g < 0))) rfl rfl aInt_lssI ?_
   refine sMb rfl ?_
   by_cases h2 : g < 0
   ·
    rw [decide_eq_true h2]
    refine sGT rfl rfl ?_
    refine sGT rfl rfl ?_
    refine sPb rfl ?_
    refine sAb rfl ?_
    refine sN ?_
    refine cCondT rfl ?_
    refine cSR ?_
    refine sAn rfl ?_
    refine sAs (v := nv 3) rfl ?_
    refine sN ?_
    refine cRet (kBlkR (kSeqR ?_))
    exact ⟨.inr rfl, _, rfl, by rw [countV, show countE w g = 3 by rw [countE, if_neg (by omega), if_pos (.inl h2)]]; rfl, .push _ _⟩
   ·
    rw [decide_eq_false h2]
    refine sG rfl rfl ?_
    refine sLd (v := .int .i64 g) A3 rfl (gP rfl) rfl ?_
    refine sG rfl rfl ?_
    refine sBinI (v := .bool (decide (4 < g))) rfl rfl aInt_gtrI ?_
    refine sPb rfl ?_
    refine sAb rfl ?_
    refine sN ?_
    refine cCond (p := 4 < g) rfl (fun c3 => ?_) (fun c3 => ?_)
    ·
     refine cSR ?_
     refine sAn rfl ?_
     refine sAs (v := nv 3) rfl ?_
     refine sN ?_
     refine cRet (kBlkR (kSeqR ?_))
     exact ⟨.inr rfl, _, rfl, by rw [countV, show countE w g = 3 by rw [countE, if_neg (by omega), if_pos (.inr c3)]]; rfl, .push _ _⟩
    ·
     have hE : countE w g = 0 := by rw [countE, if_neg (by omega), if_neg (by omega)]
     obtain ⟨W, rfl⟩ : ∃ W : Nat, w = Int.ofNat W := ⟨w.toNat, by simp; omega⟩
     obtain ⟨G, rfl⟩ : ∃ G : Nat, g = Int.ofNat G := ⟨g.toNat, by simp; omega⟩
     have hW : W ≤ 3 := by have : ¬ (3 < (W : Int)) := c1; omega
     have hG : G ≤ 4 := by have : ¬ (4 < (G : Int)) := c3; omega
     have hVV : countV (Int.ofNat W) (Int.ofNat G) = countN W G := by rw [countV, if_pos hE]; rfl
     rw [hVV, hE]
     refine cSkip (kBlkN (kSeqN ?_))
     refine cSR ?_
     refine sMv (v := nv W) rfl ?_
     refine sLd (v := nv G) A3 rfl (gP rfl) rfl ?_
     obtain ⟨v27, m27, h27, va, rfl, hmap, hlow, htab, hkey, hlen⟩ := spec_reached (m := m.push (.cells true #[.int .i64 (Int.ofNat G)])) hW hG
     have z27 := hlow.1
     simp only [Array.size_push] at z27 hmap hlow h27
     refine sCall2 rfl call88 rfl rfl h27 ?_
     have g3 : Mem.get m27 m.size = .cells true #[nv G] := (hlow.2 _ (by omega)).trans (gP rfl)
     have hr27 : m.size + 1 < m27.size := Mem.lt_of_live (by rw [hmap]; rfl)
     refine sMv (v := .tuple _) rfl ?_
     refine sP (v := .map (some (m.size + 1))) rfl ?_
     refine sP (v := va) rfl ?_
     refine sAs (v := .map _) rfl ?_
     refine sAs (v := va) rfl ?_
     refine sN ?_
     refine cSR ?_
     refine sAlloc Z3 (by kernel_rfl) ?_
     refine sStN (v := nv 0) S3 rfl rfl rfl rfl rfl ?_
     refine sN ?_
     refine cSeq (cSR ?_)
     refine sMv (v := .map _) rfl ?_
     obtain ⟨v31, m31, h31, rfl, rfl⟩ := spec_Values (m := m27.push (.cells true #[nv 0])) (r := m.size + 1)
     refine sCall1 rfl call95 rfl h31 ?_
     have hz : ((m27.push (.cells true #[nv 0])).push (.cells true #[.map (some (m.size + 1))])).size = m27.size + 2 := by simp
     refine sN ?_
     refine cBlock ?_
     refine cRangeJ (by kernel_rfl) mixed (by kernel_rfl) rfl call135 ?_
     intro R B hround
     have glp : Mem.get (((m27.push (.cells true #[nv 0])).push (.cells true #[.map (some (m.size + 1))])).push (.loop R)) (m27.size + 2) = .loop R := gP (by simp)
     have gp0 : Mem.get (((m27.push (.cells true #[nv 0])).push (.cells true #[.map (some (m.size + 1))])).push (.loop R)) (m27.size + 1) = .cells true #[.map (some (m.size + 1))] := by rw [gPn (by simp), gP (by simp)]
     have gp8 : Mem.get (((m27.push (.cells true #[nv 0])).push (.cells true #[.map (some (m.size + 1))])).push (.loop R)) m27.size = .cells true #[nv 0] := by rw [gPn (by simp; omega), gPn (by simp), gP rfl]
     have gr : Mem.get (((m27.push (.cells true #[nv 0])).push (.cells true #[.map (some (m.size + 1))])).push (.loop R)) (m.size + 1) = .map true (metV (reachM W G)) := by rw [gPn (by simp; omega), gPn (by simp; omega), gPn (by omega)]; exact hmap
     have gp3 : Mem.get (((m27.push (.cells true #[nv 0])).push (.cells true #[.map (some (m.size + 1))])).push (.loop R)) m.size = .cells true #[nv G] := by rw [gPn (by simp; omega), gPn (by simp; omega), gPn (by omega)]; exact g3
     have hszl : (((m27.push (.cells true #[nv 0])).push (.cells true #[.map (some (m.size + 1))])).push (.loop R)).size = m27.size + 3 := by simp
     rw [hz] at hround
     generalize hML : ((m27.push (.cells true #[nv 0])).push (.cells true #[.map (some (m.size + 1))])).push (.loop R) = ML at glp gp0 gp8 gr gp3 hszl
     have hJ : ∀ m1 e c, e ∈ reachM W G → Mem.get m1 (m27.size + 2) = .loop R → (∀ b, b < ML.size → b ≠ m27.size → b ≠ m.size + 1 → Mem.get m1 b = Mem.get ML b) → ML.size ≤ m1.size → Mem.get m1 m27.size = .cells true #[nv c] → c ≤ (reachM W G).length →
       ∃ m3, ARound Tryd.prog (m27.size + 2) #[stepV e] m1 (.bool true) m3 ∧ (m3.size = m1.size + 1 ∧ Mem.get m3 m27.size = .cells true #[nv (c + if decide (e.many = G) then 1 else 0)] ∧ ∀ b, b < m1.size → b ≠ m27.size → Mem.get m3 b = Mem.get m1 b) := by
      intro m1 e c he hlp hkeep hsz h8 hc
      refine hround m1 (stepV e) _ hlp ?_
      have hse := (htab e he).2
      have k3 : Mem.get m1 m.size = .cells true #[nv G] := (hkeep _ (by omega) (by omega) (by omega)).trans gp3
      rw [hszl] at hsz
      refine cRegion ?_
      refine sAlloc Z116 (by kernel_rfl) ?_
      refine sStNA S116 rfl rfl rfl (stepV_size hse) one_step ?_
      refine sNil ?_
      refine ⟨rfl, (gPn (by omega)).trans hlp, ?_⟩
      have j9 : Mem.get ((m1.push (.cells true (cellsN e.src ++ #[.int .i64 e.gate, nv e.many]))).setIfInBounds (m27.size + 2) (.loop B)) m1.size = .cells true (cellsN e.src ++ #[.int .i64 e.gate, nv e.many]) := (gSn (by omega)).trans (gP rfl)
      have j3 : Mem.get ((m1.push (.cells true (cellsN e.src ++ #[.int .i64 e.gate, nv e.many]))).setIfInBounds (m27.size + 2) (.loop B)) m.size = .cells true #[nv G] := (gSn (by omega)).trans ((gPn (by omega)).trans k3)
      have j8 : Mem.get ((m1.push (.cells true (cellsN e.src ++ #[.int .i64 e.gate, nv e.many]))).setIfInBounds (m27.size + 2) (.loop B)) m27.size = .cells true #[nv c] := (gSn (by omega)).trans ((gPn (by omega)).trans h8)
      have jB : Mem.get ((m1.push (.cells true (cellsN e.src ++ #[.int .i64 e.gate, nv e.many]))).setIfInBounds (m27.size + 2) (.loop B)) (m27.size + 2) = .loop B := gS rfl (by simp; omega)
      have jo : ∀ b, b < m1.size → b ≠ m27.size + 2 → Mem.get ((m1.push (.cells true (cellsN e.src ++ #[.int .i64 e.gate, nv e.many]))).setIfInBounds (m27.size + 2) (.loop B)) b = Mem.get m1 b := fun b hb hn => (gSn (fun e => hn e.symm)).trans (gPn hb)
      have jz : ((m1.push (.cells true (cellsN e.src ++ #[.int .i64 e.gate, nv e.many]))).setIfInBounds (m27.size + 2) (.loop B)).size = m1.size + 1 := by simp
      generalize (m1.push (.cells true (cellsN e.src ++ #[.int .i64 e.gate, nv e.many]))).setIfInBounds (m27.size + 2) (.loop B) = M at *
      refine cBlock (cSR ?_)
      refine sFA F116_2 rfl ?_
      refine sLd (v := nv e.many) A3 rfl j9 (many_at hse) ?_
      refine sLd (v := nv G) A3 rfl j3 rfl ?_
      refine sBin (a := e.many) (b := G) rfl rfl aInt_eql ?_
      refine sN ?_
      refine cCond (p := e.many = G) rfl (fun c4 => ?_) (fun c4 => ?_)
      ·
       refine cRegion ?_
       refine sLd (v := nv c) A3 rfl j8 rfl ?_
       refine sBin (a := c) (b := 1) rfl rfl (aInt_add (by omega)) ?_
       refine sSt (v := nv (c + 1)) S3 rfl rfl j8 (by simp) rfl rfl ?_
       refine sNil (kBlkN ?_)
       refine ⟨rfl, (gSn (by omega)).trans jB, by simpa using jz, ?_, fun b hb hn => ?_⟩
       ·rw [gSn (by omega), decide_eq_true c4]; exact gS rfl (by omega)
       ·by_cases hb2 : b = m27.size + 2
        ·subst hb2; rw [gS rfl (by simp; omega)]; exact hlp.symm
        ·rw [gSn (fun e => hb2 e.symm), gSn (fun e => hn e.symm)]; exact jo b hb hb2
      ·
       refine cSkip (kBlkN ?_)
       refine ⟨rfl, jB, by simpa using jz, ?_, fun b hb hn => ?_⟩
       ·rw [gSn (by omega), decide_eq_false c4]; exact j8
       ·by_cases hb2 : b = m27.size + 2
        ·subst hb2; rw [gS rfl (by omega)]; exact hlp.symm
        ·rw [gSn (fun e => hb2 e.symm)]; exact jo b hb hb2
     obtain ⟨m2, h2, q8, qs, qk⟩ := values_count (m := ML) (lp := m27.size + 2) (p0 := m27.size + 1) (p8 := m27.size) (r := m.size + 1) (q := fun e => decide (e.many = G)) gp0 gr gp8 glp (fun e he => (htab e he).2) hJ
     rw [hszl] at qs qk
     have q8' : Mem.get (m2.setIfInBounds (m27.size + 2) .dead) m27.size = .cells true #[nv (countN W G)] := (gSn (by omega)).trans q8
     rw [hz]
     refine ⟨_, m2, by simpa using h2, (qk _ (by omega) (by omega) (by omega)).trans glp, (kBlkN (kSeqN ?_))⟩
     refine cSR ?_
     refine sLd (v := nv (countN W G)) A3 rfl q8' rfl ?_
     refine sAn rfl ?_
     refine sAn rfl ?_
     refine sN ?_
     refine cRet ?_
     refine ⟨.inr rfl, _, rfl, rfl, by simp; omega, fun b hb => ?_⟩
     rw [gSn (by omega), qk b (by omega) (by omega) (by omega), ← hML, gPn (by simp; omega), gPn (by simp; omega), gPn (by omega), hlow.2 b (by omega), gPn hb]
end Go.AM

/-! N2 -/
namespace Go.AM
def lenN (n : Nat) : Nat := if n = 2 then 1 else if n = 4 then 2 else 3
def wideE (p : List Int) : Nat := if p.length = 2 ∨ p.length = 4 ∨ p.length = 8 then (if ∃ x ∈ p, x < 0 ∨ Int.ofNat p.length ≤ x then 3 else if p.Nodup then 0 else 5) else 2
def wideN (p : List Int) : Nat := if wideE p = 0 then lenN p.length else 0
/-- Keys as they are met. -/
def keysUp (l : List Nat) : List Nat := l.foldl (fun ks x => if x ∈ ks then ks else ks ++ [x]) []
theorem keysUp_append (l : List Nat) (x : Nat) : keysUp (l ++ [x]) = if x ∈ keysUp l then keysUp l else keysUp l ++ [x] := by
 unfold keysUp; rw [List.foldl_append]; rfl
theorem list_snoc {α : Type} (P : List α → Prop) (h0 : P []) (hs : ∀ l x, P l → P (l ++ [x])) : ∀ l, P l := by
 intro l
 have : ∀ n (l : List α), l.length = n → P l := by
  intro n
  induction n with
  | zero => intro l h; rw [List.eq_nil_of_length_eq_zero h]; exact h0
  | succ n ih =>
   intro l h
   have hne : l ≠ [] := fun e => by rw [e] at h; cases h
   rw [← List.dropLast_concat_getLast hne]
   exact hs _ _ (ih _ (by rw [List.length_dropLast]; omega))
 exact this _ l rfl
theorem keysUp_spec (l : List Nat) : (∀ x, x ∈ keysUp l ↔ x ∈ l) ∧ (keysUp l).length ≤ l.length ∧ ((keysUp l).length = l.length ↔ l.Nodup) := by
 refine list_snoc (fun l => (∀ x, x ∈ keysUp l ↔ x ∈ l) ∧ (keysUp l).length ≤ l.length ∧ ((keysUp l).length = l.length ↔ l.Nodup)) ⟨fun x => Iff.rfl, Nat.le_refl _, by simp [keysUp]⟩ (fun l x ih => ?_) l
 obtain ⟨h1, h2, h3⟩ := ih
 rw [keysUp_append]
 have hnd : (l ++ [x]).Nodup ↔ l.Nodup ∧ x ∉ l := by
  rw [List.nodup_append]
  constructor
  ·rintro ⟨a, _, c⟩; exact ⟨a, fun h => c x h x (by simp) rfl⟩
  ·rintro ⟨a, b⟩; exact ⟨a, by simp, fun y hy z hz e => by simp at hz; subst hz; subst e; exact b hy⟩
 by_cases hx : x ∈ keysUp l
 ·rw [if_pos hx]
  have hxl := (h1 x).1 hx
  refine ⟨fun y => ?_, by rw [List.length_append]; omega, ?_⟩
  ·rw [h1 y, List.mem_append]
   constructor
   ·exact .inl
   ·rintro (h | h)
    ·exact h
    ·simp at h; rw [h]; exact hxl
  ·rw [hnd, List.length_append]
   constructor
   ·intro h; simp at h; omega
   ·intro h; exact absurd hxl h.2
 ·rw [if_neg hx]
  have hxl : x ∉ l := fun h => hx ((h1 x).2 h)
  refine ⟨fun y => ?_, by simp; omega, ?_⟩
  ·rw [List.mem_append, List.mem_append, h1 y]
  ·rw [hnd, List.length_append, List.length_append]
   constructor
   ·intro h; simp at h; exact ⟨h3.1 h, hxl⟩
   ·intro h; simp; exact h3.2 h.1
theorem nodup_ofs {l : List Nat} : (ofs l).Nodup ↔ l.Nodup := by
 unfold ofs
 constructor
 ·intro h
  unfold List.Nodup at *
  rw [List.pairwise_map] at h
  exact h.imp fun hab e => hab (by rw [e])
 ·intro h
  unfold List.Nodup at *
  rw [List.pairwise_map]
  exact h.imp fun hab e => hab (Int.ofNat.inj e)
end Go.AM

/-! R13 -/
namespace Go.AM
open Go.Proofs
def ixOf : List Nat → Nat → Nat
  | [], _ => 0
  | y :: l, x => if y = x then 0 else ixOf l x + 1
theorem ixOf_at {x : Nat} : ∀ {l : List Nat} {i : Nat}, (∀ j, j < i → l[j]? ≠ some x) → l[i]? = some x → ixOf l x = i
 | [], i, _, h => by cases h
 | y :: l, 0, _, h => by simp at h; subst h; simp [ixOf]
 | y :: l, i + 1, hn, h => by
  have h0 : y ≠ x := fun e => hn 0 (by omega) (by simp [e])
  rw [ixOf, if_neg h0, ixOf_at (i := i) (fun j hj => by have := hn (j + 1) (Nat.succ_lt_succ hj); simpa using this) (by simpa using h)]
def idxP (l : List Nat) (x : Nat) : Int := if x ∈ l then Int.ofNat (ixOf l x) else -1
theorem B3_248 {m : Mem} : IntsAt (m.push (.cells true #[nv 2, nv 4, nv 8])) (.slice (some ⟨m.size, 0, some 1⟩) 3 3) (ofs [2, 4, 8]) := by
 refine .inr ⟨m.size, 0, 3, true, #[nv 2, nv 4, nv 8], rfl, gP rfl, fun i x hi => ?_⟩
 have : i = 0 ∨ i = 1 ∨ i = 2 ∨ 3 ≤ i := by omega
 rcases this with rfl | rfl | rfl | h
 ·have : (2 : Int) = x := by simpa [ofs] using hi
  subst this; rfl
 ·have : (4 : Int) = x := by simpa [ofs] using hi
  subst this; rfl
 ·have : (8 : Int) = x := by simpa [ofs] using hi
  subst this; rfl
 ·rw [List.getElem?_eq_none (by simp [ofs]; omega)] at hi; cases hi
theorem idx248 (n : Nat) : idxP [2, 4, 8] n + 1 = Int.ofNat (if n = 2 ∨ n = 4 ∨ n = 8 then lenN n else 0) := by
 unfold idxP lenN
 by_cases h2 : n = 2
 ·subst h2; decide
 ·by_cases h4 : n = 4
  ·subst h4; decide
  ·by_cases h8 : n = 8
   ·subst h8; decide
   ·rw [if_neg (by simp [h2, h4, h8]), if_neg (by omega)]; rfl
/-- Keys that were met. -/
def keysV (ks : List Nat) : List (Value × Value) := ks.map fun x => (nv x, .bool true)
theorem find_keys (k : Nat) : ∀ (ks : List Nat) (i : Nat), (k ∉ ks → aFindNow (.int .i64) (nv k) (keysV ks) i = some none) ∧ (k ∈ ks → ∃ j, j < ks.length ∧ ks[j]? = some k ∧ aFindNow (.int .i64) (nv k) (keysV ks) i = some (some (i + j, .bool true)))
 | [], i => ⟨fun _ => rfl, fun h => by cases h⟩
 | x :: ks, i => by
  obtain ⟨h1, h2⟩ := find_keys k ks (i + 1)
  have hs : Instr.sameNow (.int .i64) (nv k) (nv x) = some (decide (k = x)) := by
   simp only [Instr.sameNow, if_true]
   congr 1
   by_cases h : k = x
   ·subst h; simp
   ·rw [decide_eq_false h]
    have : ¬ (Int.ofNat k = Int.ofNat x) := fun e => h (Int.ofNat.inj e)
    simpa using this
  unfold keysV
  rw [List.map_cons, aFindNow, hs]
  by_cases h : k = x
  ·subst h
   rw [decide_eq_true rfl]
   exact ⟨fun hn => absurd (by simp) hn, fun _ => ⟨0, by simp, rfl, rfl⟩⟩
  ·rw [decide_eq_false h]
   refine ⟨fun hn => h1 (fun hm => hn (by simp [hm])), fun hm => ?_⟩
   obtain ⟨j, hj, hk, hf⟩ := h2 (by rcases List.mem_cons.1 hm with e | e; exact absurd e h; exact e)
   exact ⟨j + 1, by simpa using hj, by simpa using hk, by rw [show i + (j + 1) = i + 1 + j by omega]; exact hf⟩
theorem upd_keys {m : Mem} {r k : Nat} {ks : List Nat} (hr : Mem.get m r = .map true (keysV ks)) : aMapUpdate Tryd.prog m 94 (.map (some r)) (nv k) (.bool true) = some (m.setIfInBounds r (.map true (keysV (if k ∈ ks then ks else ks ++ [k])))) := by
 have hp : plainKey (.int .i64) = true := rfl
 obtain ⟨h1, h2⟩ := find_keys k ks 0
 by_cases h : k ∈ ks
 ·obtain ⟨j, hj, hk, hf⟩ := h2 h
  rw [if_pos h]
  simp only [aMapUpdate, T94, U3, hr, hp, if_true, hf, Nat.zero_add]
  congr 3
  congr 1
  unfold keysV
  apply List.ext_getElem?
  intro i
  rw [List.getElem?_set]
  split
  ·rename_i e; subst e
   rw [if_pos (by simpa using hj), List.getElem?_map, hk]; rfl
  ·rfl
 ·rw [if_neg h]
  simp only [aMapUpdate, T94, U3, hr, hp, if_true, h1 h]
  unfold keysV
  rw [List.map_append]; rfl
theorem look_keys {m : Mem} {r k : Nat} {b : Bool} {ks : List Nat} (hr : Mem.get m r = .map b (keysV ks)) : aLookup Tryd.prog m 94 (.map (some r)) (nv k) false = some (.bool (decide (k ∈ ks))) := by
 have hp : (plainKey (.int .i64) && flat (.bool false)) = true := rfl
 obtain ⟨h1, h2⟩ := find_keys k ks 0
 by_cases h : k ∈ ks
 ·obtain ⟨j, hj, hk, hf⟩ := h2 h
  rw [decide_eq_true h]
  simp only [aLookup, T94, U3, Z4, hr, hp, if_true, hf]
  rfl
 ·rw [decide_eq_false h]
  simp only [aLookup, T94, U3, Z4, hr, hp, if_true, h1 h]
  rfl
theorem len_keys {m : Mem} {r : Nat} {b : Bool} {ks : List Nat} {ρ : Operand → Value} {x : Operand} (hx : ρ x = .map (some r)) (hr : Mem.get m r = .map b (keysV ks)) : aRead Tryd.prog m ρ (.call ⟨.builtin .len, ⟨[x]⟩, ⟨[94]⟩⟩) = some (nv ks.length) := by
 simp only [aRead, T94, hx, hr]
 simp [keysV]
theorem spec_IndexX {m : Mem} {a : Value} {l : List Nat} {x : Nat} (ha : IntsAt m a (ofs l)) (hl : l.length < 1000000) : ∃ v m', ACalls Tryd.prog 73 #[a, nv x] m v m' ∧ (v = .int .i64 (idxP l x) ∧ m = m') := by
 obtain ⟨q, cap, rfl⟩ := ha.lenN
 refine wpF (args := [_, _]) mixed okf73 (fn := Tryd.f73) rfl rfl rfl (by simp) ?_
 refine cSR ?_
 refine sAn rfl ?_
 refine sN ?_
 refine cSeq (cSR ?_)
 refine sMs rfl ?_
 refine sLen T22 rfl ?_
 refine sMv (v := nv 0) rfl ?_
 refine sN ?_
 refine cBlock ?_
 refine wpC_loop (fun k ρ m' => ∃ i, k = l.length - i ∧ i ≤ l.length ∧ (∀ j, j < i → l[j]? ≠ some x) ∧ m = m' ∧ Has ρ [(0, .slice q l.length cap), (1, nv x), (7, nv l.length), (8, nv i)]) ⟨0, rfl, by omega, by omega, rfl, rfl, rfl, rfl, rfl, trivial⟩ ?_
 rintro k ρ _ ⟨i, rfl, hi, hr, rfl, hh⟩
 rw [hh.env]; clear hh
 refine cSR ?_
 refine sBin rfl rfl (aInt_lss) ?_
 refine sN ?_
 refine cSeq ?_
 refine cCond rfl (fun c0 => ?_) (fun c0 => ?_)
 ·
  obtain ⟨b1, o1, p1, r1, cc, e1, g1, x1⟩ := ha.atN (by omega)
  cases e1
  refine cSkip (kSeqN ?_)
  refine cSeq (cBlock (cSR ?_))
  refine sMn rfl ?_
  refine sAn rfl ?_
  refine sN ?_
  refine cSR ?_
  refine sMn rfl ?_
  refine sMs rfl ?_
  refine sMn rfl ?_
  refine sIx T22 S3 rfl rfl (by omega) ?_
  refine sLd (v := nv l[i]) A3 rfl g1 (x1 i l[i] (by simp)) ?_
  refine sBin (a := x) (b := l[i]) rfl rfl aInt_eql ?_
  refine sN ?_
  refine cCond rfl (fun c1 => ?_) (fun c1 => ?_)
  ·
   refine cSR ?_
   refine sMn rfl ?_
   refine sAn rfl ?_
   refine sN ?_
   refine cRet (kBlkR (kSeqR (kSeqR (kBlkR (kSeqR ?_)))))
   have hm : x ∈ l := by have := List.getElem_mem c0; rwa [← c1] at this
   refine ⟨.inr rfl, _, rfl, ?_, rfl⟩
   have : ixOf l x = i := ixOf_at hr (by rw [List.getElem?_eq_getElem c0, ← c1])
   show Value.int .i64 (Int.ofNat i) = _
   rw [idxP, if_pos hm, this]
  ·
   refine cSkip (kBlkN (kSeqN ?_))
   refine cRegion ?_
   refine sBin rfl rfl (aInt_add (b := 1) (by omega)) ?_
   refine sMn rfl ?_
   refine sN ?_
   refine ⟨_, ?_, i + 1, rfl, by omega, fun j hj e => ?_, rfl, rfl, rfl, rfl, rfl, trivial⟩
   ·omega
   ·by_cases h : j = i
    ·subst h
     rw [List.getElem?_eq_getElem c0] at e
     exact c1 (Option.some.inj e).symm
    ·exact hr j (by omega) e
 ·
  refine cExit (kSeqE (kSeqE (kBlkS (kSeqN ?_))))
  refine cSR ?_
  refine sAs (v := .int .i64 (-1)) rfl ?_
  refine sN ?_
  refine cRet ?_
  have hm : ¬ x ∈ l := fun h => by
   obtain ⟨j, hj, e⟩ := List.getElem_of_mem h
   exact hr j (by omega) (by rw [List.getElem?_eq_getElem hj, e])
  exact ⟨.inr rfl, _, rfl, by rw [idxP, if_neg hm]; rfl, rfl⟩
theorem okf16 : okF Tryd.prog H0 16 39 = true := by kernel_rfl
theorem spec_Wide {m : Mem} {a : Value} {p : List Int} (ha : IntsAt m a p) (hl : p.length < 1000000) : ∃ v m', ACalls Tryd.prog 16 #[a] m v m' ∧ (v = .tuple #[nv (wideN p), nv (wideE p)] ∧ Ext m m') := by
 obtain ⟨q, cap, rfl⟩ := ha.len
 refine wpF (args := [_]) mixed okf16 (fn := Tryd.f16) rfl rfl rfl (by simp) ?_
 refine cSR ?_
 refine sAn rfl ?_
 refine sAn rfl ?_
 refine sN ?_
 refine cSR ?_
 refine sBuildS (c := #[nv 2, nv 4, nv 8]) T22 S3 Z3 (by decide) (by decide) (by decide) (by kernel_rfl) (by kernel_rfl) rfl ?_
 refine sMs rfl ?_
 refine sLen T22 rfl ?_
 obtain ⟨v11, m11, h11, rfl, rfl⟩ := spec_IndexX (x := p.length) (B3_248 (m := m)) (by decide)
 refine sCall2 rfl call73 rfl rfl h11 ?_
 refine sBinI (v := nv (if p.length = 2 ∨ p.length = 4 ∨ p.length = 8 then lenN p.length else 0)) rfl rfl (by
  have := idx248 p.length
  rw [aInt_addI (b := 1) (by rw [this]; unfold lenN; split <;> (try split) <;> (try split) <;> simp)]
  rw [this]) ?_
 refine sAn rfl ?_
 refine sN ?_
 refine cSeq (cSR ?_)
 refine sMn rfl ?_
 refine sBin (a := if p.length = 2 ∨ p.length = 4 ∨ p.length = 8 then lenN p.length else 0) (b := 0) rfl rfl aInt_eql ?_
 refine sN ?_
 refine cCond rfl (fun c0 => ?_) (fun c0 => ?_)
 ·
  refine cSR ?_
  refine sAn rfl ?_
  refine sAs (v := nv 2) rfl ?_
  refine sN ?_
  refine cRet (kSeqR ?_)
  have hn : ¬ (p.length = 2 ∨ p.length = 4 ∨ p.length = 8) := fun h => by
   rw [if_pos h] at c0
   unfold lenN at c0
   split at c0 <;> (try split at c0) <;> cases c0
  exact ⟨.inr rfl, _, rfl, by rw [wideN, show wideE p = 2 by rw [wideE, if_neg hn]]; rfl, .push _ _⟩
 ·
  have hn : p.length = 2 ∨ p.length = 4 ∨ p.length = 8 := Decidable.byContradiction fun h => c0 (by rw [if_neg h])
  rw [if_pos hn]
  have ha1 := ha.ext (.push m (.cells true #[nv 2, nv 4, nv 8]))
  have hl8 : p.length ≤ 8 := by omega
  refine cSkip (kSeqN ?_)
  refine cSR ?_
  refine sMkMap ?_
  refine sAs (v := .map _) rfl ?_
  refine sN ?_
  refine cSeq (cSR ?_)
  refine sMs rfl ?_
  refine sLen T22 rfl ?_
  refine sMv (v := nv 0) rfl ?_
  refine sN ?_
  refine cBlock ?_
  refine wpC_loop (fun k ρ m' => ∃ i L, k = p.length - i ∧ i ≤ p.length ∧ p.take i = ofs L ∧ (∀ x ∈ L, x < p.length) ∧ Low (m.size + 1) (m.push (.cells true #[nv 2, nv 4, nv 8])) m' ∧ Mem.get m' (m.size + 1) = .map true (keysV (keysUp L)) ∧ Has ρ [(0, .slice q p.length cap), (4, nv (lenN p.length)), (5, .map (some (m.size + 1))), (16, .slice q p.length cap), (17, nv p.length), (18, nv i)]) ⟨0, [], rfl, by omega, rfl, by simp, .push _ (by simp) _, gP (by simp), rfl, rfl, by show Value.map (some (Array.size (m.push _))) = _; simp, rfl, rfl, rfl, trivial⟩ ?_
  rintro k ρ m' ⟨i, L, rfl, hi, hpL, hLl, hLo, g5, hh⟩
  rw [hh.env]; clear hh
  have hE : Ext m m' := Low.to_ext (.push _ _) hLo (by omega)
  refine cSR ?_
  refine sBin rfl rfl (aInt_lss) ?_
  refine sN ?_
  refine cSeq ?_
  refine cCond rfl (fun c1 => ?_) (fun c1 => ?_)
  ·
   obtain ⟨b1, o1, p1, r1, cc, e1, g1, x1⟩ := (ha.ext hE).at (by omega)
   cases e1
   obtain ⟨x, hx⟩ : ∃ x, p[i]? = some x := ⟨_, List.getElem?_eq_getElem c1⟩
   refine cSkip (kSeqN ?_)
   refine cSeq (cBlock (cSR ?_))
   refine sIx T22 S3 rfl rfl (by omega) ?_
   refine sLd (v := .int .i64 x) A3 rfl g1 (x1 i x hx) ?_
   refine sAs (v := .int .i64 x) rfl ?_
   refine sN ?_
   refine cSeq (cSR ?_)
   refine sMv (v := .int .i64 x) rfl ?_
   refine sBinI (v := .bool (decide (x < 0))) rfl rfl aInt_lssI ?_
   refine sMb rfl ?_
   by_cases h1 : x < 0
   ·
    rw [decide_eq_true h1]
    refine sGT rfl rfl ?_
    refine sGT rfl rfl ?_
    refine sGT rfl rfl ?_
    refine sGT rfl rfl ?_
    refine sPb rfl ?_
    refine sN ?_
    refine cCondT rfl ?_
    refine cSR ?_
    refine sAn rfl ?_
    refine sAs (v := nv 3) rfl ?_
    refine sN ?_
    refine cRet (kSeqR (kBlkR (kSeqR (kSeqR (kBlkR (kSeqR ?_))))))
    have hex : ∃ x ∈ p, x < 0 ∨ Int.ofNat p.length ≤ x := ⟨x, List.mem_of_getElem? hx, .inl h1⟩
    exact ⟨.inr rfl, _, rfl, by rw [wideN, show wideE p = 3 by rw [wideE, if_pos hn, if_pos hex]]; rfl, hE⟩
   ·
    rw [decide_eq_false h1]
    refine sG rfl rfl ?_
    refine sMv (v := .int .i64 x) rfl ?_
    refine sG rfl rfl ?_
    refine sMs rfl ?_
    refine sG rfl rfl ?_
    refine sLen T22 rfl ?_
    refine sG rfl rfl ?_
    refine sBinI (b := Int.ofNat p.length) (v := .bool (decide (Int.ofNat p.length ≤ x))) rfl rfl aInt_geqI ?_
    refine sPb rfl ?_
    refine sN ?_
    refine cCond (p := Int.ofNat p.length ≤ x) rfl (fun c3 => ?_) (fun c3 => ?_)
    ·
     refine cSR ?_
     refine sAn rfl ?_
     refine sAs (v := nv 3) rfl ?_
     refine sN ?_
     refine cRet (kSeqR (kBlkR (kSeqR (kSeqR (kBlkR (kSeqR ?_))))))
     have hex : ∃ x ∈ p, x < 0 ∨ Int.ofNat p.length ≤ x := ⟨x, List.mem_of_getElem? hx, .inr c3⟩
     exact ⟨.inr rfl, _, rfl, by rw [wideN, show wideE p = 3 by rw [wideE, if_pos hn, if_pos hex]]; rfl, hE⟩
    ·
     obtain ⟨y, rfl⟩ : ∃ y : Nat, x = Int.ofNat y := ⟨x.toNat, by simp; omega⟩
     have hyl : y < p.length := by have : ¬ ((p.length : Int) ≤ (y : Int)) := c3; omega
     refine cSkip (kSeqN ?_)
     refine cRegion ?_
     refine sMv (v := .map _) rfl ?_
     refine sMv (v := nv y) rfl ?_
     have hup := upd_keys (k := y) g5
     rw [← keysUp_append] at hup
     refine sO (v := Go.undef) (m' := m'.setIfInBounds (m.size + 1) (.map true (keysV (keysUp (L ++ [y]))))) (opF_eff rfl rfl (congrArg (Option.map fun m' => (Go.undef, m')) hup)) ?_
     refine sNil (kBlkN (kSeqN ?_))
     refine cRegion ?_
     refine sBin rfl rfl (aInt_add (b := 1) (by omega)) ?_
     refine sMn rfl ?_
     refine sN ?_
     refine ⟨_, ?_, i + 1, L ++ [y], rfl, by omega, ?_, fun z hz => ?_, hLo.trans (.set (Nat.le_refl _) _), gS rfl (Mem.lt_of_live (by rw [g5]; rfl)), rfl, rfl, rfl, rfl, rfl, rfl, trivial⟩
     ·omega
     ·rw [List.take_add_one, hx, hpL, ofs_append]; rfl
     ·rw [List.mem_append] at hz
      rcases hz with hz | hz
      ·exact hLl z hz
      ·simp at hz; omega
  ·
   obtain rfl : i = p.length := by omega
   rw [List.take_length] at hpL
   obtain ⟨s1, s2, s3⟩ := keysUp_spec L
   have hLp : L.length = p.length := by rw [hpL, ofs_length]
   have hnex : ¬ ∃ x ∈ p, x < 0 ∨ Int.ofNat p.length ≤ x := by
    rintro ⟨x, hx, h⟩
    rw [hpL] at hx
    unfold ofs at hx
    rw [List.mem_map] at hx
    obtain ⟨y, hy, rfl⟩ := hx
    have := hLl y hy
    rcases h with h | h
    ·have h' : (y : Int) < 0 := h; omega
    ·have h' : (p.length : Int) ≤ (y : Int) := h; omega
   have hnd : p.Nodup ↔ (keysUp L).length = p.length := by rw [← hLp, s3]; rw [hpL]; exact nodup_ofs
   refine cExit (kSeqE (kSeqE (kBlkS (kSeqN ?_))))
   refine cSeq (cSR ?_)
   refine sMv (v := .map _) rfl ?_
   refine sO (v := nv (keysUp L).length) (opF_read (by simp only [aPure, aLen, T94]; rfl) (len_keys rfl g5)) ?_
   refine sMs rfl ?_
   refine sLen T22 rfl ?_
   refine sBin (a := (keysUp L).length) (b := p.length) rfl rfl aInt_lss ?_
   refine sN ?_
   refine cCond rfl (fun c4 => ?_) (fun c4 => ?_)
   ·
    refine cSR ?_
    refine sAn rfl ?_
    refine sAs (v := nv 5) rfl ?_
    refine sN ?_
    refine cRet (kSeqR ?_)
    refine ⟨.inr rfl, _, rfl, ?_, hE⟩
    have h5 : wideE p = 5 := by rw [wideE, if_pos hn, if_neg hnex, if_neg (fun h => by have := hnd.1 h; omega)]
    rw [wideN, h5]; rfl
   ·
    refine cSkip (kSeqN ?_)
    refine cSR ?_
    refine sMn rfl ?_
    refine sAn rfl ?_
    refine sAn rfl ?_
    refine sN ?_
    refine cRet ?_
    refine ⟨.inr rfl, _, rfl, ?_, hE⟩
    have h0 : wideE p = 0 := by rw [wideE, if_pos hn, if_neg hnex, if_pos (hnd.2 (by omega))]
    rw [wideN, h0]; rfl
end Go.AM

/-! R14 -/
namespace Go.AM
open Go.Proofs
def rtabM (n : Nat) (Gs : List (Nat × List Nat)) : List Nat := (List.range (2 ^ n)).map (runM Gs)
theorem pow10 {n : Nat} (h : n ≤ 12) : 2 ^ n ≤ 4096 := Nat.le_trans (Nat.pow_le_pow_right (by decide) h) (by decide)
end Go.AM

/-! R15 -/
namespace Go.AM
open Go.Proofs
def cycW (p : List Nat) : Nat → List Nat → List Nat → Nat → List Nat × List Nat
  | 0, met, l, _ => (met, l)
  | f + 1, met, l, x => if x ∈ met then (met, l) else cycW p f (met ++ [x]) (l ++ [x]) (p.getD x 0)
def cycUp (p : List Nat) : Nat → List Nat × List (List Nat)
  | 0 => ([], [])
  | i + 1 => ((cycW p (p.length + 1) (cycUp p i).1 [] i).1, if 1 < (cycW p (p.length + 1) (cycUp p i).1 [] i).2.length then (cycUp p i).2 ++ [(cycW p (p.length + 1) (cycUp p i).1 [] i).2] else (cycUp p i).2)
def cyclesP (p : List Int) : List (List Nat) := if wideE p = 0 then (cycUp (nats p) p.length).2 else []
def evenP (p : List Int) : Bool := if wideE p = 0 then (cyclesP p).foldl (fun e c => e != decide (c.length % 2 = 0)) true else false
theorem wide_nat {p : List Int} (h : wideE p = 0) : ∃ L : List Nat, p = ofs L ∧ (∀ x ∈ L, x < L.length) ∧ L.Nodup ∧ (L.length = 2 ∨ L.length = 4 ∨ L.length = 8) := by
 unfold wideE at h
 split at h
 ·rename_i hl
  split at h
  ·cases h
  ·rename_i hn
   split at h
   ·rename_i hnd
    have h0 : ∀ x ∈ p, 0 ≤ x ∧ x < Int.ofNat p.length := fun x hx => by
     constructor
     ·rcases (show x < 0 ∨ 0 ≤ x by omega) with h | h
      ·exact absurd ⟨x, hx, .inl h⟩ hn
      ·exact h
     ·rcases (show x < Int.ofNat p.length ∨ Int.ofNat p.length ≤ x by omega) with h | h
      ·exact h
      ·exact absurd ⟨x, hx, .inr h⟩ hn
    have hp : p = ofs (nats p) := by
     unfold ofs nats
     rw [List.map_map]
     conv => lhs; rw [← List.map_id p]
     apply List.map_congr_left
     intro x hx
     have := (h0 x hx).1
     show x = Int.ofNat x.toNat
     simp; omega
    have hlen : (nats p).length = p.length := by simp [nats]
    refine ⟨nats p, hp, fun x hx => ?_, ?_, by rw [hlen]; exact hl⟩
    ·unfold nats at hx
     rw [List.mem_map] at hx
     obtain ⟨y, hy, rfl⟩ := hx
     have h1 := h0 y hy
     have h2 : y < (p.length : Int) := h1.2
     rw [hlen]; omega
    ·rw [hp] at hnd; exact nodup_ofs.1 hnd
   ·cases h
 ·cases h
theorem cycUp_len {p : List Nat} : ∀ i, (cycUp p i).2.length ≤ i
 | 0 => Nat.le_refl _
 | i + 1 => by
  have := cycUp_len (p := p) i
  simp only [cycUp]
  split
  ·simp; omega
  ·omega
theorem cyclesP_len (p : List Int) : (cyclesP p).length ≤ p.length := by
 unfold cyclesP
 split
 ·exact cycUp_len _
 ·simp
theorem ofs2_append (G : List (List Nat)) (l : List Nat) : ofs2 (G ++ [l]) = ofs2 G ++ [ofs l] := by simp [ofs2]
theorem neqBool (q r : Bool) : aBin Tryd.prog .neq 4 (.bool q) (.bool r) = some (.bool (q != r)) := by
 cases q <;> cases r <;> kernel_rfl
theorem sNeB {ρ : Env} {m : Mem} {K : Env → Mem → Prop} {ops : Array Oper} {l : List Oper} {d : Option Nat} {ty : TypeId} {pos : String} {af : Array Edge} {x y : Operand} {q r : Bool} {tz : TypeId} (hx : evR ρ x = .bool q) (hy : evR ρ y = .bool r)
  (hk : wpOps Tryd.prog ops K l (updO ρ d (.bool (q != r))) m) : wpOps Tryd.prog ops K (⟨d, .binOp .neq 4 x y tz, ty, pos, af, none⟩ :: l) ρ m := by
 refine sP (v := .bool (q != r)) ?_ hk
 simp only [aPure, hx, hy, neqBool]
theorem okf21 : okF Tryd.prog H0 21 49 = true := by kernel_rfl
theorem spec_Cycles {m : Mem} {a : Value} {p : List Int} (ha : IntsAt m a p) (hl : p.length < 1000000) : ∃ v m', ACalls Tryd.prog 21 #[a] m v m' ∧ (∃ w cs, v = .tuple #[w, nv (wideE p)] ∧ OwnR m.size m' w cs (ofs2 (cyclesP p)) ∧ Ext m m') := by
 obtain ⟨q, cap, rfl⟩ := ha.len
 refine wpF (args := [_]) mixed okf21 (fn := Tryd.f21) rfl rfl rfl (by simp) ?_
 refine cSR ?_
 refine sAs (v := .slice _ _ _) rfl ?_
 refine sAn rfl ?_
 refine sN ?_
 refine cSeq (cSR ?_)
 refine sMs rfl ?_
 obtain ⟨v13, m13, h13, rfl, e13⟩ := spec_Wide ha hl
 refine sCall1 rfl call16 rfl h13 ?_
 refine sMv (v := .tuple _) rfl ?_
 refine sP (v := nv _) rfl ?_
 refine sP (v := nv _) rfl ?_
 refine sAn rfl ?_
 refine sAn rfl ?_
 refine sN ?_
 refine cSR ?_
 refine sMn rfl ?_
 refine sBin (a := wideE p) (b := 0) rfl rfl aInt_neq ?_
 refine sN ?_
 refine cCond rfl (fun c0 => ?_) (fun c0 => ?_)
 ·
  refine cSR ?_
  refine sMn rfl ?_
  refine sAs (v := .slice _ _ _) rfl ?_
  refine sAn rfl ?_
  refine sN ?_
  refine cRet (kSeqR ?_)
  exact ⟨.inr rfl, _, rfl, _, #[], rfl, by rw [cyclesP, if_neg c0]; exact .nil _ _, e13⟩
 ·
  have h0 := Decidable.not_not.1 c0
  obtain ⟨L, rfl, hLl, hnd, hL8⟩ := wide_nat h0
  rw [cyclesP, if_pos h0, nats_ofs, h0]
  rw [ofs_length] at *
  have z13 := e13.1
  refine cSkip (kSeqN ?_)
  refine cSR ?_
  refine sAs (v := .slice _ _ _) rfl ?_
  refine sN ?_
  refine cSR ?_
  refine sMkMap ?_
  refine sAs (v := .map _) rfl ?_
  refine sN ?_
  refine cSeq (cSR ?_)
  refine sMs rfl ?_
  refine sLen T22 rfl ?_
  refine sMv (v := nv 0) rfl ?_
  refine sN ?_
  refine cBlock ?_
  refine wpC_loop (fun k ρ m' => ∃ i v cs, k = L.length - i ∧ i ≤ L.length ∧ Ext m m' ∧ m13.size < m'.size ∧ Mem.get m' m13.size = .map true (keysV (cycUp L i).1) ∧ (cycUp L i).1.Nodup ∧ (∀ x ∈ (cycUp L i).1, x < L.length) ∧ OwnR (m13.size + 1) m' v cs (ofs2 (cycUp L i).2) ∧ Has ρ [(0, .slice q L.length cap), (6, v), (7, .map (some m13.size)), (20, .slice q L.length cap), (21, nv L.length), (22, nv i)]) ⟨0, _, #[], rfl, Nat.zero_le _, e13.trans (.push _ _), by simp, gP rfl, by simp [cycUp], by simp [cycUp], .nil _ _, rfl, rfl, rfl, rfl, rfl, rfl, trivial⟩ ?_
  rintro k ρ m' ⟨i, v, cs, rfl, hi, hE, hz, gm, hmn, hml, hO, hh⟩
  obtain ⟨qv, cv, rfl⟩ := hO.1.len
  rw [hh.env]; clear hh
  rw [ofs2_length] at *
  refine cSR ?_
  refine sBin rfl rfl (aInt_lss) ?_
  refine sN ?_
  refine cSeq ?_
  refine cCond rfl (fun c1 => ?_) (fun c1 => ?_)
  ·
   refine cSkip (kSeqN ?_)
   refine cSeq (cBlock (cSR ?_))
   refine sMn rfl ?_
   refine sAn rfl ?_
   refine sN ?_
   refine cSR ?_
   refine sAs (v := .slice _ _ _) rfl ?_
   refine sN ?_
   refine cSeq (cSR ?_)
   refine sMn rfl ?_
   refine sAn rfl ?_
   refine sN ?_
   refine cBlock ?_
   refine wpC_loop (fun k' ρ m2 => ∃ met l vl x f, k' = L.length - met.length ∧ met.Nodup ∧ (∀ y ∈ met, y < L.length) ∧ x < L.length ∧ L.length < f + met.length ∧ cycW L f met l x = cycW L (L.length + 1) (cycUp L i).1 [] i ∧ l.length ≤ L.length + 1 ∧ l.length ≤ met.length ∧ Ext m m2 ∧ m'.size ≤ m2.size ∧ (∀ b, b < m'.size → b ≠ m13.size → Mem.get m2 b = Mem.get m' b) ∧ Mem.get m2 m13.size = .map true (keysV met) ∧ OwnF m'.size m2 vl (ofs l) ∧ Has ρ [(0, .slice q L.length cap), (6, .slice qv (cycUp L i).2.length cv), (7, .map (some m13.size)), (9, vl), (10, nv x), (20, .slice q L.length cap), (21, nv L.length), (22, nv i)]) ⟨(cycUp L i).1, [], _, i, L.length + 1, rfl, hmn, hml, c1, by omega, rfl, by simp, by simp, hE, Nat.le_refl _, fun _ _ _ => rfl, gm, .nil _ _, rfl, rfl, rfl, rfl, rfl, rfl, rfl, rfl, trivial⟩ ?_
   rintro k' ρ m2 ⟨met, l, vl, x, f, rfl, hn2, hl2, hx, hf, hcy, hll, hlm, hE2, hz2, hk2, gm2, hvl, hh⟩
   obtain ⟨qw, cw, rfl⟩ := hvl.ints.lenN
   rw [hh.env]; clear hh
   have hmle := nodup_le hn2 hl2
   refine cSeq (cSR ?_)
   refine sMv (v := .map _) rfl ?_
   refine sMn rfl ?_
   refine sO (v := .bool (decide (x ∈ met))) (opF_read rfl (look_keys gm2)) ?_
   refine sP (v := .bool (decide (¬ x ∈ met))) (by
    show some (Value.bool (!decide (x ∈ met))) = _
    rw [decide_not]) ?_
   refine sN ?_
   refine cCond (p := ¬ x ∈ met) rfl (fun c2 => ?_) (fun c2 => ?_)
   ·
    have hmlt : met.length < L.length := by
     have := nodup_le (l := met ++ [x]) (n := L.length) (by
      rw [List.nodup_append]
      exact ⟨hn2, by simp, fun y hy z hz e => by simp at hz; subst hz; subst e; exact c2 hy⟩) (fun y hy => by
      rw [List.mem_append] at hy
      rcases hy with hy | hy
      ·exact hl2 y hy
      ·simp at hy; omega)
     simp at this; omega
    refine cSkip (kSeqN ?_)
    refine cSeq (cBlock (cSR ?_))
    refine sMv (v := .map _) rfl ?_
    refine sMn rfl ?_
    have hup := upd_keys (k := x) gm2
    rw [if_neg c2] at hup
    refine sO (v := Go.undef) (m' := m2.setIfInBounds m13.size (.map true (keysV (met ++ [x])))) (opF_eff rfl rfl (congrArg (Option.map fun m' => (Go.undef, m')) hup)) ?_
    have gm3 : Mem.get (m2.setIfInBounds m13.size (.map true (keysV (met ++ [x])))) m13.size = .map true (keysV (met ++ [x])) := gS rfl (by omega)
    have hvl3 : OwnF m'.size (m2.setIfInBounds m13.size (.map true (keysV (met ++ [x])))) (.slice qw l.length cw) (ofs l) := hvl.up fun b hb _ => gSn (by omega)
    have hE3 : Ext m (m2.setIfInBounds m13.size (.map true (keysV (met ++ [x])))) := hE2.set (by omega) _
    have hk3 : ∀ b, b < m'.size → b ≠ m13.size → Mem.get (m2.setIfInBounds m13.size (.map true (keysV (met ++ [x])))) b = Mem.get m' b := fun b h1 h2 => (gSn (fun e => h2 e.symm)).trans (hk2 b h1 h2)
    have hz3 : (m2.setIfInBounds m13.size (.map true (keysV (met ++ [x])))).size = m2.size := by simp
    generalize m2.setIfInBounds m13.size (.map true (keysV (met ++ [x]))) = m3 at *
    refine sN ?_
    refine cRegion ?_
    refine sMs rfl ?_
    refine sMn rfl ?_
    refine sBuildS T22 S3 Z3 (by decide) (by decide) (by decide) (by kernel_rfl) fill1 rfl ?_
    refine sApp App22 rfl rfl (N := m'.size) (hvl3.ext (.push _ _)) one_ints (by simp; omega) (by rw [ofs_length]; simp; omega) fun v4 m4 hO4 hL4 => ?_
    rw [show ofs l ++ [Int.ofNat x] = ofs (l ++ [x]) by rw [ofs_append]; rfl] at hO4
    obtain ⟨q4, c4, rfl⟩ := hO4.ints.lenN
    have hz4 := hL4.1
    simp only [Array.size_push] at hz4
    have hlo4 : ∀ b, b < m'.size → Mem.get m4 b = Mem.get m3 b := fun b hb => by rw [hL4.2 b hb, gPn (by omega)]
    have hE4 : Ext m m4 := ⟨by omega, fun b hb => by have := hE.1; rw [hlo4 b (by omega)]; exact hE3.2 b hb⟩
    obtain ⟨b5, o5, p5, r5, cc5, e5, g5, x5⟩ := (ha.ext hE4).atN (by omega)
    cases e5
    refine sAs (v := .slice _ _ _) rfl ?_
    refine sNil (kBlkN (kSeqN ?_))
    refine cRegion ?_
    refine sMs rfl ?_
    refine sMn rfl ?_
    refine sIx T22 S3 rfl rfl (by omega) ?_
    refine sLd (v := nv L[x]) A3 rfl g5 (x5 x L[x] (by simp)) ?_
    refine sAn rfl ?_
    refine sN ?_
    refine ⟨_, ?_, met ++ [x], l ++ [x], _, L[x], f - 1, rfl, ?_, fun y hy => ?_, hLl _ (List.getElem_mem _), ?_, ?_, ?_, ?_, hE4, by omega, fun b h1 h2 => (hlo4 b h1).trans (hk3 b h1 h2), (hlo4 _ hz).trans gm3, hO4, rfl, rfl, rfl, rfl, rfl, rfl, rfl, rfl, trivial⟩
    ·simp; omega
    ·rw [List.nodup_append]
     exact ⟨hn2, by simp, fun y hy z hz e => by simp at hz; subst hz; subst e; exact c2 hy⟩
    ·rw [List.mem_append] at hy
     rcases hy with hy | hy
     ·exact hl2 y hy
     ·simp at hy; omega
    ·simp; omega
    ·rw [← hcy]
     obtain ⟨f', rfl⟩ : ∃ f', f = f' + 1 := ⟨f - 1, by omega⟩
     rw [show f' + 1 - 1 = f' by omega, cycW, if_neg c2]
     congr 1
     rw [List.getD_eq_getElem?_getD, List.getElem?_eq_getElem hx]; rfl
    ·simp; omega
    ·simp; omega
   ·
    have hxm : x ∈ met := Decidable.not_not.1 c2
    have hres : cycW L (L.length + 1) (cycUp L i).1 [] i = (met, l) := by
     rw [← hcy]
     obtain ⟨f', rfl⟩ : ∃ f', f = f' + 1 := ⟨f - 1, by omega⟩
     rw [cycW, if_pos hxm]
    have hO2 : OwnR (m13.size + 1) m2 (.slice qv (cycUp L i).2.length cv) cs (ofs2 (cycUp L i).2) := by
     refine ⟨?_, fun j g hj => ?_⟩
     ·exact hO.1.up fun b h1 h2 => hk2 b h2 (by omega)
     ·obtain ⟨s, a1, a2, a3⟩ := hO.2 j g hj
      exact ⟨s, a1, a2.up fun b h1 h2 => hk2 b h2 (by omega), a3⟩
    have hcl := cycUp_len (p := L) i
    refine cExit (kSeqE (kSeqE (kBlkS (kSeqN ?_))))
    refine cSR ?_
    refine sMs rfl ?_
    refine sLen T22 rfl ?_
    refine sBin (a := l.length) (b := 1) rfl rfl aInt_gtr ?_
    refine sN ?_
    refine cCond (p := 1 < l.length) rfl (fun c3 => ?_) (fun c3 => ?_)
    ·
     refine cRegion ?_
     refine sMs rfl ?_
     refine sMs rfl ?_
     refine sBuildS T34 S22 Z22 (by decide) (by decide) (by decide) (by kernel_rfl) fillV rfl ?_
     refine sAppC El22 rfl rfl (N := m13.size + 1) (n := (cycUp L i).2.length) (cs := cs) (d := #[.slice qw l.length cw]) (by have := (hO2.1).ext (.push m2 (.cells true #[.slice qw l.length cw])); rw [ofs2_length] at this; exact this) (gP rfl) rfl (by kernel_rfl) (by simp; omega) (by omega) fun v' m4 hO4 hL4 hG4 => ?_
     have hgr := (show OwnR (m13.size + 1) (m2.push (.cells true #[.slice qw l.length cw])) (.slice qv (cycUp L i).2.length cv) cs (ofs2 (cycUp L i).2) from ⟨hO2.1.ext (.push _ _), fun j g hj => by obtain ⟨s, a1, a2, a3⟩ := hO2.2 j g hj; exact ⟨s, a1, a2.ext (.push _ _), a3⟩⟩).grew ((hvl.mono (by omega)).ext (.push _ _)) (fun b hb e => by
      have h1 := (hvl.lt hb).1
      have h2 := (hO.1.lt e).2
      omega) hG4 (by rw [ofs2_length]; exact hO4)
     obtain ⟨q4, c4, rfl⟩ := hO4.len
     have hz4 := hL4.1
     simp only [Array.size_push] at hz4
     refine sAs (v := .slice _ _ _) rfl ?_
     refine sNil (kBlkN (kSeqN ?_))
     refine cRegion ?_
     refine sBin rfl rfl (aInt_add (b := 1) (by omega)) ?_
     refine sMn rfl ?_
     refine sN ?_
     refine ⟨_, ?_, i + 1, .slice q4 ((cycUp L i).2.length + 1) c4, cs ++ #[.slice qw l.length cw], rfl, by omega, ?_, by omega, ?_, ?_, ?_, ?_, rfl, rfl, rfl, rfl, rfl, rfl, trivial⟩
     ·omega
     ·exact ⟨by have := hE2.1; omega, fun b hb => by rw [hL4.2 b (by omega), gPn (by have := hE2.1; omega)]; exact hE2.2 b hb⟩
     ·rw [hL4.2 _ (by omega), gPn (by omega), gm2]; simp only [cycUp, hres]
     ·simp only [cycUp, hres]; exact hn2
     ·simp only [cycUp, hres]; exact hl2
     ·simp only [cycUp, hres, if_pos c3, ofs2_append]; exact hgr
    ·
     refine cSkip (kBlkN (kSeqN ?_))
     refine cRegion ?_
     refine sBin rfl rfl (aInt_add (b := 1) (by omega)) ?_
     refine sMn rfl ?_
     refine sN ?_
     refine ⟨_, ?_, i + 1, .slice qv (cycUp L i).2.length cv, cs, rfl, by omega, hE2, by omega, ?_, ?_, ?_, ?_, rfl, rfl, rfl, rfl, rfl, rfl, trivial⟩
     ·omega
     ·rw [gm2]; simp only [cycUp, hres]
     ·simp only [cycUp, hres]; exact hn2
     ·simp only [cycUp, hres]; exact hl2
     ·simp only [cycUp, hres, if_neg c3]; exact hO2
  ·
   obtain rfl : i = L.length := by omega
   refine cExit (kSeqE (kSeqE (kBlkS (kSeqN ?_))))
   refine cSR ?_
   refine sMs rfl ?_
   refine sAs (v := .slice _ _ _) rfl ?_
   refine sAn rfl ?_
   refine sN ?_
   refine cRet ?_
   exact ⟨.inr rfl, _, rfl, _, cs, rfl, ⟨hO.1.mono (by omega), fun j g hj => by obtain ⟨s, a1, a2, a3⟩ := hO.2 j g hj; exact ⟨s, a1, a2.mono (by omega), a3⟩⟩, hE⟩
theorem okf23 : okF Tryd.prog H0 23 31 = true := by kernel_rfl
theorem spec_Even {m : Mem} {a : Value} {p : List Int} (ha : IntsAt m a p) (hl : p.length < 1000000) : ∃ v m', ACalls Tryd.prog 23 #[a] m v m' ∧ (v = .tuple #[.bool (evenP p), nv (wideE p)] ∧ Ext m m') := by
 obtain ⟨q, cap, rfl⟩ := ha.len
 refine wpF (args := [_]) mixed okf23 (fn := Tryd.f23) rfl rfl rfl (by simp) ?_
 refine cSR ?_
 refine sAb rfl ?_
 refine sAn rfl ?_
 refine sN ?_
 refine cSR ?_
 refine sMs rfl ?_
 obtain ⟨v11, m11, h11, w11, cs11, rfl, o11, e11⟩ := spec_Cycles ha hl
 refine sCall1 rfl call21 rfl h11 ?_
 have r11 := o11.rows
 obtain ⟨q11, c11, rfl⟩ := r11.len
 refine sMv (v := .tuple _) rfl ?_
 refine sP (v := .slice _ _ _) rfl ?_
 refine sP (v := nv _) rfl ?_
 refine sAs (v := .slice _ _ _) rfl ?_
 refine sAn rfl ?_
 refine sN ?_
 refine cSeq (cSR ?_)
 refine sMn rfl ?_
 refine sBin (a := wideE p) (b := 0) rfl rfl aInt_neq ?_
 refine sN ?_
 refine cCond rfl (fun c0 => ?_) (fun c0 => ?_)
 ·
  refine cSR ?_
  refine sMn rfl ?_
  refine sAb rfl ?_
  refine sAn rfl ?_
  refine sN ?_
  refine cRet (kSeqR ?_)
  exact ⟨.inr rfl, _, rfl, by rw [evenP, if_neg c0]; rfl, e11⟩
 ·
  have h0 := Decidable.not_not.1 c0
  rw [evenP, if_pos h0, h0]
  rw [ofs2_length] at *
  refine cSkip (kSeqN ?_)
  refine cSR ?_
  refine sAb rfl ?_
  refine sN ?_
  refine cSeq (cSR ?_)
  refine sMs rfl ?_
  refine sLen T34 rfl ?_
  have hcl := cyclesP_len p
  refine sMv (v := nv 0) rfl ?_
  refine sN ?_
  refine cBlock ?_
  refine wpC_loop (fun k ρ m' => ∃ i, k = (cyclesP p).length - i ∧ i ≤ (cyclesP p).length ∧ m11 = m' ∧ Has ρ [(6, .bool (((cyclesP p).take i).foldl (fun e c => e != decide (c.length % 2 = 0)) true)), (17, .slice q11 (cyclesP p).length c11), (18, nv (cyclesP p).length), (19, nv i)]) ⟨0, rfl, Nat.zero_le _, rfl, rfl, rfl, rfl, rfl, trivial⟩ ?_
  rintro k ρ _ ⟨i, rfl, hi, rfl, hh⟩
  rw [hh.env]; clear hh
  refine cSR ?_
  refine sBin rfl rfl (aInt_lss) ?_
  refine sN ?_
  refine cSeq ?_
  refine cCond rfl (fun c1 => ?_) (fun c1 => ?_)
  ·
   obtain ⟨b2, o2, p2, r2, cd, e2, g2, x2⟩ := r11.at (by rw [ofs2_length]; omega)
   rw [ofs2_length] at e2
   cases e2
   obtain ⟨c, hc⟩ : ∃ c, (cyclesP p)[i]? = some c := ⟨_, List.getElem?_eq_getElem c1⟩
   obtain ⟨s1, hs1, ha1⟩ := x2 i _ (ofs2_get hc)
   obtain ⟨qs, csz, rfl⟩ := ha1.lenN
   refine cSkip (kSeqN ?_)
   refine cSeq (cBlock (cSR ?_))
   refine sIx T34 S22 rfl rfl (by omega) ?_
   refine sLd (v := .slice qs c.length csz) A22 rfl g2 hs1 ?_
   refine sAs (v := .slice _ _ _) rfl ?_
   refine sN ?_
   refine cRegion ?_
   refine sMb rfl ?_
   refine sMs rfl ?_
   refine sLen T22 rfl ?_
   refine sBin (a := c.length) (b := 2) rfl rfl (aInt_rem (by decide)) ?_
   refine sBin (a := c.length % 2) (b := 0) rfl rfl aInt_eql ?_
   refine sNeB rfl rfl ?_
   refine sAb rfl ?_
   refine sNil (kBlkN (kSeqN ?_))
   refine cRegion ?_
   refine sBin rfl rfl (aInt_add (b := 1) (by omega)) ?_
   refine sMn rfl ?_
   refine sN ?_
   refine ⟨_, ?_, i + 1, rfl, by omega, rfl, ?_, rfl, rfl, rfl, trivial⟩
   ·omega
   ·rw [List.take_add_one, hc, List.foldl_append]; rfl
  ·
   obtain rfl : i = (cyclesP p).length := by omega
   rw [List.take_length]
   refine cExit (kSeqE (kSeqE (kBlkS (kSeqN ?_))))
   refine cSR ?_
   refine sMb rfl ?_
   refine sAb rfl ?_
   refine sAn rfl ?_
   refine sN ?_
   refine cRet ?_
   exact ⟨.inr rfl, _, rfl, rfl, e11⟩
end Go.AM

/-! N3 -/
namespace Go.AM
open Go.Proofs
abbrev Work := List Nat × List (Nat × List Nat)
def doL (w F : List Nat) : List Nat := F.map fun x => turnM x w
def turnG (k : Nat) (cs : List Nat) : Nat × List Nat := (kindM cs.length, cs ++ [k])
def doW (g : Nat × List Nat) (s : Work) : Work := (doL g.2 s.1, s.2 ++ [g])
def zerW (s : Work) (ks : List Nat) : Work := ks.foldl (fun s k => doW (turnG k []) s) s
def upGate (i a : Nat) : Nat × List Nat := turnG ((wiresM (offM i a)).headD 0) (wiresM a)
def dnGate (i a : Nat) : Nat × List Nat := turnG ((wiresM (offM a i)).headD 0) (wiresM i)
def upW (i : Nat) : Nat → Work → Work
  | 0, s => s
  | f + 1, s => if s.1.getD i 0 &&& i = i then s else upW i f (doW (upGate i (s.1.getD i 0)) s)
def dnW (i : Nat) : Nat → Work → Work
  | 0, s => s
  | f + 1, s => if s.1.getD i 0 = i then s else dnW i f (doW (dnGate i (s.1.getD i 0)) s)
def cirW (p : List Nat) : Nat → Work
  | 0 => zerW (p, []) (wiresM (p.getD 0 0))
  | i + 1 => dnW (i + 1) 3 (upW (i + 1) 3 (cirW p i))
def circP (p : List Int) : List (Nat × List Nat) := if wideE p = 0 then (cirW (nats p) (p.length - 1)).2.reverse else []
set_option synthInstance.maxSize 2000 in
set_option synthInstance.maxHeartbeats 400000 in
theorem up_facts : ∀ n < 4, ∀ a < 2 ^ n, ∀ i < 2 ^ n, ¬ a &&& i = i →
    (wiresM (offM i a)).length ≠ 0 ∧ (wiresM a).length ≤ 2 ∧ (∀ y ∈ (upGate i a).2, y < n) ∧ (wiresM (offM i (turnM a (upGate i a).2))).length < (wiresM (offM i a)).length ∧ (∀ x < 2 ^ n, turnM (turnM x (upGate i a).2) (upGate i a).2 = x) ∧ (i ≤ a → ∀ j < i, turnM j (upGate i a).2 = j) := by decide +kernel
set_option synthInstance.maxSize 2000 in
set_option synthInstance.maxHeartbeats 400000 in
theorem dn_facts : ∀ n < 4, ∀ a < 2 ^ n, ∀ i < 2 ^ n, a &&& i = i → ¬ a = i →
    (wiresM (offM a i)).length ≠ 0 ∧ (wiresM i).length ≤ 2 ∧ (∀ y ∈ (dnGate i a).2, y < n) ∧ (wiresM (offM (turnM a (dnGate i a).2) i)).length < (wiresM (offM a i)).length ∧ (∀ x < 2 ^ n, turnM (turnM x (dnGate i a).2) (dnGate i a).2 = x) ∧ (∀ j < i, turnM j (dnGate i a).2 = j) ∧ turnM a (dnGate i a).2 &&& i = i := by decide +kernel
theorem ze_facts : ∀ n < 4, ∀ k < n, ∀ x < 2 ^ n, turnM (turnM x [k]) [k] = x := by decide +kernel
theorem off_facts : ∀ a < 8, ∀ i < 8, (wiresM (offM i a)).length ≤ 3 ∧ (wiresM (offM a i)).length ≤ 3 := by decide +kernel
theorem wires8 : ∀ a < 8, (wiresM a).length ≤ 3 ∧ ∀ y ∈ wiresM a, y < 3 := by decide +kernel
theorem wiresN : ∀ n < 4, ∀ a < 2 ^ n, ∀ y ∈ wiresM a, y < n := by decide +kernel
theorem zero_facts : ∀ a < 8, (wiresM a).foldl (fun x k => turnM x [k]) a = 0 := by decide +kernel
/-- What a permutation at work is like. -/
def FInv (n i : Nat) (F : List Nat) : Prop := F.length = 2 ^ n ∧ (∀ x ∈ F, x < 2 ^ n) ∧ F.Nodup ∧ ∀ j, j < i → F[j]? = some j
theorem FInv.at {n i : Nat} {F : List Nat} (h : FInv n i F) {j : Nat} (hj : j < 2 ^ n) : F[j]? = some (F.getD j 0) ∧ F.getD j 0 < 2 ^ n := by
 have hl : j < F.length := by rw [h.1]; exact hj
 rw [List.getD_eq_getElem?_getD, List.getElem?_eq_getElem hl]
 exact ⟨rfl, h.2.1 _ (List.getElem_mem _)⟩
theorem doL_get {w F : List Nat} {j x : Nat} (h : F[j]? = some x) : (doL w F)[j]? = some (turnM x w) := by
 unfold doL; rw [List.getElem?_map, h]; rfl
theorem doL_getD {w F : List Nat} {j x : Nat} (h : F[j]? = some x) : (doL w F).getD j 0 = turnM x w := by
 rw [List.getD_eq_getElem?_getD, doL_get h]; rfl
theorem nodup_doL {n : Nat} {w F : List Nat} (hi : ∀ x < 2 ^ n, turnM (turnM x w) w = x) (hb : ∀ x ∈ F, x < 2 ^ n) (hn : F.Nodup) : (doL w F).Nodup := by
 unfold doL List.Nodup
 rw [List.pairwise_map]
 refine List.Pairwise.imp_of_mem ?_ hn
 intro x y hx hy hxy e
 apply hxy
 rw [← hi x (hb x hx), ← hi y (hb y hy), e]
theorem FInv.step {n i : Nat} {F w : List Nat} (h : FInv n i F) (hw : ∀ y ∈ w, y < n) (h0 : 0 < w.length) (hi : ∀ x < 2 ^ n, turnM (turnM x w) w = x) (hj : ∀ j, j < i → turnM j w = j) : FInv n i (doL w F) := by
 refine ⟨by simp [doL, h.1], fun x hx => ?_, nodup_doL hi h.2.1 h.2.2.1, fun j hji => ?_⟩
 ·unfold doL at hx
  rw [List.mem_map] at hx
  obtain ⟨y, hy, rfl⟩ := hx
  exact turnM_lt (h.2.1 y hy) hw h0
 ·rw [doL_get (h.2.2.2 j hji), hj j hji]
theorem FInv.ge {n i : Nat} {F : List Nat} (h : FInv n i F) (hi : i < 2 ^ n) : i ≤ F.getD i 0 := by
 obtain ⟨h1, h2⟩ := h.at hi
 rcases Nat.lt_or_ge (F.getD i 0) i with hlt | hge
 ·exfalso
  have h3 := h.2.2.2 _ hlt
  have hlen := h.1
  have e1 : F[F.getD i 0]? = F[i]? := by rw [h3, h1]
  have := (List.getElem?_inj (show F.getD i 0 < F.length by omega) h.2.2.1).1 e1
  omega
 ·exact hge
theorem upGate_pos (i a : Nat) : 0 < (upGate i a).2.length := by simp [upGate, turnG]
theorem dnGate_pos (i a : Nat) : 0 < (dnGate i a).2.length := by simp [dnGate, turnG]
/-- A round that sets bits. -/
theorem FInv.up {n i : Nat} {F : List Nat} (h : FInv n i F) (hn : n ≤ 3) (hi : i < 2 ^ n) (hc : ¬ F.getD i 0 &&& i = i) :
  FInv n i (doL (upGate i (F.getD i 0)).2 F) ∧ (wiresM (offM i ((doL (upGate i (F.getD i 0)).2 F).getD i 0))).length < (wiresM (offM i (F.getD i 0))).length := by
 obtain ⟨h1, h2⟩ := h.at hi
 obtain ⟨f1, f2, f3, f4, f5, f6⟩ := up_facts n (by omega) _ h2 _ hi hc
 refine ⟨h.step f3 (upGate_pos _ _) f5 (f6 (h.ge hi)), ?_⟩
 rw [doL_getD h1]; exact f4
theorem FInv.dn {n i : Nat} {F : List Nat} (h : FInv n i F) (hn : n ≤ 3) (hi : i < 2 ^ n) (ha : F.getD i 0 &&& i = i) (hc : ¬ F.getD i 0 = i) :
  FInv n i (doL (dnGate i (F.getD i 0)).2 F) ∧ (doL (dnGate i (F.getD i 0)).2 F).getD i 0 &&& i = i ∧ (wiresM (offM ((doL (dnGate i (F.getD i 0)).2 F).getD i 0) i)).length < (wiresM (offM (F.getD i 0) i)).length := by
 obtain ⟨h1, h2⟩ := h.at hi
 obtain ⟨f1, f2, f3, f4, f5, f6, f7⟩ := dn_facts n (by omega) _ h2 _ hi ha hc
 refine ⟨h.step f3 (dnGate_pos _ _) f5 f6, ?_⟩
 rw [doL_getD h1]; exact ⟨f7, f4⟩
theorem FInv.next {n i : Nat} {F : List Nat} (h : FInv n i F) (hi : i < 2 ^ n) (hc : F.getD i 0 = i) : FInv n (i + 1) F := by
 refine ⟨h.1, h.2.1, h.2.2.1, fun j hj => ?_⟩
 rcases Nat.lt_or_ge j i with h1 | h1
 ·exact h.2.2.2 j h1
 ·obtain rfl : j = i := by omega
  have := (h.at hi).1
  rw [hc] at this; exact this
theorem upW_done {i : Nat} {s : Work} (h : s.1.getD i 0 &&& i = i) : ∀ f, upW i f s = s
 | 0 => rfl
 | f + 1 => by rw [upW, if_pos h]
theorem dnW_done {i : Nat} {s : Work} (h : s.1.getD i 0 = i) : ∀ f, dnW i f s = s
 | 0 => rfl
 | f + 1 => by rw [dnW, if_pos h]
end Go.AM

/-! R16 -/
namespace Go.AM
open Go.Proofs
/-- A row of numbers in a variable's cell. -/
def FAt (m : Mem) (fb rb cap : Nat) (c : Array Value) (F : List Nat) : Prop := Mem.get m fb = .cells true #[.slice (some ⟨rb, 0, some 1⟩) F.length cap] ∧ Mem.get m rb = .cells true c ∧ F.length ≤ c.size ∧ ∀ (i x : Nat), F[i]? = some x → c[i]? = some (nv x)
theorem FAt.keep {m m' : Mem} {fb rb cap : Nat} {c : Array Value} {F : List Nat} (h : FAt m fb rb cap c F) (h1 : Mem.get m' fb = Mem.get m fb) (h2 : Mem.get m' rb = Mem.get m rb) : FAt m' fb rb cap c F := ⟨h1.trans h.1, h2.trans h.2.1, h.2.2⟩
theorem Bld.blk {N bb W : Nat} {m : Mem} {Gs : List (Nat × List Nat)} {v : Value} (h : Bld N bb m W Gs v) {b : Nat} (hb : blkOf v = some b) : N ≤ b ∧ b < m.size := by
 obtain ⟨_, _, cs, hO⟩ := h; exact hO.1.lt hb
theorem Bld.keep {N bb W : Nat} {m m' : Mem} {Gs : List (Nat × List Nat)} {v : Value} (h : Bld N bb m W Gs v) (h1 : Mem.get m' bb = Mem.get m bb) (h2 : ∀ b, N ≤ b → b < m.size → Mem.get m' b = Mem.get m b) : Bld N bb m' W Gs v := by
 obtain ⟨a1, a2, cs, hO⟩ := h; exact ⟨h1.trans a1, a2, cs, hO.up h2⟩
/-- What a gate behind a table leaves as it was. -/
def DoF (bb rb : Nat) (m : Mem) (v : Value) (m' : Mem) (v' : Value) : Prop := m.size ≤ m'.size ∧ (∀ b, b < m.size → b ≠ bb → b ≠ rb → blkOf v ≠ some b → Mem.get m' b = Mem.get m b) ∧ (blkOf v' = blkOf v ∨ ∃ b, blkOf v' = some b ∧ m.size ≤ b)
def H74 : Nat → List (Nat × Nat) := fun id => if id = 5 then [(0, 6)] else []
theorem okf74 : okF Tryd.prog H74 74 24 = true := by kernel_rfl
theorem spec_do {m : Mem} {N bb W fb rb cap gk : Nat} {v ws : Value} {Gs : List (Nat × List Nat)} {c : Array Value} {F w : List Nat} (hB : Bld N bb m W Gs v) (hN : N ≤ m.size) (hl : Gs.length ≤ 999)
 (hF : FAt m fb rb cap c F) (hfN : fb < N) (hfb : fb ≠ bb) (hrN : rb < N) (hrb : rb ≠ bb) (hrf : rb ≠ fb) (hw : OwnF N m ws (ofs w)) (hwv : ∀ b, blkOf ws = some b → blkOf v ≠ some b) (w0 : 0 < w.length) (w3 : w.length ≤ 3) (wlt : ∀ y ∈ w, y < 12) (hlt : ∀ x ∈ F, x < 2 ^ 12) (hFl : F.length ≤ 8) :
 ∃ r m', ACalls Tryd.prog 74 #[.agg #[nv gk, ws, nv 0, nv 0], .pointer (some ⟨bb, 0, none⟩), .pointer (some ⟨fb, 0, none⟩)] m r m' ∧ (∃ v' c', Bld N bb m' W (Gs ++ [(gk, w)]) v' ∧ FAt m' fb rb cap c' (doL w F) ∧ DoF bb rb m v m' v') := by
 obtain ⟨q, cw, rfl⟩ := hw.ints.lenN
 have hbm := live hB.1
 have hdl : (doL w F).length = F.length := by simp [doL]
 refine wpF (args := [_, _, _]) mixed okf74 (fn := Tryd.f74) rfl rfl rfl (by simp) ?_
 refine cSR ?_
 refine sBox (v := .agg _) rfl ?_
 change wpOps _ _ _ _ _ (m.push (.cells true #[nv gk, .slice q w.length cw, nv 0, nv 0]))
 have e1 : Ext m (m.push (.cells true #[nv gk, .slice q w.length cw, nv 0, nv 0])) := .push _ _
 have g1 : Mem.get (m.push (.cells true #[nv gk, .slice q w.length cw, nv 0, nv 0])) m.size = .cells true #[nv gk, .slice q w.length cw, nv 0, nv 0] := gP rfl
 have z1 : (m.push (.cells true #[nv gk, .slice q w.length cw, nv 0, nv 0])).size = m.size + 1 := by simp
 generalize m.push (.cells true #[nv gk, .slice q w.length cw, nv 0, nv 0]) = m1 at *
 refine sN ?_
 refine cSR ?_
 refine sLdAll A49 S49 rfl g1 rfl ?_
 refine sBuildS T28 S49 Z49 (by decide) (by decide) (by decide) (by kernel_rfl) fillA4 rfl ?_
 have e2 : Ext m1 (m1.push (.cells true #[nv gk, .slice q w.length cw, nv 0, nv 0])) := .push _ _
 have g2 : Mem.get (m1.push (.cells true #[nv gk, .slice q w.length cw, nv 0, nv 0])) m1.size = .cells true #[nv gk, .slice q w.length cw, nv 0, nv 0] := gP rfl
 have z2 : (m1.push (.cells true #[nv gk, .slice q w.length cw, nv 0, nv 0])).size = m.size + 2 := by simp [z1]
 generalize m1.push (.cells true #[nv gk, .slice q w.length cw, nv 0, nv 0]) = m2 at *
 obtain ⟨v8, m8, h8, v', hB8, hG8⟩ := spec_add (x := .slice (some ⟨m1.size, 0, some 4⟩) 1 1) (Gs2 := [(gk, w)]) (hB.ext (e1.trans e2)) ⟨#[nv gk, .slice q w.length cw, nv 0, nv 0], .inr ⟨m1.size, 0, 1, #[nv gk, .slice q w.length cw, nv 0, nv 0], true, rfl, g2, by simp, rfl⟩, fun i g hi => by
  have h1 := (List.getElem?_eq_some_iff.1 hi).1
  obtain rfl : i = 0 := by simp at h1; exact h1
  obtain rfl : (gk, w) = g := by simpa using hi
  exact ⟨.slice q w.length cw, rfl, rfl, rfl, rfl, hw.ext (e1.trans e2), hwv⟩⟩ (by omega) (by omega) (by simp)
 refine sCall2 rfl call75 rfl rfl h8 ?_
 have hvN : ∀ b, blkOf v = some b → N ≤ b ∧ b < m.size := fun b hb => hB.blk hb
 have k8 : ∀ b, b < m.size + 2 → b ≠ bb → blkOf v ≠ some b → Mem.get m8 b = Mem.get m2 b := fun b hb h1 h2 => hG8.2.1 b (by omega) h1 h2
 have hF8 : FAt m8 fb rb cap c F := hF.keep ((k8 _ (by omega) hfb (fun e => by have := hvN _ e; omega)).trans ((e1.trans e2).2 _ (by omega))) ((k8 _ (by omega) hrb (fun e => by have := hvN _ e; omega)).trans ((e1.trans e2).2 _ (by omega)))
 have hw8 : OwnF N m8 (.slice q w.length cw) (ofs w) := (hw.ext (e1.trans e2)).keep fun b hb => hG8.2.1 b (by have := (hw.lt hb).2; omega) (by have := (hw.lt hb).1; have := hB.2.1; omega) (hwv b hb)
 have g8 : Mem.get m8 m.size = .cells true #[nv gk, .slice q w.length cw, nv 0, nv 0] := (k8 _ (by omega) (by omega) (fun e => by have := hvN _ e; omega)).trans ((e2.2 _ (by omega)).trans g1)
 have z8 := hG8.1
 have hnew : blkOf v' = blkOf v ∨ ∃ b, blkOf v' = some b ∧ m.size ≤ b := by
  rcases hG8.2.2 with e | ⟨b, e, hb⟩
  ·exact .inl e
  ·exact .inr ⟨b, e, by omega⟩
 refine sN ?_
 refine cSR ?_
 refine sLd (v := .slice _ _ _) A22 rfl hF8.1 rfl ?_
 refine sLen T22 rfl ?_
 refine sMv (v := nv 0) rfl ?_
 refine sN ?_
 refine cBlock ?_
 refine wpC_loop (fun k ρ m' => ∃ i c', k = F.length - i ∧ i ≤ F.length ∧ m8.size ≤ m'.size ∧ Mem.get m' rb = .cells true c' ∧ c'.size = c.size ∧ (∀ (j x : Nat), F[j]? = some x → c'[j]? = some (nv (if j < i then turnM x w else x))) ∧ (∀ b, b < m8.size → b ≠ rb → Mem.get m' b = Mem.get m8 b) ∧ Has ρ [(1, .pointer (some ⟨bb, 0, none⟩)), (2, .pointer (some ⟨fb, 0, none⟩)), (3, .pointer (some ⟨m.size, 0, none⟩)), (9, .slice (some ⟨rb, 0, some 1⟩) F.length cap), (10, nv F.length), (11, nv i)]) ⟨0, c, rfl, Nat.zero_le _, Nat.le_refl _, hF8.2.1, rfl, fun j x hx => by rw [if_neg (by omega)]; exact hF8.2.2.2 j x hx, fun _ _ _ => rfl, rfl, rfl, rfl, rfl, rfl, rfl, trivial⟩ ?_
 rintro k ρ m' ⟨i, c', rfl, hi, hz, gr, hcs, hcv, hke, hh⟩
 rw [hh.env]; clear hh
 refine cSR ?_
 refine sBin rfl rfl (aInt_lss) ?_
 refine sN ?_
 refine cSeq ?_
 refine cCond rfl (fun c0 => ?_) (fun c0 => ?_)
 ·
  obtain ⟨x, hx⟩ : ∃ x, F[i]? = some x := ⟨_, List.getElem?_eq_getElem c0⟩
  have hxm := List.mem_of_getElem? hx
  have hci := hcv i x hx
  rw [if_neg (by omega)] at hci
  have hcl := hF.2.2.1
  refine cSkip (kSeqN ?_)
  refine cSeq (cBlock (cSR ?_))
  refine sMn rfl ?_
  refine sIx T22 S3 rfl rfl (by omega) ?_
  refine sLd (v := nv x) A3 rfl gr (by simpa using hci) ?_
  refine sAn rfl ?_
  refine sAn rfl ?_
  refine sN ?_
  refine cDrawH (hs := [(0, 6)]) rfl (by decide) ?_
  refine lStepLd (v := .slice _ _ _) A22 rfl ((hke _ (by omega) (by omega)).trans hF8.1) rfl fun e0 hm0 hv0 hr0 => ?_
  refine lStepO (sMv (v := nv _) rfl (sNil fun e1 hm1 => ?_))
  refine lStepO (sMv (v := nv _) rfl (sNil fun e2 hm2 => ?_))
  refine lStepO (sFA F49_1 rfl (sNil fun e3 hm3 => ?_))
  refine lStepLd (v := .slice _ _ _) A22 rfl ((hke _ (by omega) (by omega)).trans g8) rfl fun e4 hm4 hv4 hr4 => ?_
  obtain ⟨v21, m21, h21, rfl, e21⟩ := spec_turnedG (m := m') (hw8.up fun b h1 h2 => hke b h2 (by omega)) w0 w3 wlt (hlt x hxm)
  refine lStepO (sCall2 rfl call76 rfl rfl h21 (sNil fun e5 hm5 => ?_))
  have gr21 := e21.cells gr
  have gf21 : Mem.get m21 fb = .cells true #[.slice (some ⟨rb, 0, some 1⟩) F.length cap] := (e21.2 _ (by have := live hF.1; omega)).trans ((hke _ (by have := live hF.1; omega) (by omega)).trans hF8.1)
  refine lStepO (sIx T22 S3 rfl rfl (by omega) (sNil fun e6 hm6 => ?_))
  refine lStepO (sSt (v := nv _) S3 rfl rfl gr21 (by simp; omega) rfl rfl (sNil fun e7 hm7 => ?_))
  refine ⟨?_, (kBlkN (kSeqN ?_))⟩
  ·
   refine obl_atE (e := e0) (e' := e6) (by simp) (by rfl) (by simp) ((hr0 e6.m _ _ (by rw [hm6]; exact gf21) (by rfl)).trans (congrArg some hv0.symm)) ?_
   trivial
  refine cRegion ?_
  refine sBin rfl rfl (aInt_add (b := 1) (by omega)) ?_
  refine sMn rfl ?_
  refine sN ?_
  have z21 := e21.1
  refine ⟨_, ?_, i + 1, _, rfl, by omega, by simp; omega, gS rfl (live gr21), by simp [hcs], fun j y hy => ?_, fun b h1 h2 => ?_, rfl, rfl, rfl, rfl, rfl, rfl, trivial⟩
  ·omega
  ·rw [Array.getElem?_setIfInBounds]
   by_cases hji : j = i
   ·subst hji
    rw [hx] at hy
    obtain rfl := Option.some.inj hy
    rw [if_pos (by simp), if_pos (by simp; omega), if_pos (by omega)]
   ·rw [if_neg (by simp; omega), hcv j y hy]
    congr 2
    by_cases h : j < i
    ·rw [if_pos h, if_pos (by omega)]
    ·rw [if_neg h, if_neg (by omega)]
  ·rw [gSn (by omega), e21.2 b (by omega)]; exact hke b h1 h2
 ·
  obtain rfl : i = F.length := by omega
  refine cExit (kSeqE (kSeqE (kBlkS ?_)))
  refine ⟨.inl rfl, _, rfl, v', c', hB8.keep (hke _ (by omega) (by omega)) (fun b h1 h2 => hke b h2 (by omega)), ⟨?_, gr, by rw [hdl, hcs]; exact hF.2.2.1, fun j y hy => ?_⟩, by omega, fun b h1 h2 h3 h4 => ?_, hnew⟩
  ·rw [hdl]; exact (hke _ (by have := live hF.1; omega) (by omega)).trans hF8.1
  ·unfold doL at hy
   rw [List.getElem?_map] at hy
   obtain ⟨x, hx, rfl⟩ := Option.map_eq_some_iff.1 hy
   have := hcv j x hx
   rwa [if_pos (List.getElem?_eq_some_iff.1 hx).1] at this
  ·rw [hke b (by omega) h3, k8 b (by omega) h2 h4]; exact (e1.trans e2).2 b h1
end Go.AM

/-! R17 -/
namespace Go.AM
open Go.Proofs
/-- A circuit and a table at work. -/
def CI (m : Mem) (fb rb cap n : Nat) (mK m' : Mem) (s : Work) : Prop :=
  ∃ v c, Bld (fb + 2) (fb + 1) m' n s.2 v ∧ FAt m' fb rb cap c s.1 ∧ (m.size < rb ∧ rb < fb) ∧ fb + 2 ≤ m'.size ∧ (∀ b, b < m.size → Mem.get m' b = Mem.get m b) ∧ Mem.get m' m.size = .cells true #[nv 0, nv 0, .slice none 0 0] ∧ (∀ g ∈ s.2, g.2.length ≤ 3) ∧ (∀ b, fb + 2 ≤ b → b < mK.size → blkOf v ≠ some b ∧ Mem.get m' b = Mem.get mK b) ∧ mK.size ≤ m'.size
theorem CI.ext {m mK m1 m2 : Mem} {fb rb cap n : Nat} {s : Work} (h : CI m fb rb cap n mK m1 s) (he : Ext m1 m2) : CI m fb rb cap n mK m2 s := by
 obtain ⟨v, c, h1, h2, h3, h4, h5, h6, h7, h8, h9⟩ := h
 have hz := he.1
 exact ⟨v, c, h1.ext he, h2.keep (he.2 _ (live h2.1)) (he.2 _ (live h2.2.1)), h3, by omega, fun b hb => (he.2 b (by omega)).trans (h5 b hb), he.cells h6, h7, fun b a1 a2 => ⟨(h8 b a1 a2).1, (he.2 b (by omega)).trans (h8 b a1 a2).2⟩, by omega⟩
theorem CI.weak {m mK m1 : Mem} {fb rb cap n : Nat} {s : Work} (h : CI m fb rb cap n mK m1 s) : CI m fb rb cap n m m1 s := by
 obtain ⟨v, c, h1, h2, h3, h4, h5, h6, h7, h8, h9⟩ := h
 exact ⟨v, c, h1, h2, h3, h4, h5, h6, h7, fun b a1 a2 => by omega, by omega⟩
theorem CI.call {m mK m1 m2 : Mem} {fb rb cap n gk : Nat} {s : Work} {ws : Value} {w : List Nat} (h : CI m fb rb cap n mK m1 s) (he : Ext m1 m2) (hw : OwnF m1.size m2 ws (ofs w)) (w0 : 0 < w.length) (w3 : w.length ≤ 3) (wlt : ∀ y ∈ w, y < 12) (hlt : ∀ x ∈ s.1, x < 2 ^ 12) (hFl : s.1.length ≤ 8) (hl : s.2.length ≤ 100) :
  ∃ r m3, ACalls Tryd.prog 74 #[.agg #[nv gk, ws, nv 0, nv 0], .pointer (some ⟨fb + 1, 0, none⟩), .pointer (some ⟨fb, 0, none⟩)] m2 r m3 ∧ CI m fb rb cap n mK m3 (doW (gk, w) s) ∧ m2.size ≤ m3.size := by
 obtain ⟨v, c, h1, h2, h3, h4, h5, h6, h7, h8, h9⟩ := h
 have hz := he.1
 have hb1 : ∀ b, blkOf v = some b → fb + 2 ≤ b ∧ b < m1.size := fun b hb => h1.blk hb
 obtain ⟨r, m3, hc, v', c', k1, k2, k3⟩ := spec_do (gk := gk) (h1.ext he) (by omega) (by omega) (h2.keep (he.2 _ (live h2.1)) (he.2 _ (live h2.2.1))) (by omega) (by omega) (by omega) (by omega) (by omega) (hw.mono h4) (fun b hb e => by
  have := (hw.lt hb).1
  have := (hb1 _ e).2
  omega) w0 w3 wlt hlt hFl
 have hz3 := k3.1
 refine ⟨r, m3, hc, ⟨v', c', k1, k2, h3, by omega, fun b hb => ?_, ?_, ?_, fun b a1 a2 => ⟨fun e => ?_, ?_⟩, by omega⟩, hz3⟩
 ·rw [k3.2.1 b (by omega) (by omega) (by omega) (fun e => by have := (hb1 _ e).1; omega), he.2 b (by omega)]; exact h5 b hb
 ·rw [k3.2.1 m.size (by omega) (by omega) (by omega) (fun e => by have := (hb1 _ e).1; omega), he.2 _ (by omega)]; exact h6
 ·intro g hg
  unfold doW at hg
  rw [List.mem_append] at hg
  rcases hg with hg | hg
  ·exact h7 g hg
  ·simp at hg; subst hg; exact w3
 ·rcases k3.2.2 with e1 | ⟨b1, e1, hb1'⟩
  ·rw [e1] at e; exact (h8 b a1 a2).1 e
  ·rw [e1] at e; injection e with e; omega
 ·rw [k3.2.1 b (by omega) (by omega) (by omega) (h8 b a1 a2).1, he.2 b (by omega)]; exact (h8 b a1 a2).2
theorem sCallK {ρ : Env} {m m' : Mem} {K : Env → Mem → Prop} {ops : Array Oper} {l : List Oper} {d : Option Nat} {ty : TypeId} {pos : String} {af : Array Edge} {v : Value} {f x : Operand} {tys : Array TypeId} {g : FuncId} {a c e : Value}
  (hv : evR ρ f = .func (.func g) #[] #[c, e]) (hk : callable Tryd.prog g = true) (h1 : evR ρ x = a) (h : ACalls Tryd.prog g #[a, c, e] m v m') (hK : wpOps Tryd.prog ops K l (updO ρ d v) m') :
  wpOps Tryd.prog ops K (⟨d, .call ⟨.value f, ⟨[x]⟩, tys⟩, ty, pos, af, none⟩ :: l) ρ m := sCall hv hk (by simpa [h1] using h) hK
theorem B96 {n : Nat} {q : Option Addr} {a c : Nat} : aBuild Tryd.prog 96 [(0, .agg #[nv n, nv 0, .slice q a c])] = some (.agg #[nv n, nv 0, .slice q a c]) := by kernel_rfl
theorem wide_len {L : List Nat} (h : L.length = 2 ∨ L.length = 4 ∨ L.length = 8) : L.length = 2 ^ lenN L.length ∧ lenN L.length ≤ 3 ∧ 0 < lenN L.length := by
 rcases h with h | h | h <;> rw [h] <;> decide
theorem doW_len (g : Nat × List Nat) (s : Work) : (doW g s).2.length = s.2.length + 1 := by simp [doW]
theorem zerW_take {s : Work} {ks : List Nat} {i : Nat} (h : i < ks.length) : zerW s (ks.take (i + 1)) = doW (turnG ks[i] []) (zerW s (ks.take i)) := by
 unfold zerW; rw [List.take_succ_eq_append_getElem h, List.foldl_append]; rfl
theorem zerW_len {s : Work} : ∀ (ks : List Nat) (s : Work), (zerW s ks).2.length = s.2.length + ks.length
 | [], s => rfl
 | k :: ks, s => by
  have := zerW_len (s := s) ks (doW (turnG k []) s)
  rw [doW_len] at this
  show (zerW (doW (turnG k []) s) ks).2.length = _
  rw [this]; simp; omega
theorem zerW_inv {n : Nat} (hn : n ≤ 3) : ∀ (ks : List Nat) (s : Work), (∀ k ∈ ks, k < n) → FInv n 0 s.1 → FInv n 0 (zerW s ks).1
 | [], s, _, h => h
 | k :: ks, s, hk, h => by
  have hkn := hk k (by simp)
  exact zerW_inv hn ks (doW (turnG k []) s) (fun x hx => hk x (by simp [hx])) (h.step (w := [k]) (fun y hy => by simp at hy; omega) (by simp) (ze_facts n (by omega) k hkn) (fun j hj => by omega))
theorem zerW_head {ks : List Nat} : ∀ (s : Work) (x : Nat), s.1[0]? = some x → (zerW s ks).1[0]? = some (ks.foldl (fun x k => turnM x [k]) x) := by
 induction ks with
 | nil => intro s x h; exact h
 | cons k ks ih => intro s x h; exact ih (doW (turnG k []) s) _ (doL_get h)
theorem zerW_one {n : Nat} {L : List Nat} (hn : n ≤ 3) (h : FInv n 0 L) : FInv n 1 (zerW (L, []) (wiresM (L.getD 0 0))).1 := by
 have hp : 0 < 2 ^ n := Nat.pow_pos (by decide)
 have h8 := two_pow3 hn
 obtain ⟨h1, h2⟩ := h.at hp
 have hz := zerW_inv hn (wiresM (L.getD 0 0)) (L, []) (wiresN n (by omega) _ h2) h
 refine hz.next hp ?_
 rw [List.getD_eq_getElem?_getD, zerW_head (L, []) _ h1, zero_facts _ (by omega)]; rfl
def H18 : Nat → List (Nat × Nat) := fun id => if id = 18 then [(9, 12)] else if id = 16 then [(9, 15), (10, 0), (13, 0)] else []
theorem okf18 : okF Tryd.prog H18 18 100 = true := by kernel_rfl
theorem spec_Circuit {m : Mem} {a : Value} {p : List Int} (ha : IntsAt m a p) (hl : p.length < 1000000) : ∃ v m', ACalls Tryd.prog 18 #[a] m v m' ∧ (∃ s cs, v = .tuple #[.agg #[nv (wideN p), nv 0, s], nv (wideE p)] ∧ OwnG m.size m' s cs (circP p) ∧ Ext m m') := by
 obtain ⟨qp, capp, rfl⟩ := ha.len
 refine wpF (args := [_]) mixed okf18 (fn := Tryd.f18) rfl rfl rfl (by simp) ?_
 refine cSR ?_
 refine sAlloc Z30 (by kernel_rfl) ?_
 change wpOps _ _ _ _ _ (m.push (.cells true #[nv 0, nv 0, .slice none 0 0]))
 have e1 : Ext m (m.push (.cells true #[nv 0, nv 0, .slice none 0 0])) := .push _ _
 have g1 : Mem.get (m.push (.cells true #[nv 0, nv 0, .slice none 0 0])) m.size = .cells true #[nv 0, nv 0, .slice none 0 0] := gP rfl
 have z1 : (m.push (.cells true #[nv 0, nv 0, .slice none 0 0])).size = m.size + 1 := by simp
 generalize m.push (.cells true #[nv 0, nv 0, .slice none 0 0]) = m1 at *
 refine sAn rfl ?_
 refine sN ?_
 refine cSR ?_
 refine sMs rfl ?_
 obtain ⟨v14, m14, h14, rfl, e14⟩ := spec_Wide (ha.ext e1) hl
 refine sCall1 rfl call16 rfl h14 ?_
 have g14 := e14.cells g1
 refine sMv (v := .tuple _) rfl ?_
 refine sP (v := nv _) rfl ?_
 refine sP (v := nv _) rfl ?_
 refine sAn rfl ?_
 refine sAn rfl ?_
 refine sN ?_
 refine cSeq (cSR ?_)
 refine sMn rfl ?_
 refine sBin (a := wideE p) (b := 0) rfl rfl aInt_neq ?_
 refine sN ?_
 refine cCond rfl (fun c0 => ?_) (fun c0 => ?_)
 ·
  refine cSR ?_
  refine sBuild B57_0 ?_
  refine sMn rfl ?_
  refine sStAll S30 rfl rfl g14 rfl rfl (by kernel_rfl) ?_
  refine sAn rfl ?_
  refine sN ?_
  refine cRet (kSeqR ?_)
  refine ⟨.inr rfl, _, resRs_agg2 A30 S30 rfl (gS rfl (live g14)) rfl, .slice none 0 0, #[], ?_, ?_, ?_⟩
  ·rw [show wideN p = 0 by rw [wideN, if_neg c0]]; rfl
  ·rw [circP, if_neg c0]; exact .nil _ _
  ·exact (e1.trans e14).set (Nat.le_refl _) _
 ·
  have h0 := Decidable.not_not.1 c0
  obtain ⟨L, rfl, hLl, hnd, hL8⟩ := wide_nat h0
  rw [circP, if_pos h0, nats_ofs, show wideN (ofs L) = lenN L.length by rw [wideN, if_pos h0, ofs_length], h0]
  rw [ofs_length] at *
  obtain ⟨hn1, hn3, hn0⟩ := wide_len hL8
  generalize lenN L.length = n at *
  have h8 := two_pow3 hn3
  have hI0 : FInv n 0 L := ⟨hn1, fun x hx => by rw [← hn1]; exact hLl x hx, hnd, fun j hj => by omega⟩
  refine cSkip (kSeqN ?_)
  refine cSR ?_
  refine sMs rfl ?_
  obtain ⟨v22, m22, h22, o22, e22⟩ := spec_Clone ((ha.ext e1).ext e14) (by rw [ofs_length]; omega)
  refine sCall1 rfl call15 rfl h22 ?_
  obtain ⟨rb, cap, cF, rfl, hrb, gr, hcF⟩ : ∃ rb cap cF, v22 = .slice (some ⟨rb, 0, some 1⟩) L.length cap ∧ m14.size ≤ rb ∧ Mem.get m22 rb = .cells true cF ∧ L.length ≤ cF.size ∧ ∀ (i x : Nat), L[i]? = some x → cF[i]? = some (nv x) := by
   rcases o22 with ⟨h, _⟩ | ⟨b, cap, c, h1, h2, h3, h4, h5, h6⟩
   ·exfalso; have := congrArg List.length h; rw [ofs_length] at this; simp at this; subst this; simp at hL8
   ·rw [ofs_length] at h1 h4
    refine ⟨b, cap, c, h1, h2, h3, by omega, fun i x hx => h6 i x ?_⟩
    simp only [ofs, List.getElem?_map, hx]; rfl
  refine sAllocB (bl := m22.size) rfl Z22 (by kernel_rfl) ?_
  refine sStNB (v := .slice _ _ _) rfl S22 rfl rfl rfl rfl rfl ?_
  have g14' := (e22.cells g14)
  have hzz : m.size + 1 ≤ m14.size := by have := e14.1; omega
  have hrm : rb < m22.size := live gr
  refine sN ?_
  refine cSR ?_
  refine sMn rfl ?_
  refine sBuild B57_1 ?_
  refine sBuild B96 ?_
  refine sAllocB (bl := m22.size + 1) (by simp) Z96 (by kernel_rfl) ?_
  refine sStNAB (by simp) S96 rfl rfl rfl rfl (by kernel_rfl) ?_
  have hB0 : Bld (m22.size + 2) (m22.size + 1) ((m22.push (.cells true #[.slice (some ⟨rb, 0, some 1⟩) L.length cap])).push (.cells true #[nv n, nv 0, .slice none 0 0])) n [] (.slice none 0 0) := ⟨gP (by simp), by omega, #[], .nil _ _⟩
  have hCI : CI m m22.size rb cap n m ((m22.push (.cells true #[.slice (some ⟨rb, 0, some 1⟩) L.length cap])).push (.cells true #[nv n, nv 0, .slice none 0 0])) (L, []) := by
   have he : Ext m22 ((m22.push (.cells true #[.slice (some ⟨rb, 0, some 1⟩) L.length cap])).push (.cells true #[nv n, nv 0, .slice none 0 0])) := (Ext.push _ _).trans (.push _ _)
   refine ⟨.slice none 0 0, cF, ⟨gP (by simp), by omega, #[], .nil _ _⟩, ⟨by rw [gPn (by simp), gP rfl], he.cells gr, hcF⟩, ⟨by omega, hrm⟩, by simp, fun b hb => (((e1.trans e14).trans e22).trans he).2 b hb, he.cells g14', fun g hg => by simp at hg, fun b a1 a2 => by have := e22.1; omega, ?_⟩
   simp; have := e22.1; omega
  generalize (m22.push (.cells true #[.slice (some ⟨rb, 0, some 1⟩) L.length cap])).push (.cells true #[nv n, nv 0, .slice none 0 0]) = m7 at *
  generalize m22.size = fb at *
  refine sN ?_
  refine cSR ?_
  refine sMFc2 rfl rfl ?_
  refine sAs (v := .func _ _ _) rfl ?_
  refine sN ?_
  refine cSeq (cSR ?_)
  obtain ⟨vb, cb, kB, kF, kr, kz, klo, kres, kg, _, _⟩ := hCI
  have hCI : CI m fb rb cap n m m7 (L, []) := ⟨vb, cb, kB, kF, kr, kz, klo, kres, kg, by assumption, by assumption⟩
  have hp : 0 < 2 ^ n := Nat.pow_pos (by decide)
  obtain ⟨hd0, hd1⟩ := hI0.at hp
  refine sLd (v := .slice _ _ _) A22 rfl kF.1 rfl ?_
  refine sIx T22 S3 rfl rfl (show 0 < L.length by omega) ?_
  refine sLd (v := nv (L.getD 0 0)) A3 rfl kF.2.1 (by simpa using kF.2.2.2 0 _ hd0) ?_
  obtain ⟨v30, m30, h30, o30, e30⟩ := spec_wires (m := m7) (x := L.getD 0 0) (by omega)
  refine sCall1 rfl call77 rfl h30 ?_
  have hw3 := wires8 _ (show L.getD 0 0 < 8 by omega)
  have hwn := wiresN n (by omega) _ hd1
  have hone := zerW_one hn3 hI0
  have hzl := zerW_len (s := (L, [])) (wiresM (L.getD 0 0)) (L, [])
  have hc0 : cirW L 0 = zerW (L, []) (wiresM (L.getD 0 0)) := rfl
  generalize wiresM (L.getD 0 0) = ws at *
  obtain ⟨qw, cw, rfl⟩ := o30.ints.lenN
  have hCI30 : CI m fb rb cap n m30 m30 (L, []) := by
   obtain ⟨v, c, h1, h2, h3, h4, h5, h6, h7, h8', h9⟩ := hCI.ext e30
   refine ⟨v, c, h1, h2, h3, h4, h5, h6, h7, fun b a1 a2 => ⟨fun e => ?_, rfl⟩, Nat.le_refl _⟩
   have e1' := h1.1
   rw [(hB0.ext e30).1] at e1'
   obtain rfl : Value.slice none 0 0 = v := by simpa using e1'
   cases e
  refine sLen T22 rfl ?_
  refine sMv (v := nv 0) rfl ?_
  refine sN ?_
  refine cBlock ?_
  refine wpC_loop (fun k ρ m' => ∃ i, k = ws.length - i ∧ i ≤ ws.length ∧ CI m fb rb cap n m30 m' (zerW (L, []) (ws.take i)) ∧ Has ρ [(2, .pointer (some ⟨m.size, 0, none⟩)), (6, .pointer (some ⟨fb, 0, none⟩)), (7, .pointer (some ⟨fb + 1, 0, none⟩)), (8, .func (.func 74) #[] #[.pointer (some ⟨fb + 1, 0, none⟩), .pointer (some ⟨fb, 0, none⟩)]), (30, .slice qw ws.length cw), (31, nv ws.length), (32, nv i)]) ⟨0, rfl, Nat.zero_le _, hCI30, rfl, rfl, rfl, rfl, rfl, rfl, rfl, trivial⟩ ?_
  rintro k ρ m' ⟨i, rfl, hi, hC, hh⟩
  rw [hh.env]; clear hh
  refine cSR ?_
  refine sBin rfl rfl (aInt_lss) ?_
  refine sN ?_
  refine cSeq ?_
  refine cCond rfl (fun c1 => ?_) (fun c1 => ?_)
  ·
   obtain ⟨vi, ci, iB, iF, ir, iz, ilo, ires, ig, iK, iKz⟩ := hC
   have hC : CI m fb rb cap n m30 m' (zerW (L, []) (ws.take i)) := ⟨vi, ci, iB, iF, ir, iz, ilo, ires, ig, iK, iKz⟩
   have ows : OwnF m7.size m' (.slice qw ws.length cw) (ofs ws) := o30.keep fun b hb => (iK b (by have := (o30.lt hb).1; omega) (o30.lt hb).2).2
   obtain ⟨bw, ow, pw, rw_, dw, ew, gw, xw⟩ := ows.ints.atN (by omega)
   cases ew
   have hti := zerW_inv hn3 (ws.take i) (L, []) (fun k hk => hwn k (List.mem_of_mem_take hk)) hI0
   have htl : (zerW (L, []) (ws.take i)).2.length ≤ i := by
    have := zerW_len (s := (L, [])) (ws.take i) (L, [])
    rw [this]; simp; omega
   refine cSkip (kSeqN ?_)
   refine cSeq (cBlock (cSR ?_))
   refine sIx T22 S3 rfl rfl (by omega) ?_
   refine sLd (v := nv ws[i]) A3 rfl gw (by simpa using xw i _ (List.getElem?_eq_getElem c1)) ?_
   refine sAn rfl ?_
   refine sN ?_
   refine cRegion ?_
   refine sMv rfl ?_
   refine sMn rfl ?_
   obtain ⟨v38, m38, h38, w38, rfl, o38, e38⟩ := spec_turn (m := m') (k := ws[i]) (a := .slice none 0 0) (l := []) (.inl ⟨rfl, .inl rfl⟩) (by simp)
   refine sCall2 rfl call78 rfl rfl h38 ?_
   obtain ⟨r39, m39, h39, hC39, z39⟩ := hC.call (gk := kindM [].length) e38 (o38.mono (by omega)) (by simp) (by simp) (fun y hy => by simp at hy; subst hy; have := hwn _ (List.getElem_mem c1); omega) (fun x hx => by have := hti.2.1 x hx; omega) (by rw [hti.1]; exact h8) (by omega)
   refine sCallK rfl call74 rfl h39 ?_
   refine sNil (kBlkN (kSeqN ?_))
   refine cRegion ?_
   refine sBin rfl rfl (aInt_add (b := 1) (by omega)) ?_
   refine sMn rfl ?_
   refine sN ?_
   refine ⟨_, ?_, i + 1, rfl, by omega, by rw [zerW_take c1]; exact hC39, rfl, rfl, rfl, rfl, rfl, rfl, rfl, trivial⟩
   omega
  ·
   obtain rfl : i = ws.length := by omega
   rw [List.take_length, ← hc0] at hC
   rw [← hc0] at hone hzl
   have hzl0 : (cirW L 0).2.length ≤ 3 := by rw [hzl]; simp; omega
   clear hc0 hzl
   refine cExit (kSeqE (kSeqE (kBlkS (kSeqN ?_))))
   refine cSeq (cSR ?_)
   refine sAs (v := nv 1) rfl ?_
   refine sN ?_
   refine cBlock ?_
   refine wpC_loop (fun k ρ m2 => ∃ j, k = 2 ^ n - (j + 1) ∧ j + 1 ≤ 2 ^ n ∧ CI m fb rb cap n m m2 (cirW L j) ∧ FInv n (j + 1) (cirW L j).1 ∧ (cirW L j).2.length ≤ 3 + 6 * j ∧ Has ρ [(2, .pointer (some ⟨m.size, 0, none⟩)), (6, .pointer (some ⟨fb, 0, none⟩)), (7, .pointer (some ⟨fb + 1, 0, none⟩)), (8, .func (.func 74) #[] #[.pointer (some ⟨fb + 1, 0, none⟩), .pointer (some ⟨fb, 0, none⟩)]), (11, nv (j + 1))]) ⟨0, rfl, hp, hC.weak, hone, hzl0, rfl, rfl, rfl, rfl, rfl, trivial⟩ ?_
   rintro k ρ m2 ⟨j, rfl, hj, hC2, hI2, hlen2, hh⟩
   rw [hh.env]; clear hh
   obtain ⟨vj, cj, jB, jF, jr, jz, jlo, jres, jg, jK, jKz⟩ := hC2
   have hC2 : CI m fb rb cap n m m2 (cirW L j) := ⟨vj, cj, jB, jF, jr, jz, jlo, jres, jg, jK, jKz⟩
   have jF1 := jF.1
   rw [hI2.1] at jF1
   refine cSeq (cSR ?_)
   refine sMn rfl ?_
   refine sLd (v := .slice _ _ _) A22 rfl jF1 rfl ?_
   refine sLen T22 rfl ?_
   refine sBin rfl rfl (aInt_lss) ?_
   refine sN ?_
   refine cCond rfl (fun c2 => ?_) (fun c2 => ?_)
   ·
    refine cSkip (kSeqN ?_)
    refine cSeq (cBlock (cSeq (cBlock ?_)))
    refine wpC_loop (fun k' ρ m3 => ∃ s f, k' = (wiresM (offM (j + 1) (s.1.getD (j + 1) 0))).length ∧ (wiresM (offM (j + 1) (s.1.getD (j + 1) 0))).length ≤ f ∧ upW (j + 1) f s = upW (j + 1) 3 (cirW L j) ∧ CI m fb rb cap n m m3 s ∧ FInv n (j + 1) s.1 ∧ s.2.length + f ≤ 6 + 6 * j ∧ Has ρ [(2, .pointer (some ⟨m.size, 0, none⟩)), (6, .pointer (some ⟨fb, 0, none⟩)), (7, .pointer (some ⟨fb + 1, 0, none⟩)), (8, .func (.func 74) #[] #[.pointer (some ⟨fb + 1, 0, none⟩), .pointer (some ⟨fb, 0, none⟩)]), (11, nv (j + 1))]) ⟨cirW L j, 3, rfl, (off_facts _ (by have := (hI2.at c2).2; omega) _ (by omega)).1, rfl, hC2, hI2, by omega, rfl, rfl, rfl, rfl, rfl, trivial⟩ ?_
    rintro k' ρ m3 ⟨s, f, rfl, hf, hup, hC3, hI3, hlen3, hh⟩
    rw [hh.env]; clear hh
    obtain ⟨hs0, hs1⟩ := hI3.at c2
    generalize hA : s.1.getD (j + 1) 0 = A at *
    obtain ⟨v3, c3', b3B, b3F, b3r, b3z, b3lo, b3res, b3g, b3K, b3Kz⟩ := hC3
    have hC3 : CI m fb rb cap n m m3 s := ⟨v3, c3', b3B, b3F, b3r, b3z, b3lo, b3res, b3g, b3K, b3Kz⟩
    have b3F1 := b3F.1
    rw [hI3.1] at b3F1
    have hca : c3'[0 + (j + 1) * 1]? = some (nv A) := by simpa using b3F.2.2.2 _ _ hs0
    refine cSeq (cSR ?_)
    refine sLd (v := .slice _ _ _) A22 rfl b3F1 rfl ?_
    refine sMn rfl ?_
    refine sIx T22 S3 rfl rfl (by omega) ?_
    refine sLd (v := nv A) A3 rfl b3F.2.1 hca ?_
    refine sMn rfl ?_
    refine sBin (a := A) (b := j + 1) rfl rfl (aInt_and (by omega)) ?_
    refine sMn rfl ?_
    refine sBin (a := A &&& (j + 1)) (b := j + 1) rfl rfl aInt_neq ?_
    refine sN ?_
    refine cCond (p := ¬ A &&& (j + 1) = j + 1) rfl (fun c3 => ?_) (fun c3 => ?_)
    ·
     obtain ⟨f1, f2, f3, _, _, _⟩ := up_facts n (by omega) _ hs1 _ c2 c3
     have hstep := hI3.up hn3 c2 (by rw [hA]; exact c3)
     rw [hA] at hstep
     obtain ⟨kk, tl, hkk⟩ : ∃ kk tl, wiresM (offM (j + 1) A) = kk :: tl := by
      cases h : wiresM (offM (j + 1) A) with
      | nil => rw [h] at f1; exact absurd rfl f1
      | cons a b => exact ⟨a, b, rfl⟩
     have hgate : upGate (j + 1) A = (kindM (wiresM A).length, wiresM A ++ [kk]) := by unfold upGate turnG; rw [hkk]; rfl
     have hofl := offM_le (j + 1) A
     refine cSkip (kSeqN ?_)
     refine cBlock ?_
     refine cDrawH (hs := [(9, 15), (10, 0), (13, 0)]) rfl (by decide) ?_
     refine lStepO (sMv rfl (sNil fun e0 hm0 => ?_))
     refine lStepO (sMv (v := nv _) rfl (sNil fun e1 hm1 => ?_))
     refine lStepLd (v := .slice _ _ _) A22 rfl b3F1 rfl fun e2 hm2 hv2 hr2 => ?_
     refine lStepO (sMv (v := nv _) rfl (sNil fun e3 hm3 => ?_))
     refine lStepO (sIx T22 S3 rfl rfl (by omega) (sNil fun e4 hm4 => ?_))
     refine lStepLd (v := nv A) A3 rfl b3F.2.1 hca fun e5 hm5 hv5 hr5 => ?_
     refine lStepO (sBin (a := j + 1) (b := A) rfl rfl (aInt_andNot (by omega)) (sNil fun e6 hm6 => ?_))
     obtain ⟨v62, m62, h62, o62, e62⟩ := spec_wires (m := m3) (x := offM (j + 1) A) (by omega)
     refine lStepO (sCall1 rfl call77 rfl h62 (sNil fun e7 hm7 => ?_))
     obtain ⟨bw, ow, pw, rw_, dw, ew, gw, xw⟩ := o62.ints.atN (by omega)
     cases ew
     have xw0 := xw 0 kk (by rw [hkk]; rfl)
     refine lStepO (sIx T22 S3 rfl rfl (show 0 < (wiresM (offM (j + 1) A)).length by omega) (sNil fun e8 hm8 => ?_))
     refine lStepLd (v := nv kk) A3 rfl gw xw0 fun e9 hm9 hv9 hr9 => ?_
     refine lStepLd (v := .slice _ _ _) A22 rfl (e62.cells b3F1) rfl fun e10 hm10 hv10 hr10 => ?_
     refine lStepO (sMv (v := nv _) rfl (sNil fun e11 hm11 => ?_))
     refine lStepO (sIx T22 S3 rfl rfl (by omega) (sNil fun e12 hm12 => ?_))
     refine lStepLd (v := nv A) A3 rfl (e62.cells b3F.2.1) hca fun e13 hm13 hv13 hr13 => ?_
     obtain ⟨v69, m69, h69, o69, e69⟩ := spec_wires (m := m62) (x := A) (by omega)
     refine lStepO (sCall1 rfl call77 rfl h69 (sNil fun e14 hm14 => ?_))
     obtain ⟨v70, m70, h70, w70, rfl, o70, e70⟩ := spec_turn (k := kk) o69.ints f2
     refine lStepO (sCall2 rfl call78 rfl rfl h70 (sNil fun e15 hm15 => ?_))
     obtain ⟨r71, m71, h71, hC71, z71⟩ := hC3.call (gk := kindM (wiresM A).length) ((e62.trans e69).trans e70) (o70.mono (by have := (e62.trans e69).1; omega)) (by simp) (by simp; omega) (fun y hy => by rw [← show (upGate (j + 1) A).2 = wiresM A ++ [kk] by rw [hgate]] at hy; have := f3 y hy; omega) (fun x hx => by have := hI3.2.1 x hx; omega) (by rw [hI3.1]; exact h8) (by omega)
     refine lStepO (sCallK rfl call74 rfl h71 (sNil fun e16 hm16 => ?_))
     refine ⟨?_, (kBlkN (kSeqN ?_))⟩
     ·
      refine obl_atE (e := e9) (e' := e15) (by simp) (by rfl) (by simp) ((hr9 e15.m _ _ (by rw [hm15]; exact e69.cells gw) xw0).trans (congrArg some hv9.symm)) ?_
      refine obl_atE (e := e10) (e' := e0) (by simp) (by rfl) (by simp) ((hr10 e0.m _ _ (by rw [hm0]; exact b3F1) (by rfl)).trans (congrArg some hv10.symm)) ?_
      refine obl_atE (e := e13) (e' := e0) (by simp) (by rfl) (by simp) ((hr13 e0.m _ _ (by rw [hm0]; exact b3F.2.1) hca).trans (congrArg some hv13.symm)) ?_
      trivial
     rw [← hgate] at hC71
     obtain ⟨f', rfl⟩ : ∃ f', f = f' + 1 := ⟨f - 1, by omega⟩
     rw [upW, hA, if_neg c3] at hup
     exact ⟨_, hstep.2, doW (upGate (j + 1) A) s, f', rfl, by have := hstep.2; show (wiresM (offM (j + 1) ((doL (upGate (j + 1) A).2 s.1).getD (j + 1) 0))).length ≤ f'; omega, hup, hC71, hstep.1, by rw [doW_len]; omega, rfl, rfl, rfl, rfl, rfl, trivial⟩
    ·
     have ha3 := Decidable.not_not.1 c3
     rw [upW_done (by rw [hA]; exact ha3)] at hup
     refine cExit (kSeqE (kSeqE (kBlkS (kSeqN ?_))))
     refine cBlock ?_
     refine wpC_loop (fun k' ρ m4 => ∃ s f, k' = (wiresM (offM (s.1.getD (j + 1) 0) (j + 1))).length ∧ (wiresM (offM (s.1.getD (j + 1) 0) (j + 1))).length ≤ f ∧ dnW (j + 1) f s = cirW L (j + 1) ∧ CI m fb rb cap n m m4 s ∧ FInv n (j + 1) s.1 ∧ s.1.getD (j + 1) 0 &&& (j + 1) = j + 1 ∧ s.2.length + f ≤ 9 + 6 * j ∧ Has ρ [(2, .pointer (some ⟨m.size, 0, none⟩)), (6, .pointer (some ⟨fb, 0, none⟩)), (7, .pointer (some ⟨fb + 1, 0, none⟩)), (8, .func (.func 74) #[] #[.pointer (some ⟨fb + 1, 0, none⟩), .pointer (some ⟨fb, 0, none⟩)]), (11, nv (j + 1))]) ⟨s, 3, rfl, by rw [hA]; exact (off_facts _ (by omega) _ (by omega)).2, by rw [hup]; rfl, hC3, hI3, by rw [hA]; exact ha3, by omega, rfl, rfl, rfl, rfl, rfl, trivial⟩ ?_
     clear hA hs0 hs1 ha3 c3 hca hC3 b3F1 b3Kz b3K b3g b3res b3lo b3z b3r b3F b3B
     clear hup hlen3 hI3 hf
     rintro k' ρ m4 ⟨s, f, rfl, hf, hdn, hC3, hI3, hand, hlen3, hh⟩
     rw [hh.env]; clear hh
     obtain ⟨hs0, hs1⟩ := hI3.at c2
     generalize hA : s.1.getD (j + 1) 0 = A at *
     obtain ⟨v3, c3', b3B, b3F, b3r, b3z, b3lo, b3res, b3g, b3K, b3Kz⟩ := hC3
     have hC3 : CI m fb rb cap n m m4 s := ⟨v3, c3', b3B, b3F, b3r, b3z, b3lo, b3res, b3g, b3K, b3Kz⟩
     have b3F1 := b3F.1
     rw [hI3.1] at b3F1
     have hca : c3'[0 + (j + 1) * 1]? = some (nv A) := by simpa using b3F.2.2.2 _ _ hs0
     refine cSeq (cSR ?_)
     refine sLd (v := .slice _ _ _) A22 rfl b3F1 rfl ?_
     refine sMn rfl ?_
     refine sIx T22 S3 rfl rfl (by omega) ?_
     refine sLd (v := nv A) A3 rfl b3F.2.1 hca ?_
     refine sMn rfl ?_
     refine sBin (a := A) (b := j + 1) rfl rfl aInt_neq ?_
     refine sN ?_
     refine cCond (p := ¬ A = j + 1) rfl (fun c4 => ?_) (fun c4 => ?_)
     ·
      obtain ⟨f1, f2, f3, _, _, _⟩ := dn_facts n (by omega) _ hs1 _ c2 hand c4
      have hstep := hI3.dn hn3 c2 (by rw [hA]; exact hand) (by rw [hA]; exact c4)
      rw [hA] at hstep
      obtain ⟨kk, tl, hkk⟩ : ∃ kk tl, wiresM (offM A (j + 1)) = kk :: tl := by
       cases h : wiresM (offM A (j + 1)) with
       | nil => rw [h] at f1; exact absurd rfl f1
       | cons a b => exact ⟨a, b, rfl⟩
      have hgate : dnGate (j + 1) A = (kindM (wiresM (j + 1)).length, wiresM (j + 1) ++ [kk]) := by unfold dnGate turnG; rw [hkk]; rfl
      have hofl := offM_le A (j + 1)
      refine cSkip (kSeqN ?_)
      refine cBlock ?_
      refine cDrawH (hs := [(9, 12)]) rfl (by decide) ?_
      refine lStepO (sMv rfl (sNil fun e0 hm0 => ?_))
      refine lStepLd (v := .slice _ _ _) A22 rfl b3F1 rfl fun e1 hm1 hv1 hr1 => ?_
      refine lStepO (sMv (v := nv _) rfl (sNil fun e2 hm2 => ?_))
      refine lStepO (sIx T22 S3 rfl rfl (by omega) (sNil fun e3 hm3 => ?_))
      refine lStepLd (v := nv A) A3 rfl b3F.2.1 hca fun e4 hm4 hv4 hr4 => ?_
      refine lStepO (sMv (v := nv _) rfl (sNil fun e5 hm5 => ?_))
      refine lStepO (sBin (a := A) (b := j + 1) rfl rfl (aInt_andNot (by omega)) (sNil fun e6 hm6 => ?_))
      obtain ⟨v62, m62, h62, o62, e62⟩ := spec_wires (m := m4) (x := offM A (j + 1)) (by omega)
      refine lStepO (sCall1 rfl call77 rfl h62 (sNil fun e7 hm7 => ?_))
      obtain ⟨bw, ow, pw, rw_, dw, ew, gw, xw⟩ := o62.ints.atN (by omega)
      cases ew
      have xw0 := xw 0 kk (by rw [hkk]; rfl)
      refine lStepO (sIx T22 S3 rfl rfl (show 0 < (wiresM (offM A (j + 1))).length by omega) (sNil fun e8 hm8 => ?_))
      refine lStepLd (v := nv kk) A3 rfl gw xw0 fun e9 hm9 hv9 hr9 => ?_
      refine lStepO (sMv (v := nv _) rfl (sNil fun e10 hm10 => ?_))
      obtain ⟨v69, m69, h69, o69, e69⟩ := spec_wires (m := m62) (x := j + 1) (by omega)
      refine lStepO (sCall1 rfl call77 rfl h69 (sNil fun e11 hm11 => ?_))
      obtain ⟨v70, m70, h70, w70, rfl, o70, e70⟩ := spec_turn (k := kk) o69.ints f2
      refine lStepO (sCall2 rfl call78 rfl rfl h70 (sNil fun e12 hm12 => ?_))
      obtain ⟨r71, m71, h71, hC71, z71⟩ := hC3.call (gk := kindM (wiresM (j + 1)).length) ((e62.trans e69).trans e70) (o70.mono (by have := (e62.trans e69).1; omega)) (by simp) (by simp; omega) (fun y hy => by rw [← show (dnGate (j + 1) A).2 = wiresM (j + 1) ++ [kk] by rw [hgate]] at hy; have := f3 y hy; omega) (fun x hx => by have := hI3.2.1 x hx; omega) (by rw [hI3.1]; exact h8) (by omega)
      refine lStepO (sCallK rfl call74 rfl h71 (sNil fun e13 hm13 => ?_))
      refine ⟨?_, (kBlkN (kSeqN ?_))⟩
      ·
       refine obl_atE (e := e9) (e' := e12) (by simp) (by rfl) (by simp) ((hr9 e12.m _ _ (by rw [hm12]; exact e69.cells gw) xw0).trans (congrArg some hv9.symm)) ?_
       trivial
      rw [← hgate] at hC71
      obtain ⟨f', rfl⟩ : ∃ f', f = f' + 1 := ⟨f - 1, by omega⟩
      rw [dnW, hA, if_neg c4] at hdn
      exact ⟨_, hstep.2.2, doW (dnGate (j + 1) A) s, f', rfl, by have := hstep.2.2; show (wiresM (offM ((doL (dnGate (j + 1) A).2 s.1).getD (j + 1) 0) (j + 1))).length ≤ f'; omega, hdn, hC71, hstep.1, hstep.2.1, by rw [doW_len]; omega, rfl, rfl, rfl, rfl, rfl, trivial⟩
     ·
      have ha4 := Decidable.not_not.1 c4
      rw [dnW_done (by rw [hA]; exact ha4)] at hdn
      subst hdn
      refine cExit (kSeqE (kSeqE (kBlkS (kBlkN (kSeqN ?_)))))
      refine cRegion ?_
      refine sMn rfl ?_
      refine sBin rfl rfl (aInt_add (b := 1) (by omega)) ?_
      refine sAn rfl ?_
      refine sN ?_
      refine ⟨_, ?_, j + 1, rfl, by omega, hC3, hI3.next c2 (by rw [hA]; exact ha4), by omega, rfl, rfl, rfl, rfl, rfl, trivial⟩
      omega
   ·
    obtain hj2 : j = L.length - 1 := by omega
    subst hj2
    have jB1 := jB.1
    obtain ⟨_, _, cg, jO⟩ := jB
    refine cExit (kSeqE (kSeqE (kBlkS (kSeqN ?_))))
    refine cSR ?_
    refine sFA F96_0 rfl ?_
    refine sFA F30_2 rfl ?_
    refine sLd (v := vj) A28 rfl jB1 rfl ?_
    obtain ⟨v95, m95, h95, c95, o95, e95⟩ := spec_back jO.read (by omega) (fun g hg => by have := jg g hg; omega)
    obtain ⟨q95, cc95, rfl⟩ := o95.1.len
    refine sCall1 rfl call79 rfl h95 ?_
    have g95 := e95.cells jB1
    have z95 := e95.1
    refine sFA F96_0 rfl ?_
    refine sFA F30_2 rfl ?_
    refine sSt (v := .slice _ _ _) S28 rfl rfl g95 (by simp) rfl rfl ?_
    refine sN ?_
    refine cSR ?_
    refine sFA F96_0 rfl ?_
    refine sLdAll A30 S30 rfl (gS rfl (live g95)) (by rfl) ?_
    refine sStAll S30 rfl rfl (gSn (by omega) |>.trans (e95.cells jres)) (by rfl) (by rfl) (by kernel_rfl) ?_
    refine sAn rfl ?_
    refine sN ?_
    refine cRet ?_
    refine ⟨.inr rfl, _, resRs_agg2 A30 S30 rfl (gS rfl (by simp; omega)) rfl, .slice q95 _ cc95, c95, rfl, ?_, ?_⟩
    ·exact (o95.keepC fun b c hb h => (gSn (by omega)).trans ((gSn (by omega)).trans h)).mono (by omega)
    ·exact ⟨by simp; omega, fun b hb => by rw [gSn (by omega), gSn (by omega), e95.2 b (by omega)]; exact jlo b hb⟩
end Go.AM

/-! N4 -/
namespace Go.AM
open Go.Proofs
theorem U116 : ∃ fs, undOf Tryd.prog 116 = some (.struct fs) ∧ fs.toList.map (fun f => (f.type, f.offset, decide (f.name ≠ "_"))) = [(109, 0, true), (3, 8, true), (3, 9, true)] := by
 have h : (match undOf Tryd.prog 116 with
  | some (.struct fs) => decide (fs.toList.map (fun f => (f.type, f.offset, decide (f.name ≠ "_"))) = [(109, 0, true), (3, 8, true), (3, 9, true)])
  | _ => false) = true := by kernel_rfl
 split at h
 ·rename_i fs e; exact ⟨fs, e, of_decide_eq_true h⟩
 ·cases h
theorem held116 : Tryd.prog.stoodInHeld 116 = false := by kernel_rfl
theorem map3 {α β : Type} {f : α → β} {l : List α} {a b c : β} (h : l.map f = [a, b, c]) : ∃ x y z, l = [x, y, z] ∧ f x = a ∧ f y = b ∧ f z = c := by
 match l, h with
 | [x, y, z], h => simp at h; exact ⟨x, y, z, rfl, h.1, h.2.1, h.2.2⟩
 | [], h => simp at h
 | [_], h => simp at h
 | [_, _], h => simp at h
 | _ :: _ :: _ :: _ :: _, h => simp at h
theorem eqI3 {d : Nat} {a b : Int} : aEq Tryd.prog (d + 1) 3 (.int .i64 a) (.int .i64 b) = some (a == b) := by
 have hu : undOf Tryd.prog 3 = some (.int .i64) := U3
 unfold aEq
 simp only [hu, aEq0, if_true]
theorem eqElemsD {d : Nat} {t u : List Nat} (ht : t.length = 8) (hu : u.length = 8) : ∀ k i, i + k = 8 → aEqElems (aEq Tryd.prog (d + 1)) Tryd.prog 3 1 k i (cellsN t) (cellsN u) = some (decide (t.drop i = u.drop i))
 | 0, i, h => by
  have h8 : i = 8 := by omega
  subst h8
  rw [List.drop_eq_nil_of_le (by omega), List.drop_eq_nil_of_le (by omega)]
  rfl
 | k + 1, i, h => by
  have hi : i < t.length := by omega
  have hj : i < u.length := by omega
  have h1 : (cellsN t)[i]? = some (nv t[i]) := cellsN_get (List.getElem?_eq_getElem hi)
  have h2 : (cellsN u)[i]? = some (nv u[i]) := cellsN_get (List.getElem?_eq_getElem hj)
  unfold aEqElems
  simp only [part3 h1, part3 h2, eqI3]
  rw [List.drop_eq_getElem_cons hi, List.drop_eq_getElem_cons hj]
  by_cases he : t[i] = u[i]
  ·have hb : (Int.ofNat t[i] == Int.ofNat u[i]) = true := by rw [he]; simp
   rw [hb]
   simp only []
   rw [eqElemsD ht hu k (i + 1) (by omega)]
   congr 1
   exact decide_eq_decide.2 ⟨fun h => by rw [h, he], fun h => (List.cons.inj h).2⟩
  ·have hb : (Int.ofNat t[i] == Int.ofNat u[i]) = false := by
    rw [beq_eq_false_iff_ne]
    exact fun e => he (Int.ofNat.inj e)
   rw [hb]
   simp only []
   congr 1
   exact (decide_eq_false (fun h => he (List.cons.inj h).1)).symm
theorem eqSmD {d : Nat} {t u : List Nat} (ht : t.length = 8) (hu : u.length = 8) : aEq Tryd.prog (d + 2) 109 (smV t) (smV u) = some (decide (t = u)) := by
 unfold smV
 unfold aEq
 simp only [T109, S3]
 rw [eqElemsD ht hu 8 0 rfl]
 simp
theorem part109 {e : Met} (h : e.src.length = 8) : aPart Tryd.prog 109 (cellsN e.src ++ #[.int .i64 e.gate, nv e.many]) 0 = some (smV e.src) := by
 obtain ⟨t, s, g, q⟩ := e
 obtain ⟨a0, a1, a2, a3, a4, a5, a6, a7, rfl⟩ := len8 h
 kernel_rfl
theorem part8 {e : Met} (h : e.src.length = 8) : aPart Tryd.prog 3 (cellsN e.src ++ #[.int .i64 e.gate, nv e.many]) 8 = some (.int .i64 e.gate) := by
 obtain ⟨t, s, g, q⟩ := e
 obtain ⟨a0, a1, a2, a3, a4, a5, a6, a7, rfl⟩ := len8 h
 kernel_rfl
theorem part9 {e : Met} (h : e.src.length = 8) : aPart Tryd.prog 3 (cellsN e.src ++ #[.int .i64 e.gate, nv e.many]) 9 = some (.int .i64 (Int.ofNat e.many)) := by
 obtain ⟨t, s, g, q⟩ := e
 obtain ⟨a0, a1, a2, a3, a4, a5, a6, a7, rfl⟩ := len8 h
 kernel_rfl
theorem eqStep {k : Nat} {e d : Met} (he : e.src.length = 8) (hd : d.src.length = 8) : aEq Tryd.prog (k + 3) 116 (stepV e) (stepV d) = some (decide (e.src = d.src ∧ e.gate = d.gate ∧ e.many = d.many)) := by
 obtain ⟨fs, h1, h2⟩ := U116
 obtain ⟨x, y, z, hl, hx, hy, hz⟩ := map3 h2
 simp only [Prod.mk.injEq, decide_eq_true_eq] at hx hy hz
 obtain ⟨x1, x2, x3⟩ := hx
 obtain ⟨y1, y2, y3⟩ := hy
 obtain ⟨z1, z2, z3⟩ := hz
 unfold stepV aEq
 simp only [h1, held116, hl]
 simp only [aEqFields, if_pos x3, if_pos y3, if_pos z3, x1, x2, y1, y2, z1, z2, part109 he, part109 hd, part8 he, part8 hd, part9 he, part9 hd, eqSmD he hd, eqI3]
 by_cases h1 : e.src = d.src
 ·by_cases h2 : e.gate = d.gate
  ·by_cases h3 : e.many = d.many
   ·simp [h1, h2, h3]
   ·have hb : (Int.ofNat e.many == Int.ofNat d.many) = false := beq_eq_false_iff_ne.2 fun q => h3 (Int.ofNat.inj q)
    rw [hb]; simp [h1, h2, h3]
  ·have hb : (e.gate == d.gate) = false := beq_eq_false_iff_ne.2 h2
   rw [hb]; simp [h1, h2]
 ·simp [h1]
theorem eqSmB {t u : List Nat} (ht : t.length = 8) (hu : u.length = 8) : aBin Tryd.prog .eql 109 (smV t) (smV u) = some (.bool (decide (t = u))) := by
 have h : eqAble Tryd.prog 109 (smV t) = true := by
  show (!Tryd.prog.eqGuardType Tryd.prog.depth 109) = true
  kernel_rfl
 have he := eqSmD (d := eqDepth - 2) ht hu
 rw [show eqDepth - 2 + 2 = eqDepth from rfl] at he
 unfold smV at h he ⊢
 simp only [aBin, h, if_true]
 rw [he]; rfl
theorem neStepB {e d : Met} (he : e.src.length = 8) (hd : d.src.length = 8) : aBin Tryd.prog .neq 116 (stepV e) (stepV d) = some (.bool (decide ¬ (e.src = d.src ∧ e.gate = d.gate ∧ e.many = d.many))) := by
 have h : eqAble Tryd.prog 116 (stepV e) = true := by
  show (!Tryd.prog.eqGuardType Tryd.prog.depth 116) = true
  kernel_rfl
 have hq := eqStep (k := eqDepth - 3) he hd
 rw [show eqDepth - 3 + 3 = eqDepth from rfl] at hq
 unfold stepV at h hq ⊢
 simp only [aBin, h, if_true]
 rw [hq, decide_not]; rfl
theorem fld116_0 {e : Met} (h : e.src.length = 8) : aField Tryd.prog 116 (stepV e) 0 = some (smV e.src) := by
 obtain ⟨t, s, g, q⟩ := e
 obtain ⟨a0, a1, a2, a3, a4, a5, a6, a7, rfl⟩ := len8 h
 kernel_rfl
theorem fld116_1 {e : Met} (h : e.src.length = 8) : aField Tryd.prog 116 (stepV e) 1 = some (.int .i64 e.gate) := by
 obtain ⟨t, s, g, q⟩ := e
 obtain ⟨a0, a1, a2, a3, a4, a5, a6, a7, rfl⟩ := len8 h
 kernel_rfl
/-- Each table but the first one was met behind another one. -/
def MetOk (n : Nat) (L : List Met) : Prop := ∀ e ∈ L, e = met0 n ∨ ∃ e' ∈ L, ∃ k g, (gatesM n)[k]? = some g ∧ e = stepOf n e' g k
theorem MetOk.try {n k : Nat} {L : List Met} {e : Met} {g : Nat × List Nat} (h : MetOk n L) (he : e ∈ L) (hk : (gatesM n)[k]? = some g) : MetOk n (tryR n e g k L) := by
 unfold tryR
 split
 ·exact h
 ·intro x hx
  rw [List.mem_append] at hx
  rcases hx with hx | hx
  ·rcases h x hx with h1 | ⟨e', h1, k', g', h2, h3⟩
   ·exact .inl h1
   ·exact .inr ⟨e', List.mem_append_left _ h1, k', g', h2, h3⟩
  ·simp at hx
   exact .inr ⟨e, List.mem_append_left _ he, k, g, hk, hx⟩
theorem mem_tryR {n k : Nat} {L : List Met} {e x : Met} {g : Nat × List Nat} (h : x ∈ L) : x ∈ tryR n e g k L := by
 unfold tryR
 split
 ·exact h
 ·exact List.mem_append_left _ h
theorem MetOk.tries {n : Nat} {e : Met} : ∀ (gs : List (Nat × List Nat)) (k : Nat) (L : List Met), (∀ (i : Nat) g, gs[i]? = some g → (gatesM n)[k + i]? = some g) → MetOk n L → e ∈ L → MetOk n (triesR n e gs k L) ∧ e ∈ triesR n e gs k L
 | [], k, L, _, h, he => ⟨h, he⟩
 | g :: gs, k, L, hg, h, he =>
  MetOk.tries gs (k + 1) _ (fun i g' hi => by
   have := hg (i + 1) g' hi
   rwa [show k + (i + 1) = k + 1 + i by omega] at this) (h.try he (hg 0 g rfl)) (mem_tryR he)
theorem MetOk.run {n most : Nat} : ∀ (f i : Nat) (L : List Met), MetOk n L → MetOk n (runR n most f i L)
 | 0, i, L, h => h
 | f + 1, i, L, h => by
  simp only [runR]
  split
  ·rename_i e he
   refine MetOk.run f (i + 1) _ ?_
   unfold roundR
   split
   ·exact h
   ·exact (MetOk.tries _ 0 L (fun j g hj => by rwa [Nat.zero_add]) h (List.mem_of_getElem? he)).1
  ·exact h
theorem reachM_met (n most : Nat) : MetOk n (reachM n most) := MetOk.run _ _ _ fun e he => by
 simp at he; exact .inl he
/-- The way to a table, from its end. -/
def pathM (n : Nat) (L : List Met) : Nat → List Nat → List (Nat × List Nat)
  | 0, _ => []
  | f + 1, t => match metFind t L with
    | some e => if e.many = 0 then [] else (gatesM n).getD e.gate.toNat (0, []) :: pathM n L f e.src
    | none => []
/-- A permutation as a table of eight numbers. -/
def tab8 (p : List Nat) : List Nat := p ++ List.replicate (8 - p.length) 0
def shortE (p : List Int) (most : Int) : Nat :=
  if wideE p ≠ 0 then wideE p else if most < 0 ∨ 4 < most then 3 else if tab8 (nats p) = idM (lenN p.length) then 0 else if (metFind (tab8 (nats p)) (reachM (lenN p.length) most.toNat)).isSome then 0 else 6
def shortP (p : List Int) (most : Int) : List (Nat × List Nat) :=
  if shortE p most = 0 then (if tab8 (nats p) = idM (lenN p.length) then [] else (pathM (lenN p.length) (reachM (lenN p.length) most.toNat) 6 (tab8 (nats p))).reverse) else []
def shortN (p : List Int) (most : Int) : Nat := if shortE p most = 0 then lenN p.length else 0
end Go.AM
namespace Go.AM
theorem live_map {m : Mem} {b : Nat} {r : Bool} {l : List (Value × Value)} (h : Mem.get m b = .map r l) : b < m.size := by
 rcases Nat.lt_or_ge b m.size with h1 | h1
 ·exact h1
 ·unfold Mem.get at h
  simp [Array.getElem?_eq_none h1] at h
def ManyLe (most : Nat) (L : List Met) : Prop := ∀ e ∈ L, e.many ≤ most
theorem ManyLe.tries {n most : Nat} {e : Met} (he : e.many + 1 ≤ most) : ∀ (gs : List (Nat × List Nat)) (k : Nat) (L : List Met), ManyLe most L → ManyLe most (triesR n e gs k L)
 | [], k, L, h => h
 | g :: gs, k, L, h => ManyLe.tries he gs (k + 1) _ (by
   unfold tryR
   split
   ·exact h
   ·intro x hx
    rw [List.mem_append] at hx
    rcases hx with hx | hx
    ·exact h x hx
    ·simp at hx; subst hx; exact he)
theorem ManyLe.run {n most : Nat} : ∀ (f i : Nat) (L : List Met), ManyLe most L → ManyLe most (runR n most f i L)
 | 0, i, L, h => h
 | f + 1, i, L, h => by
  simp only [runR]
  split
  ·rename_i e he
   refine ManyLe.run f (i + 1) _ ?_
   unfold roundR
   split
   ·exact h
   ·rename_i hne
    have := h e (List.mem_of_getElem? he)
    exact ManyLe.tries (by omega) _ 0 L h
  ·exact h
theorem reachM_many (n most : Nat) : ManyLe most (reachM n most) := ManyLe.run _ _ _ fun e he => by
 simp at he; subst he; exact Nat.zero_le _
end Go.AM

/-! R18 -/
namespace Go.AM
open Go.Proofs
theorem len2 {t : List Nat} (h : t.length = 2) : ∃ a0 a1, t = [a0, a1] := by
 match t, h with
 | [a0, a1], _ => exact ⟨_, _, rfl⟩
theorem len4 {t : List Nat} (h : t.length = 4) : ∃ a0 a1 a2 a3, t = [a0, a1, a2, a3] := by
 match t, h with
 | [a0, a1, a2, a3], _ => exact ⟨_, _, _, _, rfl⟩
theorem lay8 {L : List Nat} (h : L.length = 2 ∨ L.length = 4 ∨ L.length = 8) : lay #[nv 0, nv 0, nv 0, nv 0, nv 0, nv 0, nv 0, nv 0] 0 (cellsI (ofs L)) = cellsN (tab8 L) := by
 rcases h with h | h | h
 ·obtain ⟨a0, a1, rfl⟩ := len2 h
  kernel_rfl
 ·obtain ⟨a0, a1, a2, a3, rfl⟩ := len4 h
  kernel_rfl
 ·obtain ⟨a0, a1, a2, a3, a4, a5, a6, a7, rfl⟩ := len8 h
  kernel_rfl
theorem tab8_len {L : List Nat} (h : L.length = 2 ∨ L.length = 4 ∨ L.length = 8) : (tab8 L).length = 8 := by
 unfold tab8; rw [List.length_append, List.length_replicate]; omega
theorem sCopyT {ρ : Env} {m : Mem} {K : Env → Mem → Prop} {ops : Array Oper} {l : List Oper} {d : Option Nat} {ty : TypeId} {pos : String} {af : Array Edge} {x y : Operand} {b : Nat} {L : List Nat} {w : Value} (hx : evR ρ x = .slice (some ⟨b, 0, some 1⟩) 8 8) (hb : Mem.get m b = .cells true #[nv 0, nv 0, nv 0, nv 0, nv 0, nv 0, nv 0, nv 0]) (hy : evR ρ y = w) (hw : IntsAt m w (ofs L)) (hL : L.length = 2 ∨ L.length = 4 ∨ L.length = 8)
  (hk : wpOps Tryd.prog ops K l (updO ρ d (nv L.length)) (m.setIfInBounds b (.cells true (cellsN (tab8 L))))) : wpOps Tryd.prog ops K (⟨d, .call ⟨.builtin .copy, ⟨[x, y]⟩, ⟨[22, 22]⟩⟩, ty, pos, af, none⟩ :: l) ρ m := by
 have hl : aLenOf w = some L.length := by rw [hw.lenOf, ofs_length]
 have hf := first_ints hw
 rw [ofs_length] at hf
 refine sO (opF_eff rfl rfl ?_) hk
 have hmin : min L.length 8 = L.length := by omega
 have hsz : (cellsI (ofs L)).size = L.length := by simp [cellsI, ofs]
 have hone : (cellsI (ofs L)).all Value.oneCell' = true := all_of_get fun i v hi => by
  rw [cellsI_get] at hi
  obtain ⟨x, _, rfl⟩ := Option.map_eq_some_iff.1 hi; rfl
 simp only [aEff, hx, hy, aCopy, T22, S3, hl, if_true, hmin, hb, hf]
 rw [if_neg (by omega), if_pos ⟨by rw [hsz]; simp; omega, hone⟩, lay8 hL]
 rfl
def H29r : Nat → List (Nat × Nat) := fun id => if id = 8 then [(0, 3)] else []
theorem okf29 : okF Tryd.prog H29r 29 91 = true := by kernel_rfl
theorem spec_Shortest {m : Mem} {a : Value} {p : List Int} {most : Int} (ha : IntsAt m a p) (hl : p.length < 1000000) : ∃ v m', ACalls Tryd.prog 29 #[a, .int .i64 most] m v m' ∧ (∃ s cs, v = .tuple #[.agg #[nv (shortN p most), nv 0, s], nv (shortE p most)] ∧ OwnG m.size m' s cs (shortP p most) ∧ Ext m m') := by
 obtain ⟨qp, capp, rfl⟩ := ha.len
 refine wpF (args := [_, _]) mixed okf29 (fn := Tryd.f29) rfl rfl rfl (by simp) ?_
 refine cSR ?_
 refine sAlloc Z30 (by kernel_rfl) ?_
 change wpOps _ _ _ _ _ (m.push (.cells true #[nv 0, nv 0, .slice none 0 0]))
 have x1 : Ext m (m.push (.cells true #[nv 0, nv 0, .slice none 0 0])) := .push _ _
 have g1 : Mem.get (m.push (.cells true #[nv 0, nv 0, .slice none 0 0])) m.size = .cells true #[nv 0, nv 0, .slice none 0 0] := gP rfl
 have z1 : (m.push (.cells true #[nv 0, nv 0, .slice none 0 0])).size = m.size + 1 := by simp
 generalize m.push (.cells true #[nv 0, nv 0, .slice none 0 0]) = m1 at *
 refine sAn rfl ?_
 refine sN ?_
 refine cSR ?_
 refine sMs rfl ?_
 obtain ⟨v14, m14, h14, rfl, x14⟩ := spec_Wide (ha.ext x1) hl
 refine sCall1 rfl call16 rfl h14 ?_
 have g14 := x14.cells g1
 have z14 := x14.1
 have hfail : ∀ er : Nat, shortE p most = er → er ≠ 0 → ∃ s cs, (Value.tuple #[.agg #[nv 0, nv 0, .slice none 0 0], nv er] : Value) = .tuple #[.agg #[nv (shortN p most), nv 0, s], nv (shortE p most)] ∧ OwnG m.size (m14.setIfInBounds m.size (.cells true #[nv 0, nv 0, .slice none 0 0])) s cs (shortP p most) ∧ Ext m (m14.setIfInBounds m.size (.cells true #[nv 0, nv 0, .slice none 0 0])) := by
  intro er h1 h2
  refine ⟨.slice none 0 0, #[], ?_, ?_, (x1.trans x14).set (Nat.le_refl _) _⟩
  ·rw [h1, shortN, h1, if_neg h2]
  ·rw [shortP, h1, if_neg h2]; exact .nil _ _
 refine sMv (v := .tuple _) rfl ?_
 refine sP (v := nv _) rfl ?_
 refine sP (v := nv _) rfl ?_
 refine sAn rfl ?_
 refine sAn rfl ?_
 refine sN ?_
 refine cSeq (cBlock (cSR ?_))
 refine sMn rfl ?_
 refine sBin (a := wideE p) (b := 0) rfl rfl aInt_neq ?_
 refine sAb rfl ?_
 refine sN ?_
 refine cCond (p := wideE p ≠ 0) rfl (fun c0 => ?_) (fun c0 => ?_)
 ·
  refine cSR ?_
  refine sBuild B57_0 ?_
  refine sMn rfl ?_
  refine sStAll S30 rfl rfl g14 rfl rfl (by kernel_rfl) ?_
  refine sAn rfl ?_
  refine sN ?_
  refine cRet (kBlkR (kSeqR ?_))
  exact ⟨.inr rfl, _, resRs_agg2 A30 S30 rfl (gS rfl (live g14)) rfl, hfail _ (by rw [shortE, if_pos c0]) c0⟩
 ·
  have h0 := Decidable.not_not.1 c0
  refine cSR ?_
  refine sMv (v := .int _ _) rfl ?_
  refine sBinI (v := .bool (decide (most < 0))) rfl rfl aInt_lssI ?_
  refine sMb rfl ?_
  by_cases hng : most < 0
  ·
   rw [decide_eq_true hng]
   refine sGT rfl rfl ?_
   refine sGT rfl rfl ?_
   refine sPb rfl ?_
   refine sAb rfl ?_
   refine sN ?_
   refine cCondT rfl ?_
   refine cSR ?_
   refine sBuild B57_0 ?_
   refine sStAll S30 rfl rfl g14 rfl rfl (by kernel_rfl) ?_
   refine sAs (v := nv 3) rfl ?_
   refine sN ?_
   refine cRet (kBlkR (kSeqR ?_))
   exact ⟨.inr rfl, _, resRs_agg2 A30 S30 rfl (gS rfl (live g14)) rfl, hfail 3 (by rw [shortE, if_neg (by omega), if_pos (.inl hng)]) (by decide)⟩
  ·
   rw [decide_eq_false hng]
   refine sG rfl rfl ?_
   refine sMv (v := .int _ _) rfl ?_
   refine sG rfl rfl ?_
   refine sBinI (v := .bool (decide (4 < most))) rfl rfl aInt_gtrI ?_
   refine sPb rfl ?_
   refine sAb rfl ?_
   refine sN ?_
   refine cCond (p := 4 < most) rfl (fun c2 => ?_) (fun c2 => ?_)
   ·
    refine cSR ?_
    refine sBuild B57_0 ?_
    refine sStAll S30 rfl rfl g14 rfl rfl (by kernel_rfl) ?_
    refine sAs (v := nv 3) rfl ?_
    refine sN ?_
    refine cRet (kBlkR (kSeqR ?_))
    exact ⟨.inr rfl, _, resRs_agg2 A30 S30 rfl (gS rfl (live g14)) rfl, hfail 3 (by rw [shortE, if_neg (by omega), if_pos (.inr c2)]) (by decide)⟩
   ·
    obtain ⟨L, rfl, hLl, hnd, hL8⟩ := wide_nat h0
    obtain ⟨mo, rfl⟩ : ∃ mo : Nat, most = Int.ofNat mo := ⟨most.toNat, by simp; omega⟩
    have hmo : mo ≤ 4 := by
     have h4 : Int.ofNat mo ≤ 4 := by omega
     exact Int.ofNat_le.1 h4
    have hwN : wideN (ofs L) = lenN L.length := by rw [wideN, if_pos h0, ofs_length]
    have hE : shortE (ofs L) (Int.ofNat mo) = if tab8 L = idM (lenN L.length) then 0 else if (metFind (tab8 L) (reachM (lenN L.length) mo)).isSome then 0 else 6 := by
     rw [shortE, if_neg (by omega), if_neg (by omega), nats_ofs, ofs_length]; rfl
    have hP : shortP (ofs L) (Int.ofNat mo) = if shortE (ofs L) (Int.ofNat mo) = 0 then (if tab8 L = idM (lenN L.length) then [] else (pathM (lenN L.length) (reachM (lenN L.length) mo) 6 (tab8 L)).reverse) else [] := by
     rw [shortP, nats_ofs, ofs_length]; rfl
    have hN : shortN (ofs L) (Int.ofNat mo) = if shortE (ofs L) (Int.ofNat mo) = 0 then lenN L.length else 0 := by rw [shortN, ofs_length]
    have ht8 := tab8_len hL8
    obtain ⟨hn1, hn3, hn0⟩ := wide_len hL8
    rw [ofs_length] at *
    rw [hwN]
    have hLlen := hL8
    generalize lenN L.length = n at *
    refine cSkip (kBlkN (kSeqN ?_))
    refine cSR ?_
    refine sAllocB (bl := m14.size) rfl Z109 (by kernel_rfl) ?_
    change wpOps _ _ _ _ _ (m14.push (.cells true #[nv 0, nv 0, nv 0, nv 0, nv 0, nv 0, nv 0, nv 0]))
    refine sN ?_
    refine cSR ?_
    refine sSlArr T109 S3 rfl (gP rfl) (by decide) ?_
    refine sMs rfl ?_
    refine sCopyT (b := m14.size) rfl (gP rfl) rfl (((ha.ext x1).ext x14).ext (.push _ _)) hL8 ?_
    have x8 : Ext m14 ((m14.push (.cells true #[nv 0, nv 0, nv 0, nv 0, nv 0, nv 0, nv 0, nv 0])).setIfInBounds m14.size (.cells true (cellsN (tab8 L)))) := (Ext.push _ _).set (Nat.le_refl _) _
    have g8 : Mem.get ((m14.push (.cells true #[nv 0, nv 0, nv 0, nv 0, nv 0, nv 0, nv 0, nv 0])).setIfInBounds m14.size (.cells true (cellsN (tab8 L)))) m14.size = .cells true (cellsN (tab8 L)) := gS rfl (by simp)
    have z8 : ((m14.push (.cells true #[nv 0, nv 0, nv 0, nv 0, nv 0, nv 0, nv 0, nv 0])).setIfInBounds m14.size (.cells true (cellsN (tab8 L)))).size = m14.size + 1 := by simp
    generalize (m14.push (.cells true #[nv 0, nv 0, nv 0, nv 0, nv 0, nv 0, nv 0, nv 0])).setIfInBounds m14.size (.cells true (cellsN (tab8 L))) = m8 at *
    generalize hW : tab8 L = W at *
    refine sN ?_
    refine cSeq (cSeq ?_)
    refine cDrawH (hs := [(0, 3)]) rfl (by decide) ?_
    refine lStepLdA A109 S109 rfl g8 (by simp [ht8]) fun e0 hm0 hv0 hr0 => ?_
    refine lStepO (sMv (v := nv _) rfl (sNil fun e1 hm1 => ?_))
    obtain ⟨v39, m39, h39, rfl, e39⟩ := spec_identity (m := m8) hn3
    refine lStepO (sCall1 rfl call87 rfl h39 (sNil fun e2 hm2 => ?_))
    have g839 := e39.cells g8
    refine lStepO (sP (v := .bool (decide (W = idM n))) (eqSmB ht8 (TabOk.id n).1) (sNil fun e3 hm3 => ?_))
    refine ⟨?_, (kSeqN ?_)⟩
    ·
     refine obl_atE (e := e0) (e' := e3) (by simp) (by rfl) (by simp) ((hr0 e3.m _ (by rw [hm3]; exact g839)).trans (congrArg some hv0.symm)) ?_
     trivial
    refine cCond (p := W = idM n) rfl (fun c3 => ?_) (fun c3 => ?_)
    ·
     refine cSR ?_
     refine sMn rfl ?_
     refine sBuild B57_1 ?_
     have g139 := e39.cells (x8.cells g14)
     refine sStAll S30 rfl rfl g139 rfl rfl (by kernel_rfl) ?_
     refine sAn rfl ?_
     refine sN ?_
     refine cRet (kSeqR ?_)
     have hE0 : shortE (ofs L) (Int.ofNat mo) = 0 := by rw [hE, if_pos c3]
     refine ⟨.inr rfl, _, resRs_agg2 A30 S30 rfl (gS rfl (live g139)) rfl, .slice none 0 0, #[], ?_, ?_, ?_⟩
     ·rw [hN, hE0, if_pos rfl]; rfl
     ·rw [hP, if_pos hE0, if_pos c3]; exact .nil _ _
     ·exact (((x1.trans x14).trans x8).trans e39).set (Nat.le_refl _) _
    ·
     rw [if_neg c3] at hE hP
     refine cSkip (kSeqN ?_)
     refine cSR ?_
     refine sMn rfl ?_
     refine sMn rfl ?_
     obtain ⟨v46, m46, h46, va, rfl, gmp, lo46, htabs, hkey, hRl⟩ := spec_reached (m := m39) hn3 hmo
     refine sCall2 rfl call88 rfl rfl h46 ?_
     have e46 : Ext m39 m46 := lo46
     have g846 := e46.cells g839
     have hmet := reachM_met n mo
     have hmany : ∀ e ∈ reachM n mo, e.many ≤ 4 := fun e he => Nat.le_trans (reachM_many n mo e he) hmo
     generalize hRR : reachM n mo = R at *
     have hR8 : ∀ e ∈ R, e.tab.length = 8 := fun e he => (htabs e he).1.1
     have hS8 : ∀ e ∈ R, e.src.length = 8 := fun e he => (htabs e he).2
     have z46 := e46.1
     have z39 := e39.1
     have hmp : m39.size < m46.size := live_map gmp
     refine sMv (v := .tuple _) rfl ?_
     refine sP (v := .map _) rfl ?_
     refine sP (v := va) rfl ?_
     refine sAs (v := .map _) rfl ?_
     refine sAs (v := va) rfl ?_
     refine sN ?_
     refine cSeq (cSR ?_)
     refine sMv (v := .map _) rfl ?_
     refine sLdAll A109 S109 rfl g846 (by simp [ht8]) ?_
     refine sO (v := .tuple #[.agg (metC (metFind W R)), .bool (metFind W R).isSome]) (opF_read rfl (look_met2 ht8 hR8 gmp)) ?_
     refine sMv (v := .tuple _) rfl ?_
     refine sP (v := .agg _) rfl ?_
     refine sPb rfl ?_
     refine sAllocB (bl := m46.size) rfl Z116 (by kernel_rfl) ?_
     refine sStNAB rfl S116 rfl rfl (by rfl) (metC_size (metFind_src hS8)) (metC_one _) ?_
     have x11 : Ext m46 (m46.push (.cells true (metC (metFind W R)))) := .push _ _
     have z11 : (m46.push (.cells true (metC (metFind W R)))).size = m46.size + 1 := by simp
     generalize m46.push (.cells true (metC (metFind W R))) = m11 at *
     refine sAb rfl ?_
     refine sN ?_
     refine cSR ?_
     refine sMb rfl ?_
     refine sP (v := .bool (decide ¬ (metFind W R).isSome = true)) (by
      show some (Value.bool (!(metFind W R).isSome)) = _
      cases (metFind W R).isSome <;> rfl) ?_
     refine sN ?_
     refine cCond (p := ¬ (metFind W R).isSome = true) rfl (fun c4 => ?_) (fun c4 => ?_)
     ·
      refine cSR ?_
      refine sBuild B57_0 ?_
      have g111 := x11.cells (e46.cells (e39.cells (x8.cells g14)))
      refine sStAll S30 rfl rfl g111 rfl rfl (by kernel_rfl) ?_
      refine sAs (v := nv 6) rfl ?_
      refine sN ?_
      refine cRet (kSeqR ?_)
      have hE0 : shortE (ofs L) (Int.ofNat mo) = 6 := by rw [hE, if_neg c4]
      refine ⟨.inr rfl, _, resRs_agg2 A30 S30 rfl (gS rfl (live g111)) rfl, .slice none 0 0, #[], ?_, ?_, ?_⟩
      ·rw [hN, hE0]; rfl
      ·rw [hP, hE0]; exact .nil _ _
      ·exact (((((x1.trans x14).trans x8).trans e39).trans e46).trans x11).set (Nat.le_refl _) _
     ·
      have hsome : (metFind W R).isSome = true := Decidable.not_not.1 c4
      obtain ⟨e0, he0⟩ := Option.isSome_iff_exists.1 hsome
      rw [hsome, if_pos rfl] at hE
      rw [if_pos hE] at hP hN
      refine cSkip (kSeqN ?_)
      refine cSR ?_
      refine sMn rfl ?_
      refine sBuild B57_1 ?_
      refine sBuild B96 ?_
      refine sAllocB (bl := m11.size) rfl Z96 (by kernel_rfl) ?_
      refine sStNAB rfl S96 rfl rfl rfl rfl (by kernel_rfl) ?_
      have x13 : Ext m11 (m11.push (.cells true #[nv n, nv 0, .slice none 0 0])) := .push _ _
      have z13 : (m11.push (.cells true #[nv n, nv 0, .slice none 0 0])).size = m11.size + 1 := by simp
      have hB0 : Bld (m11.size + 1) m11.size (m11.push (.cells true #[nv n, nv 0, .slice none 0 0])) n [] (.slice none 0 0) := ⟨gP rfl, by omega, #[], .nil _ _⟩
      generalize m11.push (.cells true #[nv n, nv 0, .slice none 0 0]) = m13 at *
      generalize m11.size = bb at *
      refine sN ?_
      refine cSR ?_
      refine sMn rfl ?_
      obtain ⟨v62, m62, h62, cl, o62, e62⟩ := spec_gates (m := m13) hn3
      obtain ⟨ql, capl, rfl⟩ := o62.1.len
      refine sCall1 rfl call89 rfl h62 ?_
      have z62 := e62.1
      have hB62 := hB0.ext e62
      have x62 : Ext m m62 := (((((((x1.trans x14).trans x8).trans e39).trans e46).trans x11).trans x13).trans e62)
      have g862 : Mem.get m62 m14.size = .cells true (cellsN W) := ((x11.trans x13).trans e62).cells g846
      have gm62 : Mem.get m62 m39.size = .map true (metV R) := (((x11.trans x13).trans e62).2 _ hmp).trans gmp
      have g162 : Mem.get m62 m.size = .cells true #[nv 0, nv 0, .slice none 0 0] := ((((((x8.trans e39).trans e46).trans x11).trans x13).trans e62).cells g14)
      refine sAs (v := .slice _ _ _) rfl ?_
      refine sN ?_
      refine cSeq (cSR ?_)
      refine sLdAll A109 S109 rfl g862 (by simp [ht8]) ?_
      refine sAllocB (bl := m62.size) rfl Z109 (by kernel_rfl) ?_
      refine sStNAB rfl S109 rfl rfl rfl (by simp [ht8]) one_nums ?_
      refine sN ?_
      refine cBlock ?_
      refine wpC_loop (fun k ρ m' => ∃ (t : List Nat) (e : Met) (f : Nat) (v : Value) (Gs : List (Nat × List Nat)) (tb : Nat), k = e.many ∧ metFind t R = some e ∧ t.length = 8 ∧ e.many < f ∧ Gs ++ pathM n R f t = pathM n R 6 W ∧ Gs.length + e.many ≤ 10 ∧ Bld (bb + 1) bb m' n Gs v ∧ (∀ b, b < m62.size → b ≠ bb → blkOf v ≠ some b ∧ Mem.get m' b = Mem.get m62 b) ∧ m62.size ≤ m'.size ∧ m62.size ≤ tb ∧ blkOf v ≠ some tb ∧ Mem.get m' tb = .cells true (cellsN t) ∧ (∀ g ∈ Gs, g.2.length ≤ 3) ∧ Has ρ [(4, .pointer (some ⟨m.size, 0, none⟩)), (9, .map (some m39.size)), (13, .pointer (some ⟨bb, 0, none⟩)), (14, .slice ql (gatesM n).length capl), (15, .pointer (some ⟨tb, 0, none⟩))]) ⟨W, e0, 6, .slice none 0 0, [], m62.size, rfl, he0, ht8, by have := hmany e0 (metFind_tab he0).2; omega, rfl, by have := hmany e0 (metFind_tab he0).2; simp; omega, hB62.ext (.push _ _), fun b h1 h2 => ⟨fun e => (by cases e), gPn h1⟩, by simp, Nat.le_refl _, (fun e => by cases e), gP rfl, fun g hg => by simp at hg, rfl, rfl, rfl, rfl, rfl, trivial⟩ ?_
      rintro k ρ m' ⟨t, e, f, v, Gs, tb, rfl, hf, ht, hef, hpath, hlen, hB, hK, hKz, htb, htv, gt, hg3, hh⟩
      rw [hh.env]; clear hh
      have heR := (metFind_tab hf).2
      have gm' := (hK m39.size (by omega) (by omega)).2.trans gm62
      have hmb := live hB.1
      refine cSeq (cSR ?_)
      refine sMv (v := .map _) rfl ?_
      refine sLdAll A109 S109 rfl gt (by simp [ht]) ?_
      refine sO (v := stepV e) (opF_read rfl ((look_met (ok := false) ht hR8 gm').trans (by rw [hf]; rfl))) ?_
      refine sBuild B116i ?_
      refine sP (v := .bool (decide ¬ (e.src = [0, 0, 0, 0, 0, 0, 0, 0] ∧ e.gate = -1 ∧ e.many = 0))) (neStepB (d := ⟨[], [0, 0, 0, 0, 0, 0, 0, 0], -1, 0⟩) (hS8 e heR) rfl) ?_
      refine sN ?_
      refine cCond (p := ¬ (e.src = [0, 0, 0, 0, 0, 0, 0, 0] ∧ e.gate = -1 ∧ e.many = 0)) rfl (fun c5 => ?_) (fun c5 => ?_)
      ·
       obtain ⟨e', he', gk, g, hgk, rfl⟩ : ∃ e' ∈ R, ∃ k g, (gatesM n)[k]? = some g ∧ e = stepOf n e' g k := by
        rcases hmet e heR with h | h
        ·subst h; exact absurd ⟨rfl, rfl, rfl⟩ c5
        ·exact h
       have hgl := (List.getElem?_eq_some_iff.1 hgk).1
       obtain ⟨hgw, hg0, hg33⟩ := gatesM_lt (List.mem_of_getElem? hgk)
       obtain ⟨b9, cap9, c9, ws9, e9, h9', hs9, hx9, hw9'⟩ := o62.gate hgk
       cases e9
       have hb9 : m13.size ≤ b9 := by
        rcases o62.1 with ⟨h, _⟩ | ⟨b, cp, c, h, hb, _⟩
        ·cases h
        ·injection h with h; injection h with h; injection h with h; omega
       have h9 : Mem.get m' b9 = .cells true c9 := ((hK b9 (live h9') (by omega)).2).trans h9'
       have hw9 : OwnF m13.size m' ws9 (ofs g.2) := hw9'.up fun b h1 h2 => (hK b h2 (by omega)).2
       have hwb : ∀ b, blkOf ws9 = some b → blkOf v ≠ some b := fun b hb => (hK b (hw9'.lt hb).2 (by have := hw9'.lt hb; omega)).1
       obtain ⟨q9, cp9, rfl⟩ := hw9.ints.lenN
       refine cSkip (kSeqN ?_)
       refine cSeq (cBlock (cRegion ?_))
       refine sMs rfl ?_
       refine sMv (v := .map _) rfl ?_
       refine sLdAll A109 S109 rfl gt (by simp [ht]) ?_
       refine sO (v := stepV (stepOf n e' g gk)) (opF_read rfl ((look_met (ok := false) ht hR8 gm').trans (by rw [hf]; rfl))) ?_
       refine sP (v := nv gk) (fld116_1 (hS8 _ heR)) ?_
       refine sIx T28 S49 rfl rfl hgl ?_
       refine sLdA A49 S49 rfl h9 (by omega) ?_
       rw [hx9]
       refine sBuildS T28 S49 Z49 (by decide) (by decide) (by decide) (by kernel_rfl) fillA4 rfl ?_
       obtain ⟨r81, m81, h81, v', hB8, hG8⟩ := spec_add (x := .slice (some ⟨m'.size, 0, some 4⟩) 1 1) (Gs2 := [g]) (hB.ext (.push m' (.cells true #[nv g.1, .slice q9 g.2.length cp9, nv 0, nv 0]))) ⟨#[nv g.1, .slice q9 g.2.length cp9, nv 0, nv 0], .inr ⟨m'.size, 0, 1, #[nv g.1, .slice q9 g.2.length cp9, nv 0, nv 0], true, rfl, gP rfl, by simp, rfl⟩, fun i g' hi => by
        have h1 := (List.getElem?_eq_some_iff.1 hi).1
        obtain rfl : i = 0 := by simp at h1; exact h1
        obtain rfl : g = g' := by simpa using hi
        exact ⟨.slice q9 g.2.length cp9, rfl, rfl, rfl, rfl, (hw9.mono (by omega)).ext (.push _ _), fun b hb e => by
         have h1 := hw9.lt hb
         exact hwb b hb e⟩⟩ (by simp; omega) (by omega) (by simp)
       refine sCall2 rfl call75 rfl rfl h81 ?_
       have k81 : ∀ b, b < m'.size → b ≠ bb → blkOf v ≠ some b → Mem.get m81 b = Mem.get m' b := fun b h1 h2 h3 => by rw [hG8.2.1 b (by simp; omega) h2 h3, gPn h1]
       have z81 := hG8.1
       simp only [Array.size_push] at z81
       have gt81 : Mem.get m81 tb = .cells true (cellsN t) := (k81 tb (live gt) (by omega) htv).trans gt
       have hnew : ∀ b, b < m'.size + 1 → blkOf v ≠ some b → blkOf v' ≠ some b := fun b h1 h2 e => by
        rcases hG8.2.2 with e1 | ⟨b1, e1, hb1⟩
        ·rw [e1] at e; exact h2 e
        ·rw [e1] at e; injection e with e; simp at hb1; omega
       refine sNil (kBlkN (kSeqN ?_))
       refine cSeq (cSR ?_)
       refine sLdAll A109 S109 rfl gt81 (by simp [ht]) ?_
       refine sN ?_
       refine cRegion ?_
       refine sAllocB (bl := m81.size) rfl Z109 (by kernel_rfl) ?_
       refine sStNAB rfl S109 rfl rfl rfl (by simp [ht]) one_nums ?_
       have g15 : Mem.get (m81.push (.cells true (cellsN t))) m81.size = .cells true (cellsN t) := gP rfl
       have gm81 : Mem.get (m81.push (.cells true (cellsN t))) m39.size = .map true (metV R) := by
        rw [gPn (by omega), k81 _ (by omega) (by omega) (hK m39.size (by omega) (by omega)).1]; exact gm'
       refine sN ?_
       refine cRegion ?_
       refine sMv (v := .map _) rfl ?_
       refine sLdAll A109 S109 rfl g15 (by simp [ht]) ?_
       refine sO (v := stepV (stepOf n e' g gk)) (opF_read rfl ((look_met (ok := false) ht hR8 gm81).trans (by rw [hf]; rfl))) ?_
       refine sP (v := smV e'.tab) (fld116_0 (hS8 _ heR)) ?_
       refine sStAll S109 rfl rfl g15 (by simp [ht]) (by simp [hR8 e' he']) one_nums ?_
       refine sN ?_
       obtain ⟨f', rfl⟩ : ∃ f', f = f' + 1 := ⟨f - 1, by omega⟩
       have hstep : pathM n R (f' + 1) t = g :: pathM n R f' e'.tab := by
        rw [pathM, hf]
        show (if e'.many + 1 = 0 then _ else _) = _
        rw [if_neg (by omega)]
        show (gatesM n).getD (Int.toNat (gk : Int)) (0, []) :: _ = _
        rw [Int.toNat_natCast, List.getD_eq_getElem?_getD, hgk]; rfl
       have hmm : (stepOf n e' g gk).many = e'.many + 1 := rfl
       refine ⟨e'.many, by rw [hmm]; omega, e'.tab, e', f', v', Gs ++ [g], m81.size, rfl, hkey e' he', hR8 e' he', by rw [hmm] at hef; omega, ?_, by rw [hmm] at hlen; simp; omega, ?_, fun b h1 h2 => ⟨?_, ?_⟩, by simp; omega, by omega, ?_, gS rfl (by simp), ?_, rfl, rfl, rfl, rfl, rfl, trivial⟩
       ·rw [← hpath, hstep, List.append_assoc]; rfl
       ·have hbl := live hB8.1
        exact hB8.keep (by rw [gSn (by omega), gPn hbl]) (fun b h1 h2 => by rw [gSn (by omega), gPn h2])
       ·exact hnew b (by omega) (hK b h1 h2).1
       ·rw [gSn (by omega), gPn (by omega), k81 b (by omega) h2 (hK b h1 h2).1]; exact (hK b h1 h2).2
       ·intro e; have := (hB8.blk e).2; omega
       ·intro x hx
        rw [List.mem_append] at hx
        rcases hx with hx | hx
        ·exact hg3 x hx
        ·simp at hx; subst hx; exact hg33
      ·
       have hm0 : e.many = 0 := by
        have := Decidable.not_not.1 c5
        exact this.2.2
       have hend : pathM n R f t = [] := by
        obtain ⟨f', rfl⟩ : ∃ f', f = f' + 1 := ⟨f - 1, by omega⟩
        rw [pathM, hf]
        show (if e.many = 0 then _ else _) = _
        rw [if_pos hm0]
       rw [hend, List.append_nil] at hpath
       rw [← hpath] at hP
       rw [hP, hN, hE]
       have jB1 := hB.1
       obtain ⟨_, _, cg, jO⟩ := hB
       refine cExit (kSeqE (kSeqE (kBlkS (kSeqN ?_))))
       refine cSR ?_
       refine sFA F96_0 rfl ?_
       refine sFA F30_2 rfl ?_
       refine sLd (v := v) A28 rfl jB1 rfl ?_
       obtain ⟨v95, m95, h95, c95, o95, e95⟩ := spec_back jO.read (by omega) (fun g hg => by have := hg3 g hg; omega)
       obtain ⟨q95, cc95, rfl⟩ := o95.1.len
       refine sCall1 rfl call79 rfl h95 ?_
       have g95 := e95.cells jB1
       have z95 := e95.1
       refine sFA F96_0 rfl ?_
       refine sFA F30_2 rfl ?_
       refine sSt (v := .slice _ _ _) S28 rfl rfl g95 (by simp) rfl rfl ?_
       refine sN ?_
       refine cSR ?_
       refine sFA F96_0 rfl ?_
       refine sLdAll A30 S30 rfl (gS rfl (live g95)) (by rfl) ?_
       refine sStAll S30 rfl rfl (gSn (by omega) |>.trans (e95.cells ((hK m.size (by omega) (by omega)).2.trans g162))) (by rfl) (by rfl) (by kernel_rfl) ?_
       refine sAn rfl ?_
       refine sN ?_
       refine cRet ?_
       refine ⟨.inr rfl, _, resRs_agg2 A30 S30 rfl (gS rfl (by simp; omega)) rfl, .slice q95 _ cc95, c95, rfl, ?_, ?_⟩
       ·exact (o95.keepC fun b c hb h => (gSn (by omega)).trans ((gSn (by omega)).trans h)).mono (by omega)
       ·exact ⟨by simp; omega, fun b hb => by rw [gSn (by omega), gSn (by omega), e95.2 b (by omega), (hK b (by omega) (by omega)).2]; exact x62.2 b hb⟩
end Go.AM

/-! R19 -/
namespace Go.AM
open Go.Proofs
/-- A boolean expression. -/
inductive BX where
  | mk : Int → Int → List BX → BX
def BX.kind : BX → Int
  | .mk k _ _ => k
def BX.var : BX → Int
  | .mk _ x _ => x
def BX.args : BX → List BX
  | .mk _ _ l => l
/-- Where an expression lies: in blocks of a kind P. -/
def BAt (P : Nat → Prop) (m : Mem) : Nat → Value → BX → Prop
  | 0, _, _ => False
  | d + 1, v, e => ∃ w, v = .agg #[.int .i64 e.kind, .int .i64 e.var, w] ∧ ((e.args = [] ∧ ∃ q c, w = .slice q 0 c) ∨ ∃ b o cap r c, w = .slice (some ⟨b, o, some 3⟩) e.args.length cap ∧ P b ∧ Mem.get m b = .cells r c ∧ ∀ (i : Nat) (a : BX), e.args[i]? = some a → o + i * 3 + 3 ≤ c.size ∧ BAt P m d (.agg (c.extract (o + i * 3) (o + i * 3 + 3))) a)
theorem BAt.frame {P P' : Nat → Prop} {m m' : Mem} (hP : ∀ b, P b → b < m.size → P' b ∧ Mem.get m' b = Mem.get m b) : ∀ {d : Nat} {v : Value} {e : BX}, BAt P m d v e → BAt P' m' d v e
 | 0, v, e, h => h.elim
 | d + 1, v, e, h => by
  obtain ⟨w, h1, h2⟩ := h
  refine ⟨w, h1, ?_⟩
  rcases h2 with h2 | ⟨b, o, cap, r, c, g1, g2, g3, g4⟩
  ·exact .inl h2
  ·exact .inr ⟨b, o, cap, r, c, g1, (hP b g2 (live g3)).1, (hP b g2 (live g3)).2.trans g3, fun i a hi => ⟨(g4 i a hi).1, BAt.frame hP (g4 i a hi).2⟩⟩
theorem BAt.ext {P : Nat → Prop} {m m' : Mem} {d : Nat} {v : Value} {e : BX} (h : BAt P m d v e) (he : Ext m m') : BAt P m' d v e := h.frame fun b hb hl => ⟨hb, he.2 b hl⟩
theorem BAt.up {P : Nat → Prop} {m : Mem} : ∀ {d : Nat} {v : Value} {e : BX}, BAt P m d v e → BAt P m (d + 1) v e
 | 0, v, e, h => h.elim
 | d + 1, v, e, h => by
  obtain ⟨w, h1, h2⟩ := h
  refine ⟨w, h1, ?_⟩
  rcases h2 with h2 | ⟨b, o, cap, r, c, g1, g2, g3, g4⟩
  ·exact .inl h2
  ·exact .inr ⟨b, o, cap, r, c, g1, g2, g3, fun i a hi => ⟨(g4 i a hi).1, BAt.up (g4 i a hi).2⟩⟩
theorem BAt.agg {P : Nat → Prop} {m : Mem} {d : Nat} {v : Value} {e : BX} (h : BAt P m d v e) : ∃ d' q cap, d = d' + 1 ∧ v = .agg #[.int .i64 e.kind, .int .i64 e.var, .slice q e.args.length cap] := by
 cases d with
 | zero => exact h.elim
 | succ d =>
  obtain ⟨w, h1, h2⟩ := h
  rcases h2 with ⟨h2, q, c, rfl⟩ | ⟨b, o, cap, r, c, rfl, g2, g3, g4⟩
  ·exact ⟨d, q, c, rfl, by rw [h2]; exact h1⟩
  ·exact ⟨d, _, cap, rfl, h1⟩
/-- An argument of an expression. -/
theorem BAt.arg {P : Nat → Prop} {m : Mem} {d : Nat} {k x : Value} {q : Option Addr} {n cap : Nat} {e a : BX} {i : Nat} (h : BAt P m (d + 1) (.agg #[k, x, .slice q n cap]) e) (hi : e.args[i]? = some a) :
  ∃ b o r c, q = some ⟨b, o, some 3⟩ ∧ n = e.args.length ∧ P b ∧ Mem.get m b = .cells r c ∧ o + i * 3 + 3 ≤ c.size ∧ BAt P m d (.agg (c.extract (o + i * 3) (o + i * 3 + 3))) a := by
 obtain ⟨w, h1, h2⟩ := h
 have hl := (List.getElem?_eq_some_iff.1 hi).1
 rcases h2 with ⟨h2, _⟩ | ⟨b, o, cap, r, c, rfl, g2, g3, g4⟩
 ·rw [h2] at hl; simp at hl
 ·simp at h1
  obtain ⟨_, _, h1, h3, h4⟩ := h1
  exact ⟨b, o, r, c, h1, h3, g2, g3, (g4 i a hi).1, (g4 i a hi).2⟩
def szB : Nat → BX → Nat
  | 0, _ => 0
  | d + 1, e => 1 + (e.args.map (szB d)).sum
theorem sum_take_le : ∀ (l : List Nat) (i : Nat), (l.take i).sum ≤ l.sum
 | [], i => by simp
 | a :: l, 0 => by simp
 | a :: l, i + 1 => by have := sum_take_le l i; simp; omega
theorem szB_pos {P : Nat → Prop} {m : Mem} {d : Nat} {v : Value} {e : BX} (h : BAt P m d v e) : 1 ≤ szB d e := by
 cases d with
 | zero => exact h.elim
 | succ d => simp only [szB]; omega
theorem BAt.len_sz {P : Nat → Prop} {m : Mem} {d : Nat} {v : Value} {e : BX} (h : BAt P m (d + 1) v e) : e.args.length ≤ (e.args.map (szB d)).sum := by
 obtain ⟨d', q, cap, hd, rfl⟩ := h.agg
 have h1 : ∀ a ∈ e.args, 1 ≤ szB d a := fun a ha => by
  obtain ⟨i, hi⟩ := List.getElem?_of_mem ha
  obtain ⟨b, o, r, c, _, _, _, _, _, hat⟩ := h.arg hi
  exact szB_pos hat
 have : ∀ l : List BX, (∀ a ∈ l, 1 ≤ szB d a) → l.length ≤ (l.map (szB d)).sum := by
  intro l
  induction l with
  | nil => intro _; simp
  | cons a l ih =>
   intro h
   have h2 := h a (by simp)
   have h3 := ih fun b hb => h b (by simp [hb])
   simp; omega
 exact this _ h1
theorem sz_take {d : Nat} {l : List BX} {i : Nat} {a : BX} (h : l[i]? = some a) : ((l.take i).map (szB d)).sum + szB d a ≤ (l.map (szB d)).sum := by
 have h1 := sum_take_le (l.map (szB d)) (i + 1)
 rw [← List.map_take, List.take_add_one, h] at h1
 simp at h1; rw [List.map_take]; exact h1
def firstE : List Nat → Nat
  | [] => 0
  | x :: l => if x = 0 then firstE l else x
theorem okf115 : okF Tryd.prog H0 115 19 = true := by kernel_rfl
theorem spec_size (d : Nat) : ∀ {m : Mem} {P : Nat → Prop} {v : Value} {e : BX}, BAt P m d v e → szB d e ≤ 1000000 → ∃ v' m', ACalls Tryd.prog 115 #[v] m v' m' ∧ (v' = nv (szB d e) ∧ Ext m m') := by
 induction d
 ·intro m P v e h; exact h.elim
 rename_i d ih
 intro m P v e h hs
 obtain ⟨d', q, cap, hd, rfl⟩ := h.agg
 cases hd
 refine wpF (args := [_]) mixed okf115 (fn := Tryd.f115) rfl rfl rfl (by simp) ?_
 refine cSR ?_
 refine sBox (v := .agg _) rfl ?_
 change wpOps _ _ _ _ _ (m.push (.cells true #[.int .i64 e.kind, .int .i64 e.var, .slice q e.args.length cap]))
 have e1 : Ext m (m.push (.cells true #[.int .i64 e.kind, .int .i64 e.var, .slice q e.args.length cap])) := .push _ _
 have g1 : Mem.get (m.push (.cells true #[.int .i64 e.kind, .int .i64 e.var, .slice q e.args.length cap])) m.size = .cells true #[.int .i64 e.kind, .int .i64 e.var, .slice q e.args.length cap] := gP rfl
 generalize m.push (.cells true #[.int .i64 e.kind, .int .i64 e.var, .slice q e.args.length cap]) = m1 at *
 refine sAn rfl ?_
 refine sN ?_
 refine cSR ?_
 refine sAs (v := nv 1) rfl ?_
 refine sN ?_
 refine cSeq (cSR ?_)
 refine sFA F66_2 rfl ?_
 refine sLd (v := .slice q e.args.length cap) A64 rfl g1 rfl ?_
 refine sLen T64 rfl ?_
 refine sMv (v := nv 0) rfl ?_
 refine sN ?_
 refine cBlock ?_
 refine wpC_loop (fun k ρ m' => ∃ i n, k = e.args.length - i ∧ i ≤ e.args.length ∧ Ext m1 m' ∧ n = 1 + ((e.args.take i).map (szB d)).sum ∧ Has ρ [(3, nv n), (7, .slice q e.args.length cap), (8, nv e.args.length), (9, nv i)]) ⟨0, 1, rfl, Nat.zero_le _, .refl _, rfl, rfl, rfl, rfl, rfl, trivial⟩ ?_
 rintro k ρ m' ⟨i, n, rfl, hi, hE, hn, hh⟩
 rw [hh.env]; clear hh
 have hsum : 1 + (e.args.map (szB d)).sum ≤ 1000000 := hs
 have hlen := h.len_sz
 refine cSR ?_
 refine sBin rfl rfl (aInt_lss) ?_
 refine sN ?_
 refine cSeq ?_
 refine cCond rfl (fun c0 => ?_) (fun c0 => ?_)
 ·
  obtain ⟨a, ha⟩ : ∃ a, e.args[i]? = some a := ⟨_, List.getElem?_eq_getElem c0⟩
  have hst := sz_take (d := d) ha
  obtain ⟨b, o, r, c, rfl, _, hPb, hb, hsz, hat⟩ := h.arg ha
  have hb' := hE.cells (e1.cells hb)
  have hat' := (hat.ext e1).ext hE
  refine cSkip (kSeqN ?_)
  refine cSeq (cBlock (cSR ?_))
  refine sIx T64 S66 rfl rfl (by omega) ?_
  refine sLdA A66 S66 rfl hb' hsz ?_
  obtain ⟨da, qa, ca, hda, hca⟩ := hat'.agg
  refine sAlloc Z66 (by kernel_rfl) ?_
  rw [hca]
  refine sStNA S66 rfl rfl rfl rfl (by kernel_rfl) ?_
  rw [hca] at hat'
  refine sN ?_
  refine cRegion ?_
  refine sMn rfl ?_
  refine sLdAll A66 S66 rfl (gP rfl) rfl ?_
  obtain ⟨v15, m15, h15, rfl, e15⟩ := ih (hat'.ext (.push _ _)) (by omega)
  refine sCall1 rfl call115 rfl h15 ?_
  refine sBin (a := n) (b := szB d a) rfl rfl (aInt_add (by omega)) ?_
  refine sAn rfl ?_
  refine sNil (kBlkN (kSeqN ?_))
  refine cRegion ?_
  refine sBin rfl rfl (aInt_add (b := 1) (by omega)) ?_
  refine sMn rfl ?_
  refine sN ?_
  refine ⟨_, ?_, i + 1, _, rfl, by omega, (hE.push' _).trans e15, ?_, rfl, rfl, rfl, rfl, trivial⟩
  ·omega
  ·rw [List.take_add_one, ha, hn]; simp; omega
 ·
  obtain rfl : i = e.args.length := by omega
  rw [List.take_length] at hn
  subst hn
  refine cExit (kSeqE (kSeqE (kBlkS (kSeqN ?_))))
  refine cSR ?_
  refine sMn rfl ?_
  refine sAn rfl ?_
  refine sN ?_
  refine cRet ?_
  exact ⟨.inr rfl, _, rfl, rfl, e1.trans hE⟩
theorem okf141 : okF Tryd.prog H0 141 19 = true := by kernel_rfl
theorem spec_first {m : Mem} {a : Value} {l : List Nat} (ha : IntsAt m a (ofs l)) (hl : l.length ≤ 1000000) : ∃ v m', ACalls Tryd.prog 141 #[nv 0, a] m v m' ∧ (v = nv (firstE l) ∧ m = m') := by
 obtain ⟨q, cap, rfl⟩ := ha.lenN
 refine wpF (args := [_, _]) mixed okf141 (fn := Tryd.f141) rfl rfl rfl (by simp) ?_
 refine cSR ?_
 refine sAn rfl ?_
 refine sN ?_
 refine cSeq (cSR ?_)
 refine sMs rfl ?_
 refine sLen T161 rfl ?_
 refine sMv (v := nv 0) rfl ?_
 refine sN ?_
 refine cBlock ?_
 refine wpC_loop (fun k ρ m' => ∃ i, k = l.length - i ∧ i ≤ l.length ∧ m = m' ∧ firstE (l.drop i) = firstE l ∧ Has ρ [(0, nv 0), (7, .slice q l.length cap), (8, nv l.length), (9, nv i)]) ⟨0, rfl, Nat.zero_le _, rfl, rfl, rfl, rfl, rfl, rfl, trivial⟩ ?_
 rintro k ρ _ ⟨i, rfl, hi, rfl, hf, hh⟩
 rw [hh.env]; clear hh
 refine cSR ?_
 refine sBin rfl rfl (aInt_lss) ?_
 refine sN ?_
 refine cSeq ?_
 refine cCond rfl (fun c0 => ?_) (fun c0 => ?_)
 ·
  obtain ⟨b, o, cp, r, c, e1, hb, hc⟩ := ha.atN (by omega)
  cases e1
  have hdr : l.drop i = l[i] :: l.drop (i + 1) := List.drop_eq_getElem_cons c0
  refine cSkip (kSeqN ?_)
  refine cSeq (cBlock (cSR ?_))
  refine sIx T161 S25 rfl rfl c0 ?_
  refine sLd (v := nv l[i]) A25 rfl hb (hc i _ (List.getElem?_eq_getElem c0)) ?_
  refine sAn rfl ?_
  refine sN ?_
  refine cSR ?_
  refine sMn rfl ?_
  refine sMn rfl ?_
  refine sBin (a := l[i]) (b := 0) rfl rfl aInt_neq ?_
  refine sN ?_
  refine cCond (p := l[i] ≠ 0) rfl (fun c1 => ?_) (fun c1 => ?_)
  ·
   refine cSR ?_
   refine sMn rfl ?_
   refine sAn rfl ?_
   refine sN ?_
   refine cRet (kBlkR (kSeqR (kSeqR (kBlkR (kSeqR ?_)))))
   exact ⟨.inr rfl, _, rfl, by rw [← hf, hdr, firstE, if_neg c1]; rfl, rfl⟩
  ·
   refine cSkip (kBlkN (kSeqN ?_))
   refine cRegion ?_
   refine sBin rfl rfl (aInt_add (b := 1) (by omega)) ?_
   refine sMn rfl ?_
   refine sN ?_
   refine ⟨_, ?_, i + 1, rfl, by omega, rfl, ?_, rfl, rfl, rfl, rfl, trivial⟩
   ·omega
   ·rw [← hf, hdr, firstE, if_pos (Decidable.not_not.1 c1)]
 ·
  obtain rfl : i = l.length := by omega
  refine cExit (kSeqE (kSeqE (kBlkS (kSeqN ?_))))
  refine cSR ?_
  refine sMn rfl ?_
  refine sAn rfl ?_
  refine sN ?_
  refine cRet ?_
  exact ⟨.inr rfl, _, rfl, by rw [← hf, List.drop_length]; rfl, rfl⟩
end Go.AM

/-! R20 -/
namespace Go.AM
open Go.Proofs
theorem Z25' : zeroOf Tryd.prog 25 = some (nv 0) := by kernel_rfl
theorem App161 : AppT Tryd.prog 161 161 := ⟨_, _, _, T161, T161, rfl, S25, Z25', rfl, by kernel_rfl⟩
def GlobW (m : Mem) : Prop := ∃ r, Mem.get m 2 = .cells r #[nv 0, nv 0, nv 1, nv 2, nv 2, nv 2, nv 0, nv 0]
theorem GlobW.ext {m m' : Mem} (h : GlobW m) (he : Ext m m') : GlobW m' := by
 obtain ⟨r, h⟩ := h; exact ⟨r, he.cells h⟩
def wantsN (k : Nat) : Nat := [0, 0, 1, 2, 2, 2, 0, 0].getD k 0
def fmB (vars : Int) : Nat → BX → Nat
  | 0, _ => 9
  | d + 1, e => if e.kind < 1 ∨ 7 < e.kind then 3 else if e.args.length ≠ wantsN e.kind.toNat ∨ (e.kind ≠ 1 ∧ e.var ≠ 0) then 7 else if e.kind = 1 ∧ (e.var < 0 ∨ vars ≤ e.var) then 1 else firstE (e.args.map (fmB vars d))
theorem okf116 : okF Tryd.prog H0 116 67 = true := by kernel_rfl
theorem formed_V (vars : Int) (d : Nat) (ih : ∀ {m : Mem} {P : Nat → Prop} {v : Value} {e : BX}, GlobW m → BAt P m d v e → szB d e ≤ 1000000 → ∃ v' m', ACalls Tryd.prog 116 #[v, .int .i64 vars] m v' m' ∧ (v' = nv (fmB vars d e) ∧ Ext m m')) {m : Mem} {P : Nat → Prop} {v : Value} {e : BX} (hG : GlobW m) (h : BAt P m (d + 1) v e) (hs : szB (d + 1) e ≤ 1000000) (hk : e.kind = 1) : ∃ v' m', ACalls Tryd.prog 116 #[v, .int .i64 vars] m v' m' ∧ (v' = nv (fmB vars (d + 1) e) ∧ Ext m m') := by
 have hA : e.args.length ≠ 0 → fmB vars (d + 1) e = 7 := fun h => by
  rw [fmB, if_neg (by omega), if_pos (.inl (by rw [hk]; exact h))]
 have hB : ¬ e.args.length ≠ 0 → (e.var < 0 ∨ vars ≤ e.var) → fmB vars (d + 1) e = 1 := fun h1 h2 => by
  rw [fmB, if_neg (by omega), if_neg (by rintro (h | h); (rw [hk] at h; exact h1 h); exact h.1 hk), if_pos ⟨hk, h2⟩]
 have hC : ¬ e.args.length ≠ 0 → ¬ (e.var < 0 ∨ vars ≤ e.var) → fmB vars (d + 1) e = firstE (e.args.map (fmB vars d)) := fun h1 h2 => by
  rw [fmB, if_neg (by omega), if_neg (by rintro (h | h); (rw [hk] at h; exact h1 h); exact h.1 hk), if_neg (fun h => h2 h.2)]
 obtain ⟨d', q, cap, hd, rfl⟩ := h.agg
 rw [hk] at h ⊢
 refine wpF (args := [_, _]) mixed okf116 (fn := Tryd.f116) rfl rfl rfl (by simp) ?_
 refine cSR ?_
 refine sBox (v := .agg _) rfl ?_
 change wpOps _ _ _ _ _ (m.push (.cells true #[.int .i64 1, .int .i64 e.var, .slice q e.args.length cap]))
 have e1 : Ext m (m.push (.cells true #[.int .i64 1, .int .i64 e.var, .slice q e.args.length cap])) := .push _ _
 have g1 : Mem.get (m.push (.cells true #[.int .i64 1, .int .i64 e.var, .slice q e.args.length cap])) m.size = .cells true #[.int .i64 1, .int .i64 e.var, .slice q e.args.length cap] := gP rfl
 generalize m.push (.cells true #[.int .i64 1, .int .i64 e.var, .slice q e.args.length cap]) = m1 at *
 obtain ⟨rg, gg⟩ := hG.ext e1
 refine sAn rfl ?_
 refine sN ?_
 refine cCut (fun ρ m' => m1 = m' ∧ fmB vars (d + 1) e = firstE (e.args.map (fmB vars d)) ∧ Has ρ [(1, .int .i64 vars), (2, .pointer (some ⟨m.size, 0, none⟩))]) ?_ ?_
 ·
  refine cBlock (cSR ?_)
  refine sFA F66_0 rfl ?_
  refine sLd (v := nv 1) A3 rfl g1 rfl ?_
  refine sBinI (v := .bool false) rfl rfl rfl ?_
  refine sMv (v := .bool false) rfl ?_
  refine sG rfl rfl ?_
  refine sFA F66_0 rfl ?_
  refine sG rfl rfl ?_
  refine sLd (v := nv 1) A3 rfl g1 rfl ?_
  refine sG rfl rfl ?_
  refine sBinI (v := .bool false) rfl rfl rfl ?_
  refine sP (v := .bool false) rfl ?_
  refine sAb rfl ?_
  refine sN ?_
  refine cCondF rfl ?_
  refine cSeq ?_
  refine cDraw rfl ?_
  refine sFA F66_2 rfl ?_
  refine sLd (v := .slice q e.args.length cap) A64 rfl g1 rfl ?_
  refine sLen T64 rfl ?_
  refine sFA F66_0 rfl ?_
  refine sLd (v := nv 1) A3 rfl g1 rfl ?_
  refine sIxA T108 S3 rfl rfl (by omega) ?_
  refine sLd (v := nv 0) A3 rfl gg rfl ?_
  refine sBin (a := e.args.length) (b := 0) rfl rfl aInt_neq ?_
  refine sMb rfl ?_
  by_cases hl0 : e.args.length ≠ 0
  ·
   rw [decide_eq_true hl0]
   refine sGT rfl rfl ?_
   refine sGT rfl rfl ?_
   refine sGT rfl rfl ?_
   refine sGT rfl rfl ?_
   refine sGnoU rfl rfl ?_
   refine sGnoU rfl rfl ?_
   refine sGnoU rfl rfl ?_
   refine sGT rfl rfl ?_
   refine sPb rfl ?_
   refine sAb rfl ?_
   refine sN ?_
   refine cCondT rfl ?_
   refine cSR ?_
   refine sAs (v := nv 7) rfl ?_
   refine sN ?_
   refine cRet (kBlkR (kSeqR ?_))
   exact ⟨.inr rfl, _, rfl, by rw [hA hl0]; rfl, e1⟩
  ·
   rw [decide_eq_false hl0]
   refine sG rfl rfl ?_
   refine sFA F66_0 rfl ?_
   refine sG rfl rfl ?_
   refine sLd (v := nv 1) A3 rfl g1 rfl ?_
   refine sG rfl rfl ?_
   refine sBinI (v := .bool false) rfl rfl rfl ?_
   refine sG rfl rfl ?_
   refine sMv (v := .bool false) rfl ?_
   refine sGF rfl rfl ?_
   refine sGF rfl rfl ?_
   refine sGF rfl rfl ?_
   refine sG rfl rfl ?_
   refine sP (v := .bool false) rfl ?_
   refine sPb rfl ?_
   refine sAb rfl ?_
   refine sN ?_
   refine cCondF rfl ?_
   refine cSR ?_
   refine sFA F66_0 rfl ?_
   refine sLd (v := nv 1) A3 rfl g1 rfl ?_
   refine sBinI (v := .bool true) rfl rfl rfl ?_
   refine sMv (v := .bool true) rfl ?_
   refine sG rfl rfl ?_
   refine sFA F66_1 rfl ?_
   refine sG rfl rfl ?_
   refine sLd (v := .int .i64 e.var) A3 rfl g1 rfl ?_
   refine sG rfl rfl ?_
   refine sBinI (v := .bool (decide (e.var < 0))) rfl rfl aInt_lssI ?_
   refine sG rfl rfl ?_
   refine sMb rfl ?_
   by_cases hx0 : e.var < 0
   ·
    rw [decide_eq_true hx0]
    refine sGT rfl rfl ?_
    refine sGT rfl rfl ?_
    refine sGT rfl rfl ?_
    refine sGT rfl rfl ?_
    refine sG rfl rfl ?_
    refine sPb rfl ?_
    refine sPb rfl ?_
    refine sAb rfl ?_
    refine sN ?_
    refine cCondT rfl ?_
    refine cSR ?_
    refine sAs (v := nv 1) rfl ?_
    refine sN ?_
    refine cRet (kBlkR (kSeqR ?_))
    exact ⟨.inr rfl, _, rfl, by rw [hB hl0 (.inl hx0)]; rfl, e1⟩
   ·
    rw [decide_eq_false hx0]
    refine sG rfl rfl ?_
    refine sFA F66_1 rfl ?_
    refine sG rfl rfl ?_
    refine sLd (v := .int .i64 e.var) A3 rfl g1 rfl ?_
    refine sG rfl rfl ?_
    refine sMv (v := .int .i64 vars) rfl ?_
    refine sG rfl rfl ?_
    refine sBinI (v := .bool (decide (vars ≤ e.var))) rfl rfl aInt_geqI ?_
    refine sG rfl rfl ?_
    refine sPb rfl ?_
    refine sPb rfl ?_
    refine sAb rfl ?_
    refine sN ?_
    refine cCond (p := vars ≤ e.var) rfl (fun c4 => ?_) (fun c4 => ?_)
    ·
     refine cSR ?_
     refine sAs (v := nv 1) rfl ?_
     refine sN ?_
     refine cRet (kBlkR (kSeqR ?_))
     exact ⟨.inr rfl, _, rfl, by rw [hB hl0 (.inr c4)]; rfl, e1⟩
    ·
     refine cSkip (kBlkN (kSeqN ?_))
     exact ⟨rfl, hC hl0 (fun h => by rcases h with h | h; exact hx0 h; exact c4 h), rfl, rfl, trivial⟩
 rintro ρ _ ⟨rfl, hfm, hh⟩
 rw [hh.env]; clear hh
 refine cSR ?_
 refine sAs (v := .slice none 0 0) rfl ?_
 refine sN ?_
 refine cSeq (cSR ?_)
 refine sFA F66_2 rfl ?_
 refine sLd (v := .slice q e.args.length cap) A64 rfl g1 rfl ?_
 refine sLen T64 rfl ?_
 refine sMv (v := nv 0) rfl ?_
 refine sN ?_
 refine cBlock ?_
 refine wpC_loop (fun k ρ m' => ∃ i v, k = e.args.length - i ∧ i ≤ e.args.length ∧ Ext m1 m' ∧ OwnF m1.size m' v (ofs ((e.args.take i).map (fmB vars d))) ∧ Has ρ [(1, .int .i64 vars), (5, v), (52, .slice q e.args.length cap), (53, nv e.args.length), (54, nv i)]) ⟨0, _, rfl, Nat.zero_le _, .refl _, .nil _ _, rfl, rfl, rfl, rfl, rfl, trivial⟩ ?_
 rintro k ρ m' ⟨i, v, rfl, hi, hE, hO, hh⟩
 obtain ⟨qv, cv, rfl⟩ := hO.ints.lenN
 rw [hh.env]; clear hh
 have hlen := h.len_sz
 have hsum : 1 + (e.args.map (szB d)).sum ≤ 1000000 := hs
 have htl : ((e.args.take i).map (fmB vars d)).length = i := by simp; omega
 refine cSR ?_
 refine sBin rfl rfl (aInt_lss) ?_
 refine sN ?_
 refine cSeq ?_
 refine cCond rfl (fun c5 => ?_) (fun c5 => ?_)
 ·
  obtain ⟨a, ha⟩ : ∃ a, e.args[i]? = some a := ⟨_, List.getElem?_eq_getElem c5⟩
  have hst := sz_take (d := d) ha
  obtain ⟨b, o, r, c, rfl, _, hPb, hb, hsz, hat⟩ := h.arg ha
  have hb' := hE.cells (e1.cells hb)
  have hat' := (hat.ext e1).ext hE
  refine cSkip (kSeqN ?_)
  refine cSeq (cBlock (cSR ?_))
  refine sIx T64 S66 rfl rfl (by omega) ?_
  refine sLdA A66 S66 rfl hb' hsz ?_
  obtain ⟨da, qa, ca, hda, hca⟩ := hat'.agg
  refine sAlloc Z66 (by kernel_rfl) ?_
  rw [hca]
  refine sStNA S66 rfl rfl rfl rfl (by kernel_rfl) ?_
  rw [hca] at hat'
  refine sN ?_
  refine cRegion ?_
  refine sMs rfl ?_
  refine sLdAll A66 S66 rfl (gP rfl) rfl ?_
  refine sMv (v := .int .i64 vars) rfl ?_
  obtain ⟨v15, m15, h15, rfl, e15⟩ := ih (((hG.ext e1).ext hE).ext (.push _ _)) (hat'.ext (.push _ _)) (by omega)
  refine sCall2 rfl call116 rfl rfl h15 ?_
  refine sBuildS T161 S25 Z25' (by decide) (by decide) (by decide) (by kernel_rfl) fill1 rfl ?_
  refine sApp App161 rfl rfl (N := m1.size) (((hO.ext (.push _ _)).ext e15).ext (.push _ _)) one_ints (by have := e15.1; have := hE.1; simp at *; omega) (by rw [ofs_length]; simp; omega) fun v4 m4 hO4 hL4 => ?_
  rw [show ofs ((e.args.take i).map (fmB vars d)) ++ [Int.ofNat (fmB vars d a)] = ofs ((e.args.take (i + 1)).map (fmB vars d)) by rw [List.take_add_one, ha]; simp [ofs]] at hO4
  refine sAs (v := v4) rfl ?_
  refine sNil (kBlkN (kSeqN ?_))
  refine cRegion ?_
  refine sBin rfl rfl (aInt_add (b := 1) (by omega)) ?_
  refine sMn rfl ?_
  refine sN ?_
  refine ⟨_, ?_, i + 1, _, rfl, by omega, Low.to_ext (((hE.push' _).trans e15).push' _) hL4 (Nat.le_refl _), hO4, rfl, rfl, rfl, rfl, rfl, trivial⟩
  omega
 ·
  obtain rfl : i = e.args.length := by omega
  rw [List.take_length] at *
  refine cExit (kSeqE (kSeqE (kBlkS (kSeqN ?_))))
  refine cSR ?_
  refine sMs rfl ?_
  obtain ⟨v66, m66, h66, rfl, rfl⟩ := spec_first hO.ints (by simp; omega)
  refine sCall2 rfl call141 rfl rfl h66 ?_
  refine sAn rfl ?_
  refine sN ?_
  refine cRet ?_
  exact ⟨.inr rfl, _, rfl, by rw [hfm]; rfl, e1.trans hE⟩
end Go.AM

/-! R21 -/
namespace Go.AM
open Go.Proofs
theorem wants_get {kn : Nat} (h : kn ≤ 7) : (#[nv 0, nv 0, nv 1, nv 2, nv 2, nv 2, nv 0, nv 0] : Array Value)[0 + kn * 1]? = some (nv (wantsN kn)) := by
 have : kn = 0 ∨ kn = 1 ∨ kn = 2 ∨ kn = 3 ∨ kn = 4 ∨ kn = 5 ∨ kn = 6 ∨ kn = 7 := by omega
 rcases this with rfl | rfl | rfl | rfl | rfl | rfl | rfl | rfl <;> rfl
theorem formed_bad (vars : Int) (d : Nat) {m : Mem} {P : Nat → Prop} {v : Value} {e : BX} (h : BAt P m (d + 1) v e) (hk : e.kind < 1 ∨ 7 < e.kind) : ∃ v' m', ACalls Tryd.prog 116 #[v, .int .i64 vars] m v' m' ∧ (v' = nv (fmB vars (d + 1) e) ∧ Ext m m') := by
 have hA : fmB vars (d + 1) e = 3 := by rw [fmB, if_pos hk]
 obtain ⟨d', q, cap, hd, rfl⟩ := h.agg
 refine wpF (args := [_, _]) mixed okf116 (fn := Tryd.f116) rfl rfl rfl (by simp) ?_
 refine cSR ?_
 refine sBox (v := .agg _) rfl ?_
 change wpOps _ _ _ _ _ (m.push (.cells true #[.int .i64 e.kind, .int .i64 e.var, .slice q e.args.length cap]))
 have e1 : Ext m (m.push (.cells true #[.int .i64 e.kind, .int .i64 e.var, .slice q e.args.length cap])) := .push _ _
 have g1 : Mem.get (m.push (.cells true #[.int .i64 e.kind, .int .i64 e.var, .slice q e.args.length cap])) m.size = .cells true #[.int .i64 e.kind, .int .i64 e.var, .slice q e.args.length cap] := gP rfl
 generalize m.push (.cells true #[.int .i64 e.kind, .int .i64 e.var, .slice q e.args.length cap]) = m1 at *
 refine sAn rfl ?_
 refine sN ?_
 refine cSeq (cBlock (cSR ?_))
 refine sFA F66_0 rfl ?_
 refine sLd (v := .int .i64 e.kind) A3 rfl g1 rfl ?_
 refine sBinI (v := .bool (decide (e.kind < 1))) rfl rfl aInt_lssI ?_
 refine sMb rfl ?_
 by_cases hng : e.kind < 1
 ·
  rw [decide_eq_true hng]
  refine sGT rfl rfl ?_
  refine sGT rfl rfl ?_
  refine sGT rfl rfl ?_
  refine sP (v := .bool true) rfl ?_
  refine sAb rfl ?_
  refine sN ?_
  refine cCondT rfl ?_
  refine cSR ?_
  refine sAs (v := nv 3) rfl ?_
  refine sN ?_
  refine cRet (kBlkR (kSeqR ?_))
  exact ⟨.inr rfl, _, rfl, by rw [hA]; rfl, e1⟩
 ·
  rw [decide_eq_false hng]
  have h7 : 7 < e.kind := by omega
  refine sG rfl rfl ?_
  refine sFA F66_0 rfl ?_
  refine sG rfl rfl ?_
  refine sLd (v := .int .i64 e.kind) A3 rfl g1 rfl ?_
  refine sG rfl rfl ?_
  refine sBinI (v := .bool true) rfl rfl (by rw [aInt_gtrI, decide_eq_true h7]) ?_
  refine sP (v := .bool true) rfl ?_
  refine sAb rfl ?_
  refine sN ?_
  refine cCondT rfl ?_
  refine cSR ?_
  refine sAs (v := nv 3) rfl ?_
  refine sN ?_
  refine cRet (kBlkR (kSeqR ?_))
  exact ⟨.inr rfl, _, rfl, by rw [hA]; rfl, e1⟩
theorem formed_N (vars : Int) (d : Nat) (ih : ∀ {m : Mem} {P : Nat → Prop} {v : Value} {e : BX}, GlobW m → BAt P m d v e → szB d e ≤ 1000000 → ∃ v' m', ACalls Tryd.prog 116 #[v, .int .i64 vars] m v' m' ∧ (v' = nv (fmB vars d e) ∧ Ext m m')) {m : Mem} {P : Nat → Prop} {v : Value} {e : BX} (hG : GlobW m) (h : BAt P m (d + 1) v e) (hs : szB (d + 1) e ≤ 1000000) {kn : Nat} (hk : e.kind = Int.ofNat kn) (hk2 : 2 ≤ kn) (hk7 : kn ≤ 7) : ∃ v' m', ACalls Tryd.prog 116 #[v, .int .i64 vars] m v' m' ∧ (v' = nv (fmB vars (d + 1) e) ∧ Ext m m') := by
 have h17 : ¬ (e.kind < 1 ∨ 7 < e.kind) := by rw [hk]; simp only [Int.ofNat_eq_natCast]; omega
 have h1k : e.kind ≠ 1 := by rw [hk]; simp only [Int.ofNat_eq_natCast]; omega
 have htn : e.kind.toNat = kn := by rw [hk]; rfl
 have hA : e.args.length ≠ wantsN kn → fmB vars (d + 1) e = 7 := fun h => by
  rw [fmB, if_neg h17, htn, if_pos (.inl h)]
 have hB : ¬ e.args.length ≠ wantsN kn → e.var ≠ 0 → fmB vars (d + 1) e = 7 := fun _ h => by
  rw [fmB, if_neg h17, if_pos (.inr ⟨h1k, h⟩)]
 have hC : ¬ e.args.length ≠ wantsN kn → ¬ e.var ≠ 0 → fmB vars (d + 1) e = firstE (e.args.map (fmB vars d)) := fun h1 h2 => by
  rw [fmB, if_neg h17, htn, if_neg (by rintro (h | h); exact h1 h; exact h2 h.2), if_neg (fun h => h1k h.1)]
 obtain ⟨d', q, cap, hd, rfl⟩ := h.agg
 rw [hk] at h h1k ⊢
 refine wpF (args := [_, _]) mixed okf116 (fn := Tryd.f116) rfl rfl rfl (by simp) ?_
 refine cSR ?_
 refine sBox (v := .agg _) rfl ?_
 change wpOps _ _ _ _ _ (m.push (.cells true #[nv kn, .int .i64 e.var, .slice q e.args.length cap]))
 have e1 : Ext m (m.push (.cells true #[nv kn, .int .i64 e.var, .slice q e.args.length cap])) := .push _ _
 have g1 : Mem.get (m.push (.cells true #[nv kn, .int .i64 e.var, .slice q e.args.length cap])) m.size = .cells true #[nv kn, .int .i64 e.var, .slice q e.args.length cap] := gP rfl
 generalize m.push (.cells true #[nv kn, .int .i64 e.var, .slice q e.args.length cap]) = m1 at *
 obtain ⟨rg, gg⟩ := hG.ext e1
 refine sAn rfl ?_
 refine sN ?_
 refine cCut (fun ρ m' => m1 = m' ∧ fmB vars (d + 1) e = firstE (e.args.map (fmB vars d)) ∧ Has ρ [(1, .int .i64 vars), (2, .pointer (some ⟨m.size, 0, none⟩))]) ?_ ?_
 ·
  refine cBlock (cSR ?_)
  refine sFA F66_0 rfl ?_
  refine sLd (v := nv kn) A3 rfl g1 rfl ?_
  refine sBinI (v := .bool false) rfl rfl (by rw [aInt_lssI, decide_eq_false (by simp only [Int.ofNat_eq_natCast]; omega)]) ?_
  refine sMv (v := .bool false) rfl ?_
  refine sG rfl rfl ?_
  refine sFA F66_0 rfl ?_
  refine sG rfl rfl ?_
  refine sLd (v := nv kn) A3 rfl g1 rfl ?_
  refine sG rfl rfl ?_
  refine sBinI (v := .bool false) rfl rfl (by rw [aInt_gtrI, decide_eq_false (by simp only [Int.ofNat_eq_natCast]; omega)]) ?_
  refine sP (v := .bool false) rfl ?_
  refine sAb rfl ?_
  refine sN ?_
  refine cCondF rfl ?_
  refine cSeq ?_
  refine cDraw rfl ?_
  refine sFA F66_2 rfl ?_
  refine sLd (v := .slice q e.args.length cap) A64 rfl g1 rfl ?_
  refine sLen T64 rfl ?_
  refine sFA F66_0 rfl ?_
  refine sLd (v := nv kn) A3 rfl g1 rfl ?_
  refine sIxA T108 S3 rfl rfl (by omega) ?_
  refine sLd (v := nv (wantsN kn)) A3 rfl gg (wants_get hk7) ?_
  refine sBin (a := e.args.length) (b := wantsN kn) rfl rfl aInt_neq ?_
  refine sMb rfl ?_
  by_cases hl0 : e.args.length ≠ wantsN kn
  ·
   rw [decide_eq_true hl0]
   refine sGT rfl rfl ?_
   refine sGT rfl rfl ?_
   refine sGT rfl rfl ?_
   refine sGT rfl rfl ?_
   refine sGnoU rfl rfl ?_
   refine sGnoU rfl rfl ?_
   refine sGnoU rfl rfl ?_
   refine sGT rfl rfl ?_
   refine sPb rfl ?_
   refine sAb rfl ?_
   refine sN ?_
   refine cCondT rfl ?_
   refine cSR ?_
   refine sAs (v := nv 7) rfl ?_
   refine sN ?_
   refine cRet (kBlkR (kSeqR ?_))
   exact ⟨.inr rfl, _, rfl, by rw [hA hl0]; rfl, e1⟩
  ·
   rw [decide_eq_false hl0]
   refine sG rfl rfl ?_
   refine sFA F66_0 rfl ?_
   refine sG rfl rfl ?_
   refine sLd (v := nv kn) A3 rfl g1 rfl ?_
   refine sG rfl rfl ?_
   refine sBinI (v := .bool true) rfl rfl (by rw [aInt_neqI, decide_eq_true h1k]) ?_
   refine sG rfl rfl ?_
   refine sMv (v := .bool true) rfl ?_
   refine sG rfl rfl ?_
   refine sFA F66_1 rfl ?_
   refine sG rfl rfl ?_
   refine sLd (v := .int .i64 e.var) A3 rfl g1 rfl ?_
   refine sG rfl rfl ?_
   refine sBinI (v := .bool (decide (e.var ≠ 0))) rfl rfl aInt_neqI ?_
   refine sG rfl rfl ?_
   refine sPb rfl ?_
   refine sPb rfl ?_
   refine sAb rfl ?_
   refine sN ?_
   refine cCond (p := e.var ≠ 0) rfl (fun c2 => ?_) (fun c2 => ?_)
   ·
    refine cSR ?_
    refine sAs (v := nv 7) rfl ?_
    refine sN ?_
    refine cRet (kBlkR (kSeqR ?_))
    exact ⟨.inr rfl, _, rfl, by rw [hB hl0 c2]; rfl, e1⟩
   ·
    refine cSR ?_
    refine sFA F66_0 rfl ?_
    refine sLd (v := nv kn) A3 rfl g1 rfl ?_
    refine sBinI (v := .bool false) rfl rfl (by rw [aInt_eqlI, decide_eq_false h1k]) ?_
    refine sMv (v := .bool false) rfl ?_
    refine sGF rfl rfl ?_
    refine sGF rfl rfl ?_
    refine sGF rfl rfl ?_
    refine sGF rfl rfl ?_
    refine sGnoU rfl rfl ?_
    refine sGnoU rfl rfl ?_
    refine sGnoU rfl rfl ?_
    refine sGnoU rfl rfl ?_
    refine sGF rfl rfl ?_
    refine sP (v := .bool false) rfl ?_
    refine sAb rfl ?_
    refine sN ?_
    refine cCondF rfl ?_
    refine cSkip (kBlkN (kSeqN ?_))
    exact ⟨rfl, hC hl0 c2, rfl, rfl, trivial⟩
 rintro ρ _ ⟨rfl, hfm, hh⟩
 rw [hh.env]; clear hh
 refine cSR ?_
 refine sAs (v := .slice none 0 0) rfl ?_
 refine sN ?_
 refine cSeq (cSR ?_)
 refine sFA F66_2 rfl ?_
 refine sLd (v := .slice q e.args.length cap) A64 rfl g1 rfl ?_
 refine sLen T64 rfl ?_
 refine sMv (v := nv 0) rfl ?_
 refine sN ?_
 refine cBlock ?_
 refine wpC_loop (fun k ρ m' => ∃ i v, k = e.args.length - i ∧ i ≤ e.args.length ∧ Ext m1 m' ∧ OwnF m1.size m' v (ofs ((e.args.take i).map (fmB vars d))) ∧ Has ρ [(1, .int .i64 vars), (5, v), (52, .slice q e.args.length cap), (53, nv e.args.length), (54, nv i)]) ⟨0, _, rfl, Nat.zero_le _, .refl _, .nil _ _, rfl, rfl, rfl, rfl, rfl, trivial⟩ ?_
 rintro k ρ m' ⟨i, v, rfl, hi, hE, hO, hh⟩
 obtain ⟨qv, cv, rfl⟩ := hO.ints.lenN
 rw [hh.env]; clear hh
 have hlen := h.len_sz
 have hsum : 1 + (e.args.map (szB d)).sum ≤ 1000000 := hs
 have htl : ((e.args.take i).map (fmB vars d)).length = i := by simp; omega
 refine cSR ?_
 refine sBin rfl rfl (aInt_lss) ?_
 refine sN ?_
 refine cSeq ?_
 refine cCond rfl (fun c4 => ?_) (fun c4 => ?_)
 ·
  obtain ⟨a, ha⟩ : ∃ a, e.args[i]? = some a := ⟨_, List.getElem?_eq_getElem c4⟩
  have hst := sz_take (d := d) ha
  obtain ⟨b, o, r, c, rfl, _, hPb, hb, hsz, hat⟩ := h.arg ha
  have hb' := hE.cells (e1.cells hb)
  have hat' := (hat.ext e1).ext hE
  refine cSkip (kSeqN ?_)
  refine cSeq (cBlock (cSR ?_))
  refine sIx T64 S66 rfl rfl (by omega) ?_
  refine sLdA A66 S66 rfl hb' hsz ?_
  obtain ⟨da, qa, ca, hda, hca⟩ := hat'.agg
  refine sAlloc Z66 (by kernel_rfl) ?_
  rw [hca]
  refine sStNA S66 rfl rfl rfl rfl (by kernel_rfl) ?_
  rw [hca] at hat'
  refine sN ?_
  refine cRegion ?_
  refine sMs rfl ?_
  refine sLdAll A66 S66 rfl (gP rfl) rfl ?_
  refine sMv (v := .int .i64 vars) rfl ?_
  obtain ⟨v15, m15, h15, rfl, e15⟩ := ih (((hG.ext e1).ext hE).ext (.push _ _)) (hat'.ext (.push _ _)) (by omega)
  refine sCall2 rfl call116 rfl rfl h15 ?_
  refine sBuildS T161 S25 Z25' (by decide) (by decide) (by decide) (by kernel_rfl) fill1 rfl ?_
  refine sApp App161 rfl rfl (N := m1.size) (((hO.ext (.push _ _)).ext e15).ext (.push _ _)) one_ints (by have := e15.1; have := hE.1; simp at *; omega) (by rw [ofs_length]; simp; omega) fun v4 m4 hO4 hL4 => ?_
  rw [show ofs ((e.args.take i).map (fmB vars d)) ++ [Int.ofNat (fmB vars d a)] = ofs ((e.args.take (i + 1)).map (fmB vars d)) by rw [List.take_add_one, ha]; simp [ofs]] at hO4
  refine sAs (v := v4) rfl ?_
  refine sNil (kBlkN (kSeqN ?_))
  refine cRegion ?_
  refine sBin rfl rfl (aInt_add (b := 1) (by omega)) ?_
  refine sMn rfl ?_
  refine sN ?_
  refine ⟨_, ?_, i + 1, _, rfl, by omega, Low.to_ext (((hE.push' _).trans e15).push' _) hL4 (Nat.le_refl _), hO4, rfl, rfl, rfl, rfl, rfl, trivial⟩
  omega
 ·
  obtain rfl : i = e.args.length := by omega
  rw [List.take_length] at *
  refine cExit (kSeqE (kSeqE (kBlkS (kSeqN ?_))))
  refine cSR ?_
  refine sMs rfl ?_
  obtain ⟨v66, m66, h66, rfl, rfl⟩ := spec_first hO.ints (by simp; omega)
  refine sCall2 rfl call141 rfl rfl h66 ?_
  refine sAn rfl ?_
  refine sN ?_
  refine cRet ?_
  exact ⟨.inr rfl, _, rfl, by rw [hfm]; rfl, e1.trans hE⟩
theorem spec_formed (vars : Int) (d : Nat) : ∀ {m : Mem} {P : Nat → Prop} {v : Value} {e : BX}, GlobW m → BAt P m d v e → szB d e ≤ 1000000 → ∃ v' m', ACalls Tryd.prog 116 #[v, .int .i64 vars] m v' m' ∧ (v' = nv (fmB vars d e) ∧ Ext m m') := by
 induction d with
 | zero => intro m P v e _ h; exact h.elim
 | succ d ih =>
  intro m P v e hG h hs
  by_cases h1 : e.kind < 1 ∨ 7 < e.kind
  ·exact formed_bad vars d h h1
  ·by_cases h2 : e.kind = 1
   ·exact formed_V vars d ih hG h hs h2
   ·exact formed_N vars d ih hG h hs (kn := e.kind.toNat) (by simp; omega) (by omega) (by omega)
def goodB (vars : Int) (d : Nat) (e : BX) : Nat := if vars < 1 ∨ 8 < vars then 3 else if 24 < szB d e then 2 else fmB vars d e
theorem okf57 : okF Tryd.prog H0 57 19 = true := by kernel_rfl
theorem spec_Good (vars : Int) (d : Nat) {m : Mem} {P : Nat → Prop} {v : Value} {e : BX} (hG : GlobW m) (h : BAt P m d v e) (hs : szB d e ≤ 1000000) : ∃ v' m', ACalls Tryd.prog 57 #[v, .int .i64 vars] m v' m' ∧ (v' = nv (goodB vars d e) ∧ Ext m m') := by
 obtain ⟨d', q, cap, hd, rfl⟩ := h.agg
 refine wpF (args := [_, _]) mixed okf57 (fn := Tryd.f57) rfl rfl rfl (by simp) ?_
 refine cSR ?_
 refine sBox (v := .agg _) rfl ?_
 change wpOps _ _ _ _ _ (m.push (.cells true #[.int .i64 e.kind, .int .i64 e.var, .slice q e.args.length cap]))
 have e1 : Ext m (m.push (.cells true #[.int .i64 e.kind, .int .i64 e.var, .slice q e.args.length cap])) := .push _ _
 have g1 : Mem.get (m.push (.cells true #[.int .i64 e.kind, .int .i64 e.var, .slice q e.args.length cap])) m.size = .cells true #[.int .i64 e.kind, .int .i64 e.var, .slice q e.args.length cap] := gP rfl
 generalize m.push (.cells true #[.int .i64 e.kind, .int .i64 e.var, .slice q e.args.length cap]) = m1 at *
 refine sAn rfl ?_
 refine sN ?_
 refine cSeq (cBlock (cSR ?_))
 refine sMv (v := .int .i64 vars) rfl ?_
 refine sBinI (v := .bool (decide (vars < 1))) rfl rfl aInt_lssI ?_
 refine sMb rfl ?_
 by_cases hng : vars < 1
 ·
  rw [decide_eq_true hng]
  refine sGT rfl rfl ?_
  refine sGT rfl rfl ?_
  refine sPb rfl ?_
  refine sAb rfl ?_
  refine sN ?_
  refine cCondT rfl ?_
  refine cSR ?_
  refine sAs (v := nv 3) rfl ?_
  refine sN ?_
  refine cRet (kBlkR (kSeqR ?_))
  exact ⟨.inr rfl, _, rfl, by rw [goodB, if_pos (.inl hng)]; rfl, e1⟩
 ·
  rw [decide_eq_false hng]
  refine sG rfl rfl ?_
  refine sMv (v := .int .i64 vars) rfl ?_
  refine sG rfl rfl ?_
  refine sBinI (v := .bool (decide (8 < vars))) rfl rfl aInt_gtrI ?_
  refine sPb rfl ?_
  refine sAb rfl ?_
  refine sN ?_
  refine cCond (p := 8 < vars) rfl (fun c1 => ?_) (fun c1 => ?_)
  ·
   refine cSR ?_
   refine sAs (v := nv 3) rfl ?_
   refine sN ?_
   refine cRet (kBlkR (kSeqR ?_))
   exact ⟨.inr rfl, _, rfl, by rw [goodB, if_pos (.inr c1)]; rfl, e1⟩
  ·
   have hvb : ¬ (vars < 1 ∨ 8 < vars) := by omega
   refine cSR ?_
   refine sLdAll A66 S66 rfl g1 rfl ?_
   obtain ⟨v14, m14, h14, rfl, e14⟩ := spec_size d (h.ext e1) hs
   refine sCall1 rfl call115 rfl h14 ?_
   refine sBin (a := szB d e) (b := 24) rfl rfl aInt_gtr ?_
   refine sAb rfl ?_
   refine sN ?_
   refine cCond (p := 24 < szB d e) rfl (fun c2 => ?_) (fun c2 => ?_)
   ·
    refine cSR ?_
    refine sAs (v := nv 2) rfl ?_
    refine sN ?_
    refine cRet (kBlkR (kSeqR ?_))
    exact ⟨.inr rfl, _, rfl, by rw [goodB, if_neg hvb, if_pos c2]; rfl, e1.trans e14⟩
   ·
    refine cSkip (kBlkN (kSeqN ?_))
    refine cSR ?_
    refine sLdAll A66 S66 rfl (e14.cells g1) rfl ?_
    refine sMv (v := .int .i64 vars) rfl ?_
    obtain ⟨v18, m18, h18, rfl, e18⟩ := spec_formed vars d ((hG.ext e1).ext e14) ((h.ext e1).ext e14) hs
    refine sCall2 rfl call116 rfl rfl h18 ?_
    refine sAn rfl ?_
    refine sN ?_
    refine cRet ?_
    exact ⟨.inr rfl, _, rfl, by rw [goodB, if_neg hvb, if_neg c2]; rfl, (e1.trans e14).trans e18⟩
end Go.AM

/-! R22 -/
namespace Go.AM
open Go.Proofs
theorem firstE_zero {l : List Nat} (h : firstE l = 0) : ∀ x ∈ l, x = 0 := by
 induction l with
 | nil => intro x hx; cases hx
 | cons y l ih =>
  intro x hx
  by_cases hy : y = 0
  ·rw [firstE, if_pos hy] at h
   rcases List.mem_cons.1 hx with rfl | hx
   ·exact hy
   ·exact ih h x hx
  ·rw [firstE, if_neg hy] at h; exact absurd h hy
/-- A right expression. -/
theorem fm_right {vars : Int} {d : Nat} {e : BX} (h : fmB vars (d + 1) e = 0) : ∃ kn, e.kind = Int.ofNat kn ∧ 1 ≤ kn ∧ kn ≤ 7 ∧ e.args.length = wantsN kn ∧ (kn ≠ 1 → e.var = 0) ∧ (kn = 1 → 0 ≤ e.var ∧ e.var < vars) ∧ ∀ a ∈ e.args, fmB vars d a = 0 := by
 rw [fmB] at h
 split at h
 ·cases h
 ·rename_i h1
  split at h
  ·cases h
  ·rename_i h2
   split at h
   ·cases h
   ·rename_i h3
    have hk : e.kind = Int.ofNat e.kind.toNat := by simp; omega
    refine ⟨e.kind.toNat, hk, by omega, by omega, ?_, fun hne => ?_, fun he => ?_, fun a ha => firstE_zero h _ (List.mem_map_of_mem ha)⟩
    ·exact Decidable.not_not.1 fun hh => h2 (.inl hh)
    ·exact Decidable.not_not.1 fun hh => h2 (.inr ⟨by omega, hh⟩)
    ·have : ¬ (e.var < 0 ∨ vars ≤ e.var) := fun hh => h3 ⟨by omega, hh⟩
     omega
theorem B66n {q : Option Addr} {n c : Nat} : aBuild Tryd.prog 66 [(0, nv 2), (2, .slice q n c)] = some (.agg #[nv 2, nv 0, .slice q n c]) := by kernel_rfl
theorem len2g {α : Type} {l : List α} (h : l.length = 2) : ∃ a b, l = [a, b] := by
 match l, h with
 | [a, b], _ => exact ⟨_, _, rfl⟩
theorem fill66 {k x : Int} {q : Option Addr} {n c : Nat} : Instr.fill (fun i => some (i * 3, 3)) (if 1 * 3 = 0 then #[] else (Array.range (1 * 3)).map ((Value.agg #[nv 0, nv 0, .slice none 0 0]).cells[· % (Value.agg #[nv 0, nv 0, .slice none 0 0]).cells.size]!)) [(0, .agg #[.int .i64 k, .int .i64 x, .slice q n c])] = some #[.int .i64 k, .int .i64 x, .slice q n c] := by kernel_rfl
theorem okf140 : okF Tryd.prog H0 140 6 = true := by kernel_rfl
theorem spec_not {m : Mem} {k x : Int} {q : Option Addr} {n cap : Nat} : ∃ v m', ACalls Tryd.prog 140 #[.agg #[.int .i64 k, .int .i64 x, .slice q n cap]] m v m' ∧ (v = .agg #[nv 2, nv 0, .slice (some ⟨m.size + 2, 0, some 3⟩) 1 1] ∧ Mem.get m' (m.size + 2) = .cells true #[.int .i64 k, .int .i64 x, .slice q n cap] ∧ Ext m m' ∧ m.size + 2 < m'.size) := by
 refine wpF (args := [_]) mixed okf140 (fn := Tryd.f140) rfl rfl rfl (by simp) ?_
 refine cSR ?_
 refine sBox (v := .agg _) rfl ?_
 change wpOps _ _ _ _ _ (m.push (.cells true #[.int .i64 k, .int .i64 x, .slice q n cap]))
 refine sAllocB (bl := m.size + 1) (by simp) Z66 (by kernel_rfl) ?_
 change wpOps _ _ _ _ _ ((m.push (.cells true #[.int .i64 k, .int .i64 x, .slice q n cap])).push (.cells true #[nv 0, nv 0, .slice none 0 0]))
 refine sN ?_
 refine cSR ?_
 refine sLdAll A66 S66 rfl ((gPn (by simp)).trans (gP rfl)) rfl ?_
 refine sBuildS T64 S66 Z66 (by decide) (by decide) (by decide) (by kernel_rfl) fill66 rfl ?_
 refine sBuild B66n ?_
 refine sStAll S66 rfl rfl (gPn (by simp) |>.trans (gP (by simp))) rfl rfl (by kernel_rfl) ?_
 refine sN ?_
 refine cRet ?_
 refine ⟨.inr rfl, _, resRs_agg A66 S66 rfl (gS rfl (by simp)) rfl, by simp [oneOf], ?_, ?_, by simp⟩
 ·rw [gSn (by omega)]; exact gP (by simp)
 ·exact (((Ext.push _ _).trans (.push _ _)).trans (.push _ _)).set (by simp) _
end Go.AM

/-! R23 -/
namespace Go.AM
open Go.Proofs
/-- A circuit at work that has nothing in blocks of a kind P. -/
def BldP (P : Nat → Prop) (N bb : Nat) (m : Mem) (W : Nat) (Gs : List (Nat × List Nat)) (v : Value) : Prop :=
  Mem.get m bb = .cells true #[nv W, nv 0, v] ∧ bb < N ∧ (∀ b, P b → b < m.size ∧ b ≠ bb ∧ blkOf v ≠ some b) ∧ ∃ cs, OwnG N m v cs Gs ∧ ∀ (i : Nat) (s : Value), cs[i]? = some s → ∀ b, blkOf s = some b → ¬ P b
theorem BldP.move {P Q : Nat → Prop} {N bb W : Nat} {m m' : Mem} {Gs : List (Nat × List Nat)} {v : Value} (h : BldP P N bb m W Gs v) (hz : m.size ≤ m'.size) (hk : ∀ b, b < m.size → ¬ P b → Mem.get m' b = Mem.get m b) (hQ : ∀ b, Q b → b < m'.size ∧ (P b ∨ m.size ≤ b)) : BldP Q N bb m' W Gs v := by
 obtain ⟨h1, h2, h3, cs, hO, hcs⟩ := h
 have hbb : ¬ P bb := fun hp => (h3 bb hp).2.1 rfl
 have hv : ∀ b, blkOf v = some b → N ≤ b ∧ b < m.size ∧ ¬ P b := fun b hb => ⟨(hO.1.lt hb).1, (hO.1.lt hb).2, fun hp => (h3 b hp).2.2 hb⟩
 have hrow : ∀ (i : Nat) (s : Value), cs[i]? = some s → ∀ b, blkOf s = some b → b < m.size → Mem.get m' b = Mem.get m b := fun i s hi b hb hl => hk b hl (hcs i s hi b hb)
 refine ⟨(hk bb (live h1) hbb).trans h1, h2, fun b hb => ?_, cs, ⟨hO.1.keep fun b hb => hk b (hv b hb).2.1 (hv b hb).2.2, fun i g hi => ?_⟩, fun i s hi b hb hq => ?_⟩
 ·obtain ⟨q1, q2⟩ := hQ b hb
  rcases q2 with q2 | q2
  ·exact ⟨q1, (h3 b q2).2⟩
  ·exact ⟨q1, by have := live h1; omega, fun e => by have := (hv b e).2.1; omega⟩
 ·obtain ⟨s, a0, a1, a2, a3, ho, hb⟩ := hO.2 i g hi
  exact ⟨s, a0, a1, a2, a3, ho.keep fun b hb => hrow _ s a1 b hb (ho.lt hb).2, hb⟩
 ·rcases (hQ b hq).2 with q2 | q2
  ·exact hcs i s hi b hb q2
  ·have hlt : i < cs.size := (Array.getElem?_eq_some_iff.1 hi).1
   have hcz := hO.1.size
   obtain ⟨s', a0, a1, a2, a3, ho, _⟩ := hO.2 (i / 4) _ (List.getElem?_eq_getElem (by omega : i / 4 < Gs.length))
   have hc4 : i % 4 = 0 ∨ i % 4 = 1 ∨ i % 4 = 2 ∨ i % 4 = 3 := by omega
   rcases hc4 with e | e | e | e
   ·rw [show i / 4 * 4 = i by omega, hi] at a0; injection a0 with a0; subst a0; cases hb
   ·rw [show i / 4 * 4 + 1 = i by omega, hi] at a1; injection a1 with a1; subst a1
    have := (ho.lt hb).2; omega
   ·rw [show i / 4 * 4 + 2 = i by omega, hi] at a2; injection a2 with a2; subst a2; cases hb
   ·rw [show i / 4 * 4 + 3 = i by omega, hi] at a3; injection a3 with a3; subst a3; cases hb
theorem BldP.ext {P : Nat → Prop} {N bb W : Nat} {m m' : Mem} {Gs : List (Nat × List Nat)} {v : Value} (h : BldP P N bb m W Gs v) (he : Ext m m') : BldP P N bb m' W Gs v :=
 h.move he.1 (fun b hb _ => he.2 b hb) fun b hb => ⟨by have := (h.2.2.1 b hb).1; have := he.1; omega, .inl hb⟩
/-- Gates that may be added. -/
def SrcP (P : Nat → Prop) (N : Nat) (m : Mem) (v x : Value) (Gs : List (Nat × List Nat)) : Prop := ∃ d, SrcC m x 4 Gs.length d ∧ ∀ (i : Nat) (g : Nat × List Nat), Gs[i]? = some g → ∃ s, d[i * 4]? = some (nv g.1) ∧ d[i * 4 + 1]? = some s ∧ d[i * 4 + 2]? = some (nv 0) ∧ d[i * 4 + 3]? = some (nv 0) ∧ OwnF N m s (ofs g.2) ∧ ∀ b, blkOf s = some b → blkOf v ≠ some b ∧ ¬ P b
theorem spec_addP {P : Nat → Prop} {m : Mem} {N bb W : Nat} {v x : Value} {Gs Gs2 : List (Nat × List Nat)} (hB : BldP P N bb m W Gs v) (hS : SrcP P N m v x Gs2) (hN : N ≤ m.size) (hl : Gs.length ≤ 200000) (hl2 : Gs2.length ≤ 200000) : ∃ r m', ACalls Tryd.prog 75 #[.pointer (some ⟨bb, 0, none⟩), x] m r m' ∧ (∃ v', BldP P N bb m' W (Gs ++ Gs2) v' ∧ m.size ≤ m'.size ∧ ∀ b, b < m.size → b ≠ bb → blkOf v ≠ some b → Mem.get m' b = Mem.get m b) := by
 obtain ⟨g1, hbN, hPP, cs, hO, hcs⟩ := hB
 obtain ⟨d, hs, hdP⟩ := hS
 have hd : ∀ (i : Nat) (g : Nat × List Nat), Gs2[i]? = some g → ∃ s, d[i * 4]? = some (nv g.1) ∧ d[i * 4 + 1]? = some s ∧ d[i * 4 + 2]? = some (nv 0) ∧ d[i * 4 + 3]? = some (nv 0) ∧ OwnF N m s (ofs g.2) ∧ ∀ b, blkOf s = some b → blkOf v ≠ some b := fun i g hi => by
  obtain ⟨s, a0, a1, a2, a3, a4, a5⟩ := hdP i g hi
  exact ⟨s, a0, a1, a2, a3, a4, fun b hb => (a5 b hb).1⟩
 have hds := hs.size
 have hdcs : ∀ (i : Nat) (s : Value), d[i]? = some s → ∀ b, blkOf s = some b → ¬ P b := fun i s hi b hb => by
  have hlt : i < d.size := (Array.getElem?_eq_some_iff.1 hi).1
  obtain ⟨s', a0, a1, a2, a3, ho, ha⟩ := hdP (i / 4) _ (List.getElem?_eq_getElem (by omega : i / 4 < Gs2.length))
  have hc4 : i % 4 = 0 ∨ i % 4 = 1 ∨ i % 4 = 2 ∨ i % 4 = 3 := by omega
  rcases hc4 with e | e | e | e
  ·rw [show i / 4 * 4 = i by omega, hi] at a0; injection a0 with a0; subst a0; cases hb
  ·rw [show i / 4 * 4 + 1 = i by omega, hi] at a1; injection a1 with a1; subst a1
   exact (ha b hb).2
  ·rw [show i / 4 * 4 + 2 = i by omega, hi] at a2; injection a2 with a2; subst a2; cases hb
  ·rw [show i / 4 * 4 + 3 = i by omega, hi] at a3; injection a3 with a3; subst a3; cases hb
 have hone := src_one (x := x) hds hd
 have hxl : ∃ q n c, x = .slice q n c := by rcases hs with ⟨rfl, _⟩ | ⟨_, _, _, _, _, rfl, _⟩ <;> exact ⟨_, _, _, rfl⟩
 obtain ⟨qx, nx, cx, rfl⟩ := hxl
 obtain ⟨q, cap, rfl⟩ := hO.1.len
 refine wpF (args := [_, _]) mixed okf75 (fn := Tryd.f75) rfl rfl rfl (by simp) ?_
 refine cRegion ?_
 refine sMv (v := .pointer _) rfl ?_
 refine sMv (v := .pointer _) rfl ?_
 refine sNC rfl ?_
 refine sFA F96_0 rfl ?_
 refine sFA F30_2 rfl ?_
 refine sLd (v := .slice _ _ _) A28 rfl g1 rfl ?_
 refine sMs rfl ?_
 refine sAppCn El55 rfl rfl (N := N) hO.1 hs hone hN (by omega) (by omega) fun v' m1 hO1 hL1 hG1 => ?_
 have hg1 := hL1.cells hbN g1
 have hR := hO.grewN hds hd hG1 hO1
 refine sNC rfl ?_
 refine sFA F96_0 rfl ?_
 refine sFA F30_2 rfl ?_
 refine sSt (v := v') S28 rfl rfl hg1 (by simp) (by rcases hO1 with ⟨rfl, _⟩ | ⟨_, _, _, rfl, _⟩ <;> rfl) (by rcases hO1 with ⟨rfl, _⟩ | ⟨_, _, _, rfl, _⟩ <;> rfl) ?_
 refine sNil ?_
 refine ⟨.inl rfl, _, rfl, v', ⟨gS rfl (live hg1), hbN, fun b hb => ?_, _, hR.only (.set bb m1 (.cells true #[nv W, nv 0, v'])) hbN, fun i s hi b hb => ?_⟩, by simpa using hG1.1, fun b hb hn hv => ?_⟩
 ·obtain ⟨p1, p2, p3⟩ := hPP b hb
  refine ⟨by have := hG1.1; simp; omega, p2, hG1.off p3 p1⟩
 ·by_cases hil : i < cs.size
  ·rw [Array.getElem?_append_left hil] at hi; exact hcs i s hi b hb
  ·rw [Array.getElem?_append_right (by omega)] at hi; exact hdcs _ s hi b hb
 ·rw [gSn (fun e => hn e.symm)]; exact hG1.2.1 b hb hv
/-- A gate that has just been made is added. -/
theorem add_one {P : Nat → Prop} {m m1 : Mem} {N bb W gk : Nat} {bv ws : Value} {Gs : List (Nat × List Nat)} {w : List Nat} (hB : BldP P N bb m W Gs bv) (he : Ext m m1) (hN : N ≤ m.size) (hw : OwnF m.size m1 ws (ofs w)) (hl : Gs.length ≤ 200000) :
  ∃ r m3, ACalls Tryd.prog 75 #[.pointer (some ⟨bb, 0, none⟩), .slice (some ⟨m1.size, 0, some 4⟩) 1 1] (m1.push (.cells true #[nv gk, ws, nv 0, nv 0])) r m3 ∧ ∃ bv', BldP P N bb m3 W (Gs ++ [(gk, w)]) bv' ∧ m1.size ≤ m3.size ∧ ∀ b, b < m.size → b ≠ bb → blkOf bv ≠ some b → Mem.get m3 b = Mem.get m b := by
 have hz := he.1
 have hv : ∀ b, blkOf bv = some b → b < m.size := fun b hb => by
  obtain ⟨_, _, _, cs, hO, _⟩ := hB; exact (hO.1.lt hb).2
 obtain ⟨r, m3, hc, bv', k1, k2, k3⟩ := spec_addP (x := .slice (some ⟨m1.size, 0, some 4⟩) 1 1) (Gs2 := [(gk, w)]) ((hB.ext he).ext (.push _ (.cells true #[nv gk, ws, nv 0, nv 0]))) ⟨_, .inr ⟨m1.size, 0, 1, _, true, rfl, gP rfl, by simp, rfl⟩, fun i g hi => by
  have h1 := (List.getElem?_eq_some_iff.1 hi).1
  obtain rfl : i = 0 := by simp at h1; exact h1
  obtain rfl : (gk, w) = g := by simpa using hi
  exact ⟨ws, rfl, rfl, rfl, rfl, (hw.mono hN).ext (.push _ _), fun b hb => by
   have h1 := (hw.lt hb).1
   exact ⟨fun e => by have := hv b e; omega, fun e => by have := (hB.2.2.1 b e).1; omega⟩⟩⟩ (by simp; omega) hl (by simp)
 simp only [Array.size_push] at k2
 refine ⟨r, m3, hc, bv', k1, by omega, fun b h1 h2 h3 => ?_⟩
 rw [k3 b (by simp; omega) h2 h3, gPn (by omega), he.2 b h1]
theorem sMax {ρ : Env} {m : Mem} {K : Env → Mem → Prop} {ops : Array Oper} {l : List Oper} {d : Option Nat} {ty : TypeId} {pos : String} {af : Array Edge} {x y : Operand} {tys : Array TypeId} {a b : Nat} (hx : evR ρ x = nv a) (hy : evR ρ y = nv b) (hk : wpOps Tryd.prog ops K l (updO ρ d (nv (max a b))) m) :
  wpOps Tryd.prog ops K (⟨d, .call ⟨.builtin .max, ⟨[x, y]⟩, tys⟩, ty, pos, af, none⟩ :: l) ρ m := by
 refine sP (v := nv (max a b)) ?_ hk
 simp only [aPure, List.map_cons, List.map_nil, hx, hy, aFold, aMax2]
 have h : (if (Int.ofNat b) > (Int.ofNat a) then Int.ofNat b else Int.ofNat a) = Int.ofNat (max a b) := by
  simp only [Int.ofNat_eq_natCast]
  split <;> omega
 rw [if_pos trivial, h]
theorem okf156 : okF Tryd.prog H0 156 16 = true := by kernel_rfl
theorem spec_use {P : Nat → Prop} {m : Mem} {N bb W w : Nat} {v : Value} {Gs : List (Nat × List Nat)} (hB : BldP P N bb m W Gs v) (hw : w ≤ 100000000) : ∃ r m', ACalls Tryd.prog 156 #[.pointer (some ⟨bb, 0, none⟩), nv w] m r m' ∧ (BldP P N bb m' (max W (w + 1)) Gs v ∧ m'.size = m.size ∧ ∀ b, b ≠ bb → Mem.get m' b = Mem.get m b) := by
 obtain ⟨g1, hbN, hPP, cs, hO, hcs⟩ := hB
 have hbl := live g1
 refine wpF (args := [_, _]) mixed okf156 (fn := Tryd.f156) rfl rfl rfl (by simp) ?_
 refine cRegion ?_
 refine sMv (v := .pointer _) rfl ?_
 refine sMv (v := .pointer _) rfl ?_
 refine sNC rfl ?_
 refine sFA F96_0 rfl ?_
 refine sFA F30_0 rfl ?_
 refine sLd (v := nv W) A3 rfl g1 rfl ?_
 refine sMn rfl ?_
 refine sBin rfl rfl (aInt_add (b := 1) (by omega)) ?_
 refine sMax (a := W) (b := w + 1) rfl rfl ?_
 refine sNC rfl ?_
 refine sFA F96_0 rfl ?_
 refine sFA F30_0 rfl ?_
 refine sSt (v := nv _) S3 rfl rfl g1 (by simp) rfl rfl ?_
 refine sNil ?_
 refine ⟨.inl rfl, _, rfl, ⟨gS rfl hbl, hbN, fun b hb => ?_, cs, hO.only (.set bb m _) hbN, hcs⟩, by simp, fun b hb => gSn (fun e => hb e.symm)⟩
 simpa using hPP b hb
theorem spec_Compact2 {m : Mem} {b x y : Nat} {C : Array Value} (hb : Mem.get m b = .cells true C) (hC : 2 ≤ C.size) (h0 : C[0]? = some (nv x)) (h1 : C[1]? = some (nv y)) : ∃ v m', ACalls Tryd.prog 157 #[.slice (some ⟨b, 0, some 1⟩) 2 C.size] m v m' ∧ (IntsAt m' v (ofs (if x = y then [x] else [x, y])) ∧ But b m m' ∧ m'.size = m.size) := by
 have hbm := live hb
 refine wpF (args := [_]) mixed okf157 (fn := Tryd.f157) rfl rfl rfl (by simp) ?_
 refine cSR ?_
 refine sAs (v := .slice _ _ _) rfl ?_
 refine sN ?_
 refine cSeq (cSR ?_)
 refine sMs rfl ?_
 refine sLen T22 rfl ?_
 refine sBin (v := .bool false) (a := 2) (b := 2) rfl rfl rfl ?_
 refine sN ?_
 refine cCondF rfl ?_
 refine cSkip (kSeqN ?_)
 refine cSeq (cSR ?_)
 refine sAs (v := nv 1) rfl ?_
 refine sN ?_
 refine cBlock ?_
 refine wpC_loop (fun k ρ m' => ∃ i, k = 2 - i ∧ (i = 1 ∨ i = 2 ∧ x ≠ y) ∧ m = m' ∧ Has ρ [(0, .slice (some ⟨b, 0, some 1⟩) 2 C.size), (3, nv i)]) ⟨1, rfl, .inl rfl, rfl, rfl, rfl, trivial⟩ ?_
 rintro k ρ _ ⟨i, rfl, hi, rfl, hh⟩
 rw [hh.env]; clear hh
 refine cSeq (cSR ?_)
 refine sMn rfl ?_
 refine sMs rfl ?_
 refine sLen T22 rfl ?_
 refine sBin (a := i) (b := 2) rfl rfl aInt_lss ?_
 refine sN ?_
 refine cCond (p := i < 2) rfl (fun c1 => ?_) (fun c1 => ?_)
 ·
  obtain rfl : i = 1 := by omega
  refine cSkip (kSeqN ?_)
  refine cSeq (cBlock (cSeq ?_))
  refine cDraw rfl ?_
  refine sMs rfl ?_
  refine sMn rfl ?_
  refine sIx T22 S3 rfl rfl (by omega) ?_
  refine sLd (v := nv y) A3 rfl hb h1 ?_
  refine sMs rfl ?_
  refine sMn rfl ?_
  refine sBin (v := nv 0) (a := 1) (b := 1) rfl rfl rfl ?_
  refine sIx T22 S3 rfl rfl (by omega) ?_
  refine sLd (v := nv x) A3 rfl hb h0 ?_
  refine sBin (a := y) (b := x) rfl rfl aInt_eql ?_
  refine sN ?_
  refine cCond (p := y = x) rfl (fun c2 => ?_) (fun c2 => ?_)
  ·
   refine cSR ?_
   refine sMs rfl ?_
   refine sMn rfl ?_
   refine sSlLo (k := 1) T22 S3 rfl rfl (by omega) (by omega) ?_
   refine sAs (v := .slice _ _ _) rfl ?_
   refine sN ?_
   refine cSeq (cSR ?_)
   refine sAs (v := nv 1) rfl ?_
   refine sN ?_
   refine cBlock ?_
   refine wpC_loop (fun k' ρ m' => k' = 0 ∧ m = m' ∧ Has ρ [(0, .slice (some ⟨b, 0, some 1⟩) 2 C.size), (3, nv 1), (4, .slice (some ⟨b, 0 + 1 * 1, some 1⟩) (2 - 1) (C.size - 1)), (5, nv 1)]) ⟨rfl, rfl, rfl, rfl, rfl, rfl, trivial⟩ ?_
   rintro k' ρ _ ⟨rfl, rfl, hh⟩
   rw [hh.env]; clear hh
   refine cSeq (cSR ?_)
   refine sMn rfl ?_
   refine sMs rfl ?_
   refine sLen T22 rfl ?_
   refine sBin (v := .bool false) (a := 1) (b := 1) rfl rfl rfl ?_
   refine sN ?_
   refine cCondF rfl ?_
   refine cExit (kSeqE (kSeqE (kBlkS (kSeqN ?_))))
   refine cSR ?_
   refine sMs rfl ?_
   refine sMn rfl ?_
   refine sSlLo (k := 1) T22 S3 rfl rfl (by omega) (by omega) ?_
   refine sClr T22 Z3 rfl hb (by omega) ?_
   refine sN ?_
   refine cSR ?_
   refine sMs rfl ?_
   refine sMn rfl ?_
   refine sSlHi (k := 1) T22 S3 rfl rfl (by omega) ?_
   refine sAs (v := .slice _ _ _) rfl ?_
   refine sN ?_
   refine cRet (kBlkR (kSeqR (kSeqR (kBlkR (kSeqR ?_)))))
   refine ⟨.inr rfl, _, rfl, ?_, ⟨by simp, fun b' h1 h2 => gSn (fun e => h2 e.symm)⟩, by simp⟩
   rw [if_pos c2.symm]
   refine .inr ⟨b, 0, C.size, true, _, rfl, gS rfl hbm, fun i z hz => ?_⟩
   have hi0 : i = 0 := by have := (List.getElem?_eq_some_iff.1 hz).1; simpa [ofs] using this
   subst hi0
   obtain rfl : Int.ofNat x = z := by simpa [ofs] using hz
   rw [lay_get', if_neg (by omega)]; exact h0
  ·
   refine cSkip (kBlkN (kSeqN ?_))
   refine cRegion ?_
   refine sMn rfl ?_
   refine sBin rfl rfl (aInt_add (b := 1) (by omega)) ?_
   refine sAn rfl ?_
   refine sN ?_
   exact ⟨_, (by decide : 2 - 2 < 2 - 1), 2, rfl, .inr ⟨rfl, fun e => c2 e.symm⟩, rfl, rfl, rfl, trivial⟩
 ·
  have hxy : x ≠ y := by rcases hi with h | h; omega; exact h.2
  refine cExit (kSeqE (kSeqE (kBlkS (kSeqN ?_))))
  refine cSR ?_
  refine sMs rfl ?_
  refine sAs (v := .slice _ _ _) rfl ?_
  refine sN ?_
  refine cRet ?_
  refine ⟨.inr rfl, _, rfl, ?_, ⟨Nat.le_refl _, fun _ _ _ => rfl⟩, rfl⟩
  rw [if_neg hxy]
  refine .inr ⟨b, 0, C.size, true, C, rfl, hb, fun i z hz => ?_⟩
  have hi0 : i < 2 := by have := (List.getElem?_eq_some_iff.1 hz).1; simpa [ofs] using this
  have hi' : i = 0 ∨ i = 1 := by omega
  rcases hi' with rfl | rfl
  ·obtain rfl : Int.ofNat x = z := by simpa [ofs] using hz
   exact h0
  ·obtain rfl : Int.ofNat y = z := by simpa [ofs] using hz
   exact h1
end Go.AM

/-! N5 -/
namespace Go.AM
open Go.Proofs
instance : Inhabited BX := ⟨.mk 7 0 []⟩
abbrev Gt := Nat × List Nat
def notX (e : BX) : BX := .mk 2 0 [e]
def maxL (l : List Nat) : Nat := l.foldr max 0
/-- How deep the calls go. -/
def nfB : Nat → BX → Nat
  | 0, _ => 0
  | d + 1, e => (if e.kind = 5 then 2 else 1) + maxL (e.args.map (nfB d))
def atM : List BX → Nat → List Nat
  | [], _ => []
  | a :: l, f => if a.kind = 1 then a.var.toNat :: atM l f else f :: atM l (f + 1)
def inG (T : BX → Nat → Nat → List Gt) : List BX → Nat → List Gt
  | [], _ => []
  | a :: l, f => if a.kind = 1 then inG T l f else T a f (f + 1) ++ inG T l (f + 1)
def inU (U : BX → Nat → Nat) : List BX → Nat → Nat
  | [], _ => 0
  | a :: l, f => if a.kind = 1 then inU U l f else max (max (f + 1) (U a (f + 1))) (inU U l (f + 1))
def cmpM : List Nat → List Nat
  | [x, y] => if x = y then [x] else [x, y]
  | l => l
def gBoth (T : BX → Nat → Nat → List Gt) (l : List BX) (t f : Nat) : List Gt := inG T l f ++ [turnG t (cmpM (atM l f))] ++ (inG T l f).reverse
def gK (T : BX → Nat → Nat → List Gt) (kn : Nat) (e : BX) (t f : Nat) : List Gt :=
  if kn = 7 then [turnG t []] else if kn = 1 then [turnG t [e.var.toNat]] else if kn = 2 then T (e.args.getD 0 default) t f ++ [turnG t []]
  else if kn = 4 then T (e.args.getD 0 default) t f ++ T (e.args.getD 1 default) t f else if kn = 3 then gBoth T e.args t f
  else if kn = 5 then gBoth T (e.args.map notX) t f ++ [turnG t []] else []
def gT : Nat → BX → Nat → Nat → List Gt
  | 0, _, _, _ => []
  | d + 1, e, t, f => gK (gT d) e.kind.toNat e t f
def uK (U : BX → Nat → Nat) (kn : Nat) (e : BX) (f : Nat) : Nat :=
  if kn = 7 then 0 else if kn = 1 then 0 else if kn = 2 then U (e.args.getD 0 default) f
  else if kn = 4 then max (U (e.args.getD 0 default) f) (U (e.args.getD 1 default) f) else if kn = 3 then inU U e.args f
  else if kn = 5 then inU U (e.args.map notX) f else 0
def uT : Nat → BX → Nat → Nat
  | 0, _, _ => 0
  | d + 1, e, f => uK (uT d) e.kind.toNat e f
theorem maxL_mem {l : List Nat} {x : Nat} (h : x ∈ l) : x ≤ maxL l := by
 induction l with
 | nil => cases h
 | cons a l ih =>
  show x ≤ max a (maxL l)
  rcases List.mem_cons.1 h with rfl | h
  ·exact Nat.le_max_left _ _
  ·exact Nat.le_trans (ih h) (Nat.le_max_right _ _)
theorem nf_arg {d : Nat} {e a : BX} (h : a ∈ e.args) : nfB d a + 1 ≤ nfB (d + 1) e := by
 have := maxL_mem (List.mem_map_of_mem (f := nfB d) h)
 rw [nfB]; split <;> omega
theorem nf_arg5 {d : Nat} {e a : BX} (h : a ∈ e.args) (h5 : e.kind = 5) : nfB d a + 2 ≤ nfB (d + 1) e := by
 have := maxL_mem (List.mem_map_of_mem (f := nfB d) h)
 rw [nfB, if_pos h5]; omega
theorem nf_not (d : Nat) (a : BX) : nfB (d + 1) (notX a) = nfB d a + 1 := by
 rw [nfB, if_neg (by simp [notX, BX.kind])]
 show 1 + max (nfB d a) 0 = _
 omega
theorem nf_pos {vars : Int} {d : Nat} {e : BX} (h : 0 < d) : 1 ≤ nfB d e := by
 cases d with
 | zero => omega
 | succ d => rw [nfB]; split <;> omega
theorem fm_not {vars : Int} {d : Nat} {a : BX} (h : fmB vars d a = 0) : fmB vars (d + 1) (notX a) = 0 := by
 rw [fmB, if_neg (by simp [notX, BX.kind]), if_neg (by simp [notX, BX.args, BX.kind, BX.var, wantsN]), if_neg (by simp [notX, BX.kind])]
 show firstE [fmB vars d a] = 0
 rw [firstE, if_pos h]; rfl
theorem atM_len : ∀ (l : List BX) (f : Nat), (atM l f).length = l.length
 | [], _ => rfl
 | a :: l, f => by
  unfold atM
  split
  ·rw [List.length_cons, atM_len l f, List.length_cons]
  ·rw [List.length_cons, atM_len l (f + 1), List.length_cons]
theorem cmpM_len : ∀ (l : List Nat), (cmpM l).length ≤ l.length
 | [] => Nat.le_refl _
 | [x] => Nat.le_refl _
 | [x, y] => by
  show (if x = y then [x] else [x, y]).length ≤ 2
  split <;> simp
 | x :: y :: z :: l => Nat.le_refl _
theorem inG_ok {T : BX → Nat → Nat → List Gt} {p : Gt → Prop} : ∀ (l : List BX) (f : Nat), (∀ a ∈ l, ∀ t f, ∀ g ∈ T a t f, p g) → ∀ g ∈ inG T l f, p g
 | [], f, _ => fun g hg => by cases hg
 | a :: l, f, h => by
  unfold inG
  split
  ·exact inG_ok l f fun b hb => h b (by simp [hb])
  ·intro g hg
   rw [List.mem_append] at hg
   rcases hg with hg | hg
   ·exact h a (by simp) _ _ g hg
   ·exact inG_ok l (f + 1) (fun b hb => h b (by simp [hb])) g hg
theorem gBoth_ok {T : BX → Nat → Nat → List Gt} {l : List BX} {t f : Nat} (hl : l.length ≤ 2) (h : ∀ a ∈ l, ∀ t f, ∀ g ∈ T a t f, g.2.length ≤ 3) : ∀ g ∈ gBoth T l t f, g.2.length ≤ 3 := by
 intro g hg
 unfold gBoth at hg
 rw [List.mem_append, List.mem_append, List.mem_reverse] at hg
 rcases hg with (hg | hg) | hg
 ·exact inG_ok l f h g hg
 ·simp at hg; subst hg
  have h1 := cmpM_len (atM l f)
  rw [atM_len] at h1
  simp [turnG]; omega
 ·exact inG_ok l f h g hg
theorem args_le {vars : Int} {d : Nat} {e : BX} (h : fmB vars (d + 1) e = 0) : e.args.length ≤ 2 := by
 obtain ⟨kn, hk, hk1, hk7, hkl, _⟩ := fm_right h
 rw [hkl]
 have : kn = 1 ∨ kn = 2 ∨ kn = 3 ∨ kn = 4 ∨ kn = 5 ∨ kn = 6 ∨ kn = 7 := by omega
 rcases this with rfl | rfl | rfl | rfl | rfl | rfl | rfl <;> decide
theorem getD_memB {α : Type} [Inhabited α] {l : List α} {i : Nat} (h : i < l.length) : l.getD i default ∈ l := by
 rw [List.getD_eq_getElem?_getD, List.getElem?_eq_getElem h]; exact List.getElem_mem _
theorem gT_ok {vars : Int} : ∀ (D d : Nat) (e : BX) (t f : Nat), fmB vars d e = 0 → (∀ g ∈ gT D e t f, g.2.length ≤ 3) := by
 intro D
 induction D with
 | zero => intro d e t f _ g hg; cases hg
 | succ D ih =>
  intro d e t f h g hg
  obtain ⟨d, rfl⟩ : ∃ d', d = d' + 1 := by
   cases d with
   | zero => cases h
   | succ d => exact ⟨d, rfl⟩
  obtain ⟨kn, hk, hk1, hk7, hkl, _, _, hfa⟩ := fm_right h
  have hal := args_le h
  have harg : ∀ a ∈ e.args, ∀ t f, ∀ g ∈ gT D a t f, g.2.length ≤ 3 := fun a ha t f => ih d a t f (hfa a ha)
  have hnot : ∀ a ∈ e.args, ∀ t f, ∀ g ∈ gT D (notX a) t f, g.2.length ≤ 3 := fun a ha t f => ih (d + 1) (notX a) t f (fm_not (hfa a ha))
  rw [gT, gK] at hg
  split at hg
  ·simp at hg; subst hg; simp [turnG]
  ·split at hg
   ·simp at hg; subst hg; simp [turnG]
   ·split at hg
    ·rename_i h2
     rw [List.mem_append] at hg
     rcases hg with hg | hg
     ·exact harg _ (getD_memB (l := e.args) (i := 0) (by rw [hkl]; rw [hk] at h2; obtain rfl : kn = 2 := h2; decide)) _ _ g hg
     ·simp at hg; subst hg; simp [turnG]
    ·split at hg
     ·rename_i h4
      have hl2 : e.args.length = 2 := by rw [hkl]; rw [hk] at h4; obtain rfl : kn = 4 := h4; rfl
      rw [List.mem_append] at hg
      rcases hg with hg | hg
      ·exact harg _ (getD_memB (l := e.args) (i := 0) (by omega)) _ _ g hg
      ·exact harg _ (getD_memB (l := e.args) (i := 1) (by omega)) _ _ g hg
     ·split at hg
      ·exact gBoth_ok hal harg g hg
      ·split at hg
       ·rw [List.mem_append] at hg
        rcases hg with hg | hg
        ·refine gBoth_ok (by simpa using hal) (fun a ha => ?_) g hg
         rw [List.mem_map] at ha
         obtain ⟨b, hb, rfl⟩ := ha
         exact hnot b hb
        ·simp at hg; subst hg; simp [turnG]
       ·cases hg
end Go.AM

/-! R24 -/
namespace Go.AM
open Go.Proofs
theorem ElI : ElemT Tryd.prog 22 22 1 := ⟨_, _, _, 8, T22, T22, rfl, S3, Z3, rfl, bytes3, by decide, by decide⟩
theorem OwnF.toC {N : Nat} {m : Mem} {v : Value} {l : List Nat} (h : OwnF N m v (ofs l)) : OwnC N m v 1 l.length (cellsN l) := by
 rcases h with ⟨h, rfl⟩ | ⟨b, cap, c, rfl, h2, h3, h4, h5, h6⟩
 ·have : l = [] := List.length_eq_zero_iff.1 (by have := congrArg List.length h; rwa [ofs_length] at this)
  subst this; exact .nil _ _ _
 ·rw [ofs_length] at h4 ⊢
  refine .inr ⟨b, cap, c, rfl, h2, h3, h4, by omega, by simp, fun i hi => ?_⟩
  have hil : i < l.length := by omega
  rw [h6 i (Int.ofNat l[i]) (by simp [ofs, List.getElem?_eq_getElem hil]), cellsN_get (List.getElem?_eq_getElem hil)]
theorem OwnC.toFN {N : Nat} {m : Mem} {v : Value} {l : List Nat} (h : OwnC N m v 1 l.length (cellsN l)) : OwnF N m v (ofs l) := by
 rcases h with ⟨rfl, h, _⟩ | ⟨b, cap, c, rfl, h2, h3, h4, h5, h6, h7⟩
 ·have : l = [] := List.length_eq_zero_iff.1 h
  subst this; exact .nil _ _
 ·refine .inr ⟨b, cap, c, by rw [ofs_length], h2, h3, by rw [ofs_length]; exact h4, by omega, fun i x hx => ?_⟩
  have hil : i < l.length := by have := (List.getElem?_eq_some_iff.1 hx).1; rwa [ofs_length] at this
  rw [h7 i (by omega), cellsN_get (List.getElem?_eq_getElem hil)]
  simp [ofs, List.getElem?_eq_getElem hil] at hx
  rw [← hx]; rfl
/-- Appending one number; all else is as it was. -/
theorem sAppF {ρ : Env} {m : Mem} {K : Env → Mem → Prop} {ops : Array Oper} {l : List Oper} {d : Option Nat} {ty : TypeId} {pos : String} {af : Array Edge} {x y : Operand} {N k bx : Nat} {v : Value} {p : List Nat} (hx : evR ρ x = v) (hy : evR ρ y = .slice (some ⟨bx, 0, some 1⟩) 1 1) (h : OwnF N m v (ofs p)) (hb : Mem.get m bx = .cells true #[nv k]) (hN : N ≤ m.size) (hl : p.length ≤ 1000000)
  (hk : ∀ v' m', OwnF N m' v' (ofs (p ++ [k])) → Grew m v m' v' → wpOps Tryd.prog ops K l (updO ρ d v') m') : wpOps Tryd.prog ops K (⟨d, .call ⟨.builtin .append, ⟨[x, y]⟩, ⟨[22, 22]⟩⟩, ty, pos, af, none⟩ :: l) ρ m := by
 refine sAppC ElI hx hy (N := N) (n := p.length) (cs := cellsN p) (d := #[nv k]) h.toC hb rfl (by kernel_rfl) hN hl fun v' m' hO _ hG => hk v' m' (OwnC.toFN ?_) hG
 rw [show cellsN (p ++ [k]) = cellsN p ++ #[nv k] by simp [cellsN], List.length_append]
 exact hO
/-- The end of gates at work. -/
theorem sSlG {ρ : Env} {m : Mem} {K : Env → Mem → Prop} {ops : Array Oper} {l : List Oper} {d : Option Nat} {ty : TypeId} {pos : String} {af : Array Edge} {x i : Operand} {N : Nat} {v : Value} {cs : Array Value} {Gs I : List (Nat × List Nat)} (hO : OwnG N m v cs (Gs ++ I)) (hx : evR ρ x = v) (hi : evR ρ i = nv Gs.length)
  (hk : ∀ w, (ReadG m w I ∧ ¬ I = [] ∨ I = [] ∧ ∃ q c, w = .slice q 0 c) → wpOps Tryd.prog ops K l (updO ρ d w) m) : wpOps Tryd.prog ops K (⟨d, .slice 28 x (some i) none none, ty, pos, af, none⟩ :: l) ρ m := by
 have hrows := hO.read
 rcases hO.1 with ⟨rfl, h0, _⟩ | ⟨b, cap, c, rfl, h2, h3, h4, h5, h6, h7⟩
 ·rw [List.length_append] at h0
  have hG : Gs = [] := List.length_eq_zero_iff.1 (by omega)
  have hI : I = [] := List.length_eq_zero_iff.1 (by omega)
  subst hG hI
  refine sO (opF_read rfl ?_) (hk (.slice none 0 0) (.inr ⟨rfl, _, _, rfl⟩))
  simp only [aRead, hx, Option.map_some, hi, Option.map_none, aSlice, T28, S49]
  rfl
 ·rw [List.length_append] at h4 h6 h7 hx
  have hsl : aSlice Tryd.prog m 28 (.slice (some ⟨b, 0, some 4⟩) (Gs.length + I.length) cap) (some (nv Gs.length)) none none = some (cut false b 0 4 Gs.length (Gs.length + I.length) cap) := by
   simp only [aSlice, T28, S49, if_true, aBounds, aBound_nv (show Gs.length ≤ Gs.length + I.length by omega), Option.map_some, Option.isSome_none]
  refine sO (opF_read rfl (v := cut false b 0 4 Gs.length (Gs.length + I.length) cap) ?_) (hk _ ?_)
  ·simp only [aRead, hx, Option.map_some, hi, Option.map_none]
   exact hsl
  ·by_cases hI : I = []
   ·right
    subst hI
    refine ⟨rfl, ?_⟩
    unfold cut
    rw [if_neg (by simp)]
    split
    ·exact ⟨_, _, rfl⟩
    ·simp only [List.length_nil, Nat.add_zero, Nat.sub_self]
     exact ⟨_, _, rfl⟩
   ·left
    have hIl : 0 < I.length := List.length_pos_iff.2 hI
    refine ⟨?_, hI⟩
    unfold cut
    rw [if_neg (by simp), if_neg (by omega), Nat.zero_add, Nat.add_sub_cancel_left]
    have hsz : Gs.length * 4 + I.length * 4 ≤ c.size := by rw [h5]; have := Nat.mul_le_mul_right 4 h4; omega
    refine ⟨_, .inr ⟨b, Gs.length * 4, _, c, true, rfl, h3, hsz, rfl⟩, fun i g hi => ?_⟩
    have hil := (List.getElem?_eq_some_iff.1 hi).1
    obtain ⟨s, a0, a1, a2, a3, ho, _⟩ := hO.2 (Gs.length + i) g (by rw [List.getElem?_append_right (by omega), Nat.add_sub_cancel_left]; exact hi)
    have key : ∀ j, j < 4 → (c.extract (Gs.length * 4) (Gs.length * 4 + I.length * 4))[i * 4 + j]? = cs[(Gs.length + i) * 4 + j]? := fun j hj => by
     rw [Array.getElem?_extract, if_pos (by omega), ← h7 _ (by omega)]
     congr 1; omega
    exact ⟨s, by have := key 0 (by omega); rw [Nat.add_zero, Nat.add_zero] at this; rw [this]; exact a0, by rw [key 1 (by omega)]; exact a1, by rw [key 2 (by omega)]; exact a2, by rw [key 3 (by omega)]; exact a3, ho.ints⟩
theorem spec_backE {m : Mem} {q : Option Addr} {c : Nat} : ∃ v m', ACalls Tryd.prog 79 #[.slice q 0 c] m v m' ∧ (∃ cs, OwnG m.size m' v cs [] ∧ Ext m m') := by
 refine wpF (args := [_]) mixed okf79 (fn := Tryd.f79) rfl rfl rfl (by simp) ?_
 refine cSR ?_
 refine sAs (v := .slice _ _ _) rfl ?_
 refine sN ?_
 refine cSR ?_
 refine sMs rfl ?_
 refine sLen T28 rfl ?_
 refine sMkG (n := 0) rfl rfl (by omega) fun Z hZ hZ1 => ?_
 refine sAs (v := .slice _ _ _) rfl ?_
 refine sN ?_
 refine cSR ?_
 refine sMs rfl ?_
 refine sMs rfl ?_
 refine sO (v := nv 0) (m' := m.push (.cells true Z)) (opF_eff rfl rfl (by
  show aCopy Tryd.prog (m.push (.cells true Z)) 28 (.slice (some ⟨m.size, 0, some 4⟩) 0 0) (.slice q 0 c) = _
  simp only [aCopy, T28, S49, aLenOf]
  rfl)) ?_
 refine sN ?_
 refine cSR ?_
 refine sMs rfl ?_
 obtain ⟨v12, m2, h12, T, g2, hT, hT1, hTq, hB2, hz2⟩ := spec_ReverseG (m := m.push (.cells true Z)) (n := 0) (cap := 0) (gP rfl) (by omega) (by omega) hZ1
 refine sCall1 rfl call127 rfl h12 ?_
 simp only [Array.size_push] at hz2
 refine sN ?_
 refine cSeq (cSR ?_)
 refine sMs rfl ?_
 refine sLen T28 rfl ?_
 refine sMv (v := nv 0) rfl ?_
 refine sN ?_
 refine cBlock ?_
 refine wpC_loop (fun k ρ m' => k = 0 ∧ m2 = m' ∧ Has ρ [(3, .slice (some ⟨m.size, 0, some 4⟩) 0 0), (14, nv 0), (15, nv 0)]) ⟨rfl, rfl, rfl, rfl, rfl, trivial⟩ ?_
 rintro k ρ _ ⟨rfl, rfl, hh⟩
 rw [hh.env]; clear hh
 refine cSR ?_
 refine sBin (v := .bool false) (a := 0) (b := 0) rfl rfl rfl ?_
 refine sN ?_
 refine cSeq ?_
 refine cCondF rfl ?_
 refine cExit (kSeqE (kSeqE (kBlkS (kSeqN ?_))))
 refine cSR ?_
 refine sMs rfl ?_
 refine sAs (v := .slice _ _ _) rfl ?_
 refine sN ?_
 refine cRet ?_
 refine ⟨.inr rfl, _, rfl, #[], ⟨.inr ⟨m.size, 0, T, rfl, Nat.le_refl _, g2, Nat.le_refl _, by omega, rfl, fun i hi => by simp at hi⟩, fun i g h => by cases i <;> cases h⟩, ?_⟩
 exact ⟨by omega, fun b hb => by rw [hB2.2 b (by simp; omega) (by omega), gPn hb]⟩
end Go.AM

/-! R25 -/
namespace Go.AM
open Go.Proofs
/-- What compiling an expression does. -/
def ToSpec (vars : Int) (D : Nat) : Prop := ∀ {P : Nat → Prop} {m : Mem} {d N bb W t f : Nat} {Gs : List (Nat × List Nat)} {bv v : Value} {e : BX}, BldP P N bb m W Gs bv → N ≤ m.size → BAt P m d v e → fmB vars d e = 0 → nfB d e ≤ D → f + 2 * D ≤ 1000000 → Gs.length + (gT D e t f).length ≤ 200000 →
  ∃ r m', ACalls Tryd.prog 113 #[.pointer (some ⟨bb, 0, none⟩), v, nv t, nv f] m r m' ∧ (m.size ≤ m'.size ∧ (∀ b, P b → Mem.get m' b = Mem.get m b) ∧ ∃ bv', BldP P N bb m' (max W (uT D e f)) (Gs ++ gT D e t f) bv')
theorem BldP.lt {P : Nat → Prop} {N bb W : Nat} {m : Mem} {Gs : List (Nat × List Nat)} {v : Value} (h : BldP P N bb m W Gs v) {b : Nat} (hb : P b) : b < m.size := (h.2.2.1 b hb).1
theorem BldP.len {P : Nat → Prop} {N bb W : Nat} {m : Mem} {Gs : List (Nat × List Nat)} {v : Value} (h : BldP P N bb m W Gs v) : ∃ q cap, v = .slice q Gs.length cap := by
 obtain ⟨_, _, _, cs, hO, _⟩ := h; exact hO.1.len
theorem drop_consB {α : Type} {l : List α} {i : Nat} {a : α} (h : l[i]? = some a) : l.drop i = a :: l.drop (i + 1) := by
 have hl := (List.getElem?_eq_some_iff.1 h).1
 rw [List.drop_eq_getElem_cons hl, (List.getElem?_eq_some_iff.1 h).2]
theorem okf139 : okF Tryd.prog H0 139 67 = true := by kernel_rfl
theorem spec_both {vars : Int} {D : Nat} (ih : ToSpec vars D) {P : Nat → Prop} {m : Mem} {d N bb W t f b0 o0 cp0 : Nat} {r0 : Bool} {c00 : Array Value} {Gs : List (Nat × List Nat)} {bv : Value} {l : List BX} (hB : BldP P N bb m W Gs bv) (hN : N ≤ m.size) (hP0 : P b0) (hg0 : Mem.get m b0 = .cells r0 c00) (hl0 : ∀ (i : Nat) (a : BX), l[i]? = some a → o0 + i * 3 + 3 ≤ c00.size ∧ BAt P m d (.agg (c00.extract (o0 + i * 3) (o0 + i * 3 + 3))) a) (hl2 : l.length = 2) (hf : ∀ a ∈ l, fmB vars d a = 0) (hn : ∀ a ∈ l, nfB d a ≤ D) (hfr : f + 2 + 2 * D ≤ 1000000) (hlen : Gs.length + (gBoth (gT D) l t f).length ≤ 200000) :
 ∃ r m', ACalls Tryd.prog 139 #[.pointer (some ⟨bb, 0, none⟩), .slice (some ⟨b0, o0, some 3⟩) 2 cp0, nv t, nv f] m r m' ∧ (m.size ≤ m'.size ∧ (∀ b, P b → Mem.get m' b = Mem.get m b) ∧ ∃ bv', BldP P N bb m' (max W (inU (uT D) l f)) (Gs ++ gBoth (gT D) l t f) bv') := by
 obtain ⟨qb, cb, rfl⟩ := hB.len
 have hPm : ∀ b, P b → b < m.size := fun b hb => hB.lt hb
 have hgl : (gBoth (gT D) l t f).length = (inG (gT D) l f).length + 1 + (inG (gT D) l f).length := by simp [gBoth]; omega
 refine wpF (args := [_, _, _, _]) mixed okf139 (fn := Tryd.f139) rfl rfl rfl (by simp) ?_
 refine cSR ?_
 refine sMv (v := .pointer _) rfl ?_
 refine sNC rfl ?_
 refine sFA F96_0 rfl ?_
 refine sFA F30_2 rfl ?_
 refine sLd (v := .slice _ _ _) A28 rfl hB.1 rfl ?_
 refine sLen T28 rfl ?_
 refine sAn rfl ?_
 refine sN ?_
 refine cSR ?_
 refine sAs (v := .slice _ _ _) rfl ?_
 refine sN ?_
 refine cSeq (cSR ?_)
 refine sMs rfl ?_
 refine sLen T64 rfl ?_
 refine sMv (v := nv 0) rfl ?_
 refine sN ?_
 refine cBlock ?_
 refine wpC_loop (fun k ρ m' => ∃ i fi A I Wi bvi av, k = 2 - i ∧ i ≤ 2 ∧ A ++ atM (l.drop i) fi = atM l f ∧ I ++ inG (gT D) (l.drop i) fi = inG (gT D) l f ∧ max Wi (inU (uT D) (l.drop i) fi) = max W (inU (uT D) l f) ∧ A.length = i ∧ fi ≤ f + i ∧ BldP (fun b => P b ∨ blkOf av = some b) N bb m' Wi (Gs ++ I) bvi ∧ m.size ≤ m'.size ∧ (∀ b, P b → Mem.get m' b = Mem.get m b) ∧ OwnF m.size m' av (ofs A) ∧ Has ρ [(0, .pointer (some ⟨bb, 0, none⟩)), (2, nv t), (3, nv fi), (8, nv Gs.length), (9, av), (19, .slice (some ⟨b0, o0, some 3⟩) 2 cp0), (20, nv 2), (21, nv i)]) ⟨0, f, [], [], W, _, .slice none 0 0, rfl, Nat.zero_le _, rfl, rfl, rfl, rfl, Nat.le_refl _, by rw [List.append_nil]; exact hB.move (Nat.le_refl _) (fun _ _ _ => rfl) (fun b hb => by rcases hb with hb | hb; exact ⟨hPm b hb, .inl hb⟩; cases hb), Nat.le_refl _, fun _ _ => rfl, .nil _ _, rfl, rfl, rfl, rfl, rfl, rfl, rfl, rfl, trivial⟩ ?_
 rintro k ρ m' ⟨i, fi, A, I, Wi, bvi, av, rfl, hi, hA, hI, hW, hAl, hfi, hBi, hz, hPk, hav, hh⟩
 obtain ⟨qa, ca, rfl⟩ := hav.ints.lenN
 rw [hh.env]; clear hh
 have hIl : I.length ≤ (inG (gT D) l f).length := by rw [← hI, List.length_append]; omega
 refine cSR ?_
 refine sBin rfl rfl (aInt_lss) ?_
 refine sN ?_
 refine cSeq ?_
 refine cCond rfl (fun c0 => ?_) (fun c0 => ?_)
 ·
  obtain ⟨a, ha⟩ : ∃ a, l[i]? = some a := ⟨_, List.getElem?_eq_getElem (by omega)⟩
  have ham := List.mem_of_getElem? ha
  obtain ⟨hs1, hat0⟩ := hl0 i a ha
  rw [drop_consB ha] at hA hI hW
  have hat : BAt P m' d (.agg (c00.extract (o0 + i * 3) (o0 + i * 3 + 3))) a := hat0.frame fun b hb _ => ⟨hb, hPk b hb⟩
  obtain ⟨da, q1, cp1, hda, hca⟩ := hat.agg
  subst hda
  obtain ⟨kn, hk, hk1, hk7, hkl, hv0, hv1, hfa⟩ := fm_right (hf a ham)
  refine cSkip (kSeqN ?_)
  refine cSeq (cBlock (cSR ?_))
  refine sIx T64 S66 rfl rfl (by omega) ?_
  refine sLdA A66 S66 rfl ((hPk b0 hP0).trans hg0) hs1 ?_
  refine sAlloc Z66 (by kernel_rfl) ?_
  rw [hca]
  refine sStNA S66 rfl rfl rfl rfl (by kernel_rfl) ?_
  rw [hca, hk] at hat
  rw [hk]
  have e1 : Ext m' (m'.push (.cells true #[nv kn, .int .i64 a.var, .slice q1 a.args.length cp1])) := .push _ _
  have g1 : Mem.get (m'.push (.cells true #[nv kn, .int .i64 a.var, .slice q1 a.args.length cp1])) m'.size = .cells true #[nv kn, .int .i64 a.var, .slice q1 a.args.length cp1] := gP rfl
  have z1 : (m'.push (.cells true #[nv kn, .int .i64 a.var, .slice q1 a.args.length cp1])).size = m'.size + 1 := by simp
  have hat1 := hat.ext e1
  have hB1 := hBi.ext e1
  have hav1 := hav.ext e1
  have hPk1 : ∀ b, P b → Mem.get (m'.push (.cells true #[nv kn, .int .i64 a.var, .slice q1 a.args.length cp1])) b = Mem.get m b := fun b hb => (e1.2 b (by have := hPm b hb; omega)).trans (hPk b hb)
  generalize m'.push (.cells true #[nv kn, .int .i64 a.var, .slice q1 a.args.length cp1]) = m1 at *
  refine sN ?_
  refine cSeq (cSR ?_)
  refine sFA F66_0 rfl ?_
  refine sLd (v := nv kn) A3 rfl g1 rfl ?_
  refine sBin (a := kn) (b := 1) rfl rfl aInt_eql ?_
  refine sN ?_
  refine cCond (p := kn = 1) rfl (fun c1 => ?_) (fun c1 => ?_)
  ·
   obtain ⟨w1, w2⟩ := hv1 c1
   obtain ⟨vn, hvn⟩ : ∃ vn : Nat, a.var = Int.ofNat vn := ⟨a.var.toNat, by simp; omega⟩
   rw [hvn] at g1
   have hk1' : a.kind = 1 := by rw [hk, c1]; rfl
   rw [atM, if_pos hk1'] at hA
   rw [inG, if_pos hk1'] at hI
   rw [inU, if_pos hk1'] at hW
   refine cSR ?_
   refine sMs rfl ?_
   refine sFA F66_1 rfl ?_
   refine sLd (v := nv vn) A3 rfl g1 rfl ?_
   refine sBuildS T22 S3 Z3 (by decide) (by decide) (by decide) (by kernel_rfl) fill1 rfl ?_
   refine sAppF rfl rfl (N := m.size) (hav1.ext (.push _ _)) (gP rfl) (by simp; omega) (by omega) fun v4 m4 hO4 hG4 => ?_
   have z4 := hG4.1
   simp only [Array.size_push] at z4
   have hav1l : ∀ b, blkOf (Value.slice qa A.length ca) = some b → m.size ≤ b ∧ b < m'.size := fun b hb => hav.lt hb
   refine sAs (v := v4) rfl ?_
   refine sN ?_
   refine cExit (kSeqE (kBlkS (kSeqN ?_)))
   refine cRegion ?_
   refine sBin rfl rfl (aInt_add (b := 1) (by omega)) ?_
   refine sMn rfl ?_
   refine sN ?_
   refine ⟨_, ?_, i + 1, fi, A ++ [vn], I, Wi, bvi, v4, rfl, by omega, by rw [← hA, hvn, List.append_assoc]; rfl, hI, hW, by simp [hAl], by omega, ?_, by omega, fun b hb => ?_, hO4, rfl, rfl, rfl, rfl, rfl, rfl, rfl, rfl, trivial⟩
   ·omega
   ·refine (hB1.ext (.push m1 (.cells true #[nv vn]))).move (by simpa using z4) (fun b h1 h2 => hG4.2.1 b h1 (fun e => h2 (.inr e))) fun b hb => ?_
    rcases hb with hb | hb
    ·exact ⟨by have := hPm b hb; omega, .inl (.inl hb)⟩
    ·refine ⟨(hO4.lt hb).2, ?_⟩
     rcases hG4.2.2 with e | ⟨b1, e, hb1⟩
     ·rw [e] at hb; exact .inl (.inr hb)
     ·rw [e] at hb; injection hb with hb; exact .inr (by simp only [Array.size_push] at hb1 ⊢; omega)
   ·have hbm := hPm b hb
    rw [hG4.2.1 b (by simp only [Array.size_push]; omega) (fun e => by have := (hav1l b e).1; omega), gPn (by omega)]; exact hPk1 b hb
  ·
   have hk1' : ¬ a.kind = 1 := by rw [hk]; intro h; exact c1 (Int.ofNat.inj h)
   rw [atM, if_neg hk1'] at hA
   rw [inG, if_neg hk1'] at hI
   rw [inU, if_neg hk1'] at hW
   have hTl : I.length + (gT D a fi (fi + 1)).length ≤ (inG (gT D) l f).length := by rw [← hI]; simp only [List.length_append]; omega
   refine cSkip (kSeqN ?_)
   refine cSR ?_
   refine sMv (v := .pointer _) rfl ?_
   refine sMn rfl ?_
   obtain ⟨r35, m35, h35, hB35, z35, k35⟩ := spec_use hB1 (w := fi) (by omega)
   refine sCall2 rfl call156 rfl rfl h35 ?_
   have hbl : bb < m1.size := live hB1.1
   have hbP : ∀ b, P b → b ≠ bb := fun b hb => (hB.2.2.1 b hb).2.1
   have g35 : Mem.get m35 m'.size = .cells true #[nv kn, .int .i64 a.var, .slice q1 a.args.length cp1] := (k35 _ (by have := hB.2.1; omega)).trans g1
   have hat35 : BAt P m35 (da + 1) (.agg #[nv kn, .int .i64 a.var, .slice q1 a.args.length cp1]) a := hat1.frame fun b hb _ => ⟨hb, k35 b (hbP b hb)⟩
   have hav35 : OwnF m.size m35 (.slice qa A.length ca) (ofs A) := hav1.keep fun b hb => k35 b (by have := (hav.lt hb).1; have := hB.2.1; omega)
   refine sN ?_
   refine cSR ?_
   refine sMv (v := .pointer _) rfl ?_
   refine sLdAll A66 S66 rfl g35 rfl ?_
   refine sMn rfl ?_
   refine sMn rfl ?_
   refine sBin rfl rfl (aInt_add (b := 1) (by omega)) ?_
   obtain ⟨r41, m41, h41, z41, k41, bv41, hB41⟩ := ih (t := fi) (f := fi + 1) hB35 (by omega) (hat35.frame fun b hb _ => ⟨.inl hb, rfl⟩) (hf a ham) (hn a ham) (by omega) (by rw [List.length_append]; omega)
   refine sCall4 rfl call113 rfl rfl rfl rfl h41 ?_
   have hav41 : OwnF m.size m41 (.slice qa A.length ca) (ofs A) := hav35.keep fun b hb => k41 b (.inr hb)
   have hPk41 : ∀ b, P b → Mem.get m41 b = Mem.get m b := fun b hb => (k41 b (.inl hb)).trans ((k35 b (hbP b hb)).trans (hPk1 b hb))
   refine sN ?_
   refine cSR ?_
   refine sMs rfl ?_
   refine sMn rfl ?_
   refine sBuildS T22 S3 Z3 (by decide) (by decide) (by decide) (by kernel_rfl) fill1 rfl ?_
   refine sAppF rfl rfl (N := m.size) (hav41.ext (.push _ _)) (gP rfl) (by simp; omega) (by omega) fun v4 m4 hO4 hG4 => ?_
   have z4 := hG4.1
   simp only [Array.size_push] at z4
   have hav1l : ∀ b, blkOf (Value.slice qa A.length ca) = some b → m.size ≤ b ∧ b < m'.size := fun b hb => hav.lt hb
   refine sAs (v := v4) rfl ?_
   refine sN ?_
   refine cRegion ?_
   refine sMn rfl ?_
   refine sBin rfl rfl (aInt_add (b := 1) (by omega)) ?_
   refine sAn rfl ?_
   refine sNil (kBlkN (kSeqN ?_))
   refine cRegion ?_
   refine sBin rfl rfl (aInt_add (b := 1) (by omega)) ?_
   refine sMn rfl ?_
   refine sN ?_
   refine ⟨_, ?_, i + 1, fi + 1, A ++ [fi], I ++ gT D a fi (fi + 1), max (max Wi (fi + 1)) (uT D a (fi + 1)), bv41, v4, rfl, by omega, by rw [← hA, List.append_assoc]; rfl, by rw [List.append_assoc]; exact hI, ?_, by simp [hAl], by omega, ?_, by omega, fun b hb => ?_, hO4, rfl, rfl, rfl, rfl, rfl, rfl, rfl, rfl, trivial⟩
   ·omega
   ·rw [← hW]; omega
   ·rw [← List.append_assoc]
    refine (hB41.ext (.push m41 (.cells true #[nv fi]))).move (by simpa using z4) (fun b h1 h2 => hG4.2.1 b h1 (fun e => h2 (.inr e))) fun b hb => ?_
    rcases hb with hb | hb
    ·exact ⟨by have := hPm b hb; omega, .inl (.inl hb)⟩
    ·refine ⟨(hO4.lt hb).2, ?_⟩
     rcases hG4.2.2 with e | ⟨b1, e, hb1⟩
     ·rw [e] at hb; exact .inl (.inr hb)
     ·rw [e] at hb; injection hb with hb; exact .inr (by simp only [Array.size_push] at hb1 ⊢; omega)
   ·have hbm := hPm b hb
    rw [hG4.2.1 b (by simp; omega) (fun e => by have := (hav1l b e).1; omega), gPn (by omega)]; exact hPk41 b hb
 ·
  obtain rfl : i = 2 := by omega
  rw [List.drop_of_length_le (by omega)] at hA hI hW
  simp only [atM, inG, inU, List.append_nil, Nat.max_zero] at hA hI hW
  subst hA hI hW
  obtain ⟨qB, cB, rfl⟩ := hBi.len
  refine cExit (kSeqE (kSeqE (kBlkS (kSeqN ?_))))
  refine cSR ?_
  refine sMv (v := .pointer _) rfl ?_
  refine sNC rfl ?_
  refine sFA F96_0 rfl ?_
  refine sFA F30_2 rfl ?_
  refine sLd (v := .slice _ _ _) A28 rfl hBi.1 rfl ?_
  refine sMn rfl ?_
  obtain ⟨cs55, hO55, hcs55⟩ := hBi.2.2.2
  refine sSlG hO55 rfl rfl fun w hw => ?_
  obtain ⟨v56, m56, h56, cs56, o56, e56⟩ : ∃ v m56, ACalls Tryd.prog 79 #[w] m' v m56 ∧ ∃ cs, OwnG m'.size m56 v cs (inG (gT D) l f).reverse ∧ Ext m' m56 := by
   rcases hw with ⟨hR, _⟩ | ⟨h0, q, c, rfl⟩
   ·exact spec_back hR (by omega) (fun g hg => by
     have := inG_ok (T := gT D) (p := fun g => g.2.length ≤ 3) l f (fun a ha t f => gT_ok D d a t f (hf a ha)) g hg
     omega)
   ·rw [h0]; exact spec_backE
  obtain ⟨q56, c56, rfl⟩ := o56.1.len
  refine sCall1 rfl call79 rfl h56 ?_
  have z56 := e56.1
  refine sAs (v := .slice _ _ _) rfl ?_
  refine sN ?_
  refine cSR ?_
  refine sMv (v := .pointer _) rfl ?_
  refine sMn rfl ?_
  refine sMs rfl ?_
  obtain ⟨x, y, hxy⟩ := len2 (show (atM l f).length = 2 by rw [atM_len]; exact hl2)
  obtain ⟨ba, Ca, hea, hba, hga, hCa, hc0, hc1⟩ : ∃ ba Ca, Value.slice qa (atM l f).length ca = .slice (some ⟨ba, 0, some 1⟩) 2 (Array.size Ca) ∧ m.size ≤ ba ∧ Mem.get m' ba = .cells true Ca ∧ 2 ≤ Ca.size ∧ Ca[0]? = some (nv x) ∧ Ca[1]? = some (nv y) := by
   rcases hav with ⟨h, _⟩ | ⟨b, cap, c, h1, h2, h3, h4, h5, h6⟩
   ·rw [hxy] at h; cases h
   ·rw [ofs_length, hxy] at h4
    refine ⟨b, c, ?_, h2, h3, by simp at h4; omega, h6 0 (Int.ofNat x) (by rw [hxy]; rfl), h6 1 (Int.ofNat y) (by rw [hxy]; rfl)⟩
    rw [h1, ofs_length, h5, hxy]; rfl
  have hbal := live hga
  have havb : blkOf (Value.slice qa (atM l f).length ca) = some ba := by rw [hea]; rfl
  obtain ⟨v60, m60, h60, i60, k60, z60⟩ := spec_Compact2 (e56.cells hga) hCa hc0 hc1
  refine sCall1 rfl call157 hea h60 ?_
  have hQ : BldP (fun b => P b ∨ b = ba ∨ (m'.size ≤ b ∧ b < m56.size)) N bb m60 (max W (inU (uT D) l f)) (Gs ++ inG (gT D) l f) (.slice qB (Gs ++ inG (gT D) l f).length cB) := by
   refine hBi.move (by omega) (fun b h1 h2 => ?_) fun b hb => ?_
   ·rw [k60.2 b (by omega) (fun e => h2 (.inr (by rw [e]; exact havb))), e56.2 b h1]
   ·rcases hb with hb | hb | hb
    ·exact ⟨by have := hPm b hb; omega, .inl (.inl hb)⟩
    ·exact ⟨by omega, .inl (.inr (by rw [hb]; exact havb))⟩
    ·exact ⟨by omega, .inr hb.1⟩
  have hcm : (if x = y then [x] else [x, y]) = cmpM (atM l f) := by rw [hxy]; rfl
  rw [hcm] at i60
  have hcl := cmpM_len (atM l f)
  rw [atM_len] at hcl
  obtain ⟨v61, m61, h61, w61, rfl, o61, e61⟩ := spec_turn (k := t) i60 (by omega)
  refine sCall2 rfl call78 rfl rfl h61 ?_
  obtain ⟨q61, c61, rfl⟩ := o61.ints.lenN
  refine sBuildS T28 S49 Z49 (by decide) (by decide) (by decide) (by kernel_rfl) fillA4 rfl ?_
  obtain ⟨r63, m63, h63, bv63, hB63, z63, k63⟩ := add_one (gk := kindM (cmpM (atM l f)).length) hQ e61 (by omega) (o61.mono (Nat.le_succ _)) (by rw [List.length_append]; omega)
  refine sCall2 rfl call75 rfl rfl h63 ?_
  have hvB : ∀ b, blkOf (Value.slice qB (Gs ++ inG (gT D) l f).length cB) = some b → ¬ (P b ∨ b = ba ∨ (m'.size ≤ b ∧ b < m56.size)) := fun b hb hp => (hQ.2.2.1 b hp).2.2 hb
  have z61 := e61.1
  refine sN ?_
  refine cRegion ?_
  refine sMv (v := .pointer _) rfl ?_
  refine sMs rfl ?_
  have o63 : OwnG m'.size m63 (.slice q56 (inG (gT D) l f).reverse.length c56) cs56 (inG (gT D) l f).reverse := o56.up fun b h1 h2 => by
   rw [k63 b (by omega) (by have := hB.2.1; omega) (fun e => hvB b e (.inr (.inr ⟨h1, h2⟩))), k60.2 b h2 (by omega)]
  have hBP : BldP P N bb m63 (max W (inU (uT D) l f)) (Gs ++ inG (gT D) l f ++ [(kindM (cmpM (atM l f)).length, cmpM (atM l f) ++ [t])]) bv63 := hB63.move (Nat.le_refl _) (fun _ _ _ => rfl) fun b hb => ⟨by have := hPm b hb; omega, .inl (.inl hb)⟩
  obtain ⟨r66, m66, h66, bv66, hB66, z66, k66⟩ := spec_addP hBP (Gs2 := (inG (gT D) l f).reverse) (x := .slice q56 (inG (gT D) l f).reverse.length c56) ⟨cs56, o63.1.src, fun i g hi => by
   obtain ⟨s, a0, a1, a2, a3, ho, hb⟩ := o63.2 i g hi
   have ho' : m'.size ≤ m'.size := Nat.le_refl _
   obtain ⟨s2, b0, b1, b2, b3, ho2, _⟩ := o56.2 i g hi
   rw [a1] at b1; injection b1 with b1; subst b1
   refine ⟨s, a0, a1, a2, a3, ho.mono (by omega), fun b hbs => ?_⟩
   have h1 := ho2.lt hbs
   exact ⟨(hB63.2.2.1 b (.inr (.inr h1))).2.2, fun hp => by have := hPm b hp; omega⟩⟩ (by omega) (by simp only [List.length_append, List.length_singleton]; omega) (by rw [List.length_reverse]; omega)
  refine sCall2 rfl call75 rfl rfl h66 ?_
  refine sNil ?_
  refine ⟨.inl rfl, _, rfl, by omega, fun b hb => ?_, bv66, ?_⟩
  ·have hbm := hPm b hb
   rw [k66 b (by omega) (hBP.2.2.1 b hb).2.1 (hBP.2.2.1 b hb).2.2, k63 b (by omega) (hBP.2.2.1 b hb).2.1 (fun e => hvB b e (.inl hb)), k60.2 b (by omega) (by omega), e56.2 b (by omega)]
   exact hPk b hb
  ·rw [show Gs ++ gBoth (gT D) l t f = Gs ++ inG (gT D) l f ++ [(kindM (cmpM (atM l f)).length, cmpM (atM l f) ++ [t])] ++ (inG (gT D) l f).reverse by simp [gBoth, turnG]]
   exact hB66
end Go.AM
