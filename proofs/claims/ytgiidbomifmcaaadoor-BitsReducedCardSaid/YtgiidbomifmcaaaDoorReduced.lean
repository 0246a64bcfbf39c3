/- A span has one list of reduced rows. -/
import Derived.Test.YtgiidbomifmcaaaDoorMade
import Derived.Test.YtgiidbomifmcaaaDoorEntryB
import Derived.Carry
import Derived.Test.YtgiidbomifmcaaaDoorTie
import Derived.Test.YtgiidbomifmcaaaDoorCards
set_option linter.unusedVariables false
set_option linter.unusedSimpArgs false
/-! ### E45 -/
namespace Go.AM
open Go.Proofs
set_option maxRecDepth 100000
set_option linter.unusedVariables false
set_option linter.unusedSimpArgs false
theorem kall59 : callable Tryd.prog 59 = true := by kernel_rfl
theorem kall62 : callable Tryd.prog 62 = true := by kernel_rfl
theorem getD_set' (l : List Nat) (i j x : Nat) (h : i < l.length) : (l.set i x).getD j 0 = if j = i then x else l.getD j 0 := getD_set l i j x h
/-- A row to which another one is added: the span is the same. -/
theorem xor_row_span {M : List Nat} {i j : Nat} (hi : i < M.length) (hij : j ≠ i) : SameSpan (M.set i (M.getD i 0 ^^^ M.getD j 0)) M := by
  refine SameSpan.ofGetD (fun k => ?_) fun k => ?_
  · rw [getD_set _ _ _ _ hi]
    split
    · exact (InSpan.getD M i).xor (InSpan.getD M j)
    · exact InSpan.getD M k
  · by_cases e : k = i
    · have h1 := InSpan.getD (M.set i (M.getD i 0 ^^^ M.getD j 0)) i
      have h2 := InSpan.getD (M.set i (M.getD i 0 ^^^ M.getD j 0)) j
      rw [getD_set _ _ _ _ hi, if_pos rfl] at h1
      rw [getD_set _ _ _ _ hi, if_neg hij] at h2
      have := h1.xor h2
      rw [xor_cancel_right] at this
      rw [e]; exact this
    · have h1 := InSpan.getD (M.set i (M.getD i 0 ^^^ M.getD j 0)) k
      rw [getD_set _ _ _ _ hi, if_neg e] at h1
      exact h1
theorem set_lt {M : List Nat} {n i x : Nat} (h : ∀ y ∈ M, y < 2 ^ n) (hx : x < 2 ^ n) : ∀ y ∈ M.set i x, y < 2 ^ n := fun y hy => by
  rcases List.mem_or_eq_of_mem_set hy with hy | rfl
  · exact h y hy
  · exact hx
theorem span_in {L M : List Nat} {w : Nat} (h : SameSpan M L) : SameSpan (M ++ [total L w]) L := fun y => by
  rw [span_snoc, h, h]
  exact ⟨fun q => q.elim id fun q => by have := q.xor ⟨w, rfl⟩; rwa [xor_cancel_right] at this, .inl⟩
theorem fall_getD {R : List Nat} (h : Rref R) {i : Nat} (hi : i + 1 < R.length) : blen (R.getD (i + 1) 0) < blen (R.getD i 0) := by
  have := List.pairwise_iff_getElem.1 h.fall i (i + 1) (by omega) hi (by omega)
  rwa [getD_eq hi, getD_eq (by omega)]
theorem free_lt {R : List Nat} {n i : Nat} (hi : i + 1 < (orthCols R n).length) : (orthCols R n).getD i 0 < (orthCols R n).getD (i + 1) 0 := by
  have hp : (orthCols R n).Pairwise (· < ·) := List.Pairwise.filter _ List.pairwise_lt_range
  have := List.pairwise_iff_getElem.1 hp i (i + 1) (by omega) hi (by omega)
  rwa [getD_eq hi, getD_eq (by omega)]
theorem lead_val {a : Nat} (h : 0 < a) : (Value.int .i64 ((a : Int) - ((0 : Nat) : Int) - (1 : Int))) = nv (a - 1) := by
  congr 1; simp; omega
theorem free_bit {R : List Nat} {n c : Nat} (h : c ∈ orthCols R n) : (leadsM R).testBit c = false := by
  rw [leadsM_testBit, List.any_eq_false]
  intro r hr
  have := (mem_orthCols.1 h).2 r hr
  simpa using this

theorem okf10 : okF Tryd.prog H0 10 247 = true := by kernel_rfl
theorem spec_BitsReduced {m : Mem} {a a2 : Value} {l l2 : List Int} {c : Nat} {mb : Bool} (hG : Glob m) (ha : BytesAt m a l) (ha2 : BytesAt m a2 l2) (hc : c < 256) : ∃ v m', ACalls Tryd.prog 10 #[a, a2, .int .u8 (Int.ofNat c), .bool mb] m v m' ∧ (v = .bool true ∧ True) := by
  obtain ⟨q, cap, rfl⟩ := ha.len
  obtain ⟨q2, cap2, rfl⟩ := ha2.len
  have hn1 : 1 ≤ 1 + c % 16 := by omega
  have hn2 : 1 + c % 16 ≤ 16 := by omega
  refine wpF (args := [_, _, _, _]) mixed okf10 (fn := Tryd.f10) rfl rfl rfl (by simp) ?_
  refine cSeq ?_
  refine cRegion ?_
  refine sAs (v := .bool _) rfl ?_
  refine sNil (kSeqN ?_)
  refine cSeq ?_
  refine cRegion ?_
  refine sMv (v := .slice _ _ _) rfl ?_
  obtain ⟨v35, m35, h35, b, rfl, hb, hS35, e35⟩ := spec_Of ha2
  refine sCall1 rfl call31 rfl h35 ?_
  refine sAs (v := .pointer _) rfl ?_
  refine sNil (kSeqN ?_)
  refine cSeq ?_
  refine cRegion ?_
  refine sMv (v := .int .u8 _) rfl ?_
  refine sP (v := nv c) (conv5_3 hc) ?_
  refine sBin (b := 16) rfl rfl (aInt_rem (by omega)) ?_
  refine sBin (a := 1) rfl rfl (aInt_add (by omega)) ?_
  generalize 1 + c % 16 = n at *
  have h2n : 2 ^ n ≤ 2 ^ 16 := Nat.pow_le_pow_right (by omega) hn2
  have h2p : 0 < 2 ^ n := Nat.two_pow_pos n
  refine sAs (v := nv _) rfl ?_
  refine sNil (kSeqN ?_)
  refine cSeq ?_
  refine cRegion ?_
  refine sMv (v := .slice _ _ _) rfl ?_
  obtain ⟨v41, m41, h41, b', rfl, hb', hT41, e41⟩ := spec_Of (ha.ext e35)
  have hS41 := hS35.ext hb e41
  have hbS := hS35.lt
  have hbT := hT41.lt
  refine sCall1 rfl call31 rfl h41 ?_
  refine sMv (v := nv _) rfl ?_
  obtain ⟨v43, m43, h43, L, oL, hLl, hLx, hT43, x43⟩ := spec_Made (n := n) (most := 8) hT41 (by omega) hb' (by omega) (by omega)
  obtain ⟨qL, cL, rfl⟩ := oL.ints.lenN
  have hR : Right L n := made_right hn1 (by omega) (by omega) hLl hLx
  have hS43 := hS41.lowx hb x43 (.inr hb')
  have y43 : Ext m m43 := (e35.trans e41).lowx x43 (by have := e35.1; omega)
  refine sCall3 rfl call32 rfl rfl rfl h43 ?_
  refine sAs (v := .slice _ _ _) rfl ?_
  refine sNil (kSeqN ?_)
  refine cSeq ?_
  refine cRegion ?_
  refine sMv (v := .slice _ _ _) rfl ?_
  refine sMv (v := nv _) rfl ?_
  obtain ⟨v47, m47, h47, w47, rfl, oR, e47⟩ := sp_Reduce hR oL.ints
  obtain ⟨qR, cR, rfl⟩ := oR.ints.lenN
  have y47 := y43.trans e47
  have hRR := hR.red
  have hrr := (redM_rref hR.lt24).1
  have hcnt := orthCols_count hrr hRR.lt
  have hfree := orthCols_eq hR.n24 hR.lt
  refine sCall2 rfl call43 rfl rfl h47 ?_
  refine sMv (v := .tuple _) rfl ?_
  refine sP (v := .slice _ _ _) rfl ?_   -- extract ['t44', '0']
  refine sP (v := nv _) rfl ?_   -- extract ['t44', '1']
  refine sAs (v := .slice _ _ _) rfl ?_
  refine sAs (v := nv _) rfl ?_
  refine sNil (kSeqN ?_)
  refine cSeq ?_   -- seq 5
  refine cSeq ?_
  refine cRegion ?_
  refine sMv (v := nv _) rfl ?_
  refine sBin (v := .bool false) (a := 0) (b := 0) rfl rfl (neqF rfl) ?_
  refine sMv (v := .bool _) rfl ?_
  refine sG rfl rfl ?_
  refine sMv (v := .slice _ _ _) rfl ?_
  refine sG rfl rfl ?_
  refine sMv (v := nv _) rfl ?_
  refine sG rfl rfl ?_
  obtain ⟨v55, m55, h55, rfl, e55⟩ := spec_rows oR.ints (by have := redM_length L; omega) hR.n24 hRR.lt
  have y55 := y47.trans e55
  refine sCall2 rfl call41 rfl rfl h55 ?_
  refine sG rfl rfl ?_
  refine sP (v := .bool false) rfl ?_
  refine sP (v := .bool _) rfl ?_   -- t57 pick ['t52', '(bool true)', 't56']
  refine sNil (kSeqN ?_)
  refine cCondF rfl ?_
  refine cSkip (kSeqN ?_)
  refine cSeq ?_
  refine cRegion ?_
  refine sAs (v := nv 0) rfl ?_
  refine sNil (kSeqN ?_)
  refine cSeq ?_
  refine cRegion ?_
  refine sMv (v := nv _) rfl ?_
  refine sAs (v := nv _) rfl ?_
  refine sNil (kSeqN ?_)
  refine cSeq ?_
  refine cSeq ?_
  refine cRegion ?_
  refine sMv (v := .slice _ _ _) rfl ?_
  refine sLen T22 rfl ?_
  have iR := (oR.ext e55).ints
  have hS55 := hS43.ext hb (e47.trans e55)
  have hz43 := x43.1
  have hz47 := e47.1
  have hz55 := e55.1
  have hrl := redM_length L
  have hredR := redM_redM hR.lt24
  generalize hgen : redM L = Q at *
  refine sMv (v := nv 0) rfl ?_
  refine sNil (kSeqN ?_)
  refine cBlock ?_
  refine wpC_loop (fun k ρ m' => ∃ i last, k = Q.length - i ∧ i ≤ Q.length ∧ (last = if i = 0 then n else blen (Q.getD (i - 1) 0) - 1) ∧ m55 = m' ∧ Has ρ [(3, .bool mb), (9, .pointer (some ⟨b, 0, none⟩)), (10, nv n), (11, .slice qL L.length cL), (12, .slice qR Q.length cR), (14, nv (leadsM (Q.take i))), (15, nv last), (59, .slice qR Q.length cR), (60, nv Q.length), (61, nv i)]) ⟨0, n, rfl, by omega, by simp, rfl, rfl, rfl, rfl, rfl, rfl, rfl, rfl, rfl, rfl, rfl, trivial⟩ ?_
  rintro k ρ m' ⟨i, last, rfl, hi, hlast, rfl, hh⟩
  rw [hh.env]; clear hh
  refine cSeq ?_
  refine cRegion ?_
  refine sBin rfl rfl (aInt_lss) ?_
  refine sNil (kSeqN ?_)
  refine cSeq ?_   -- seq 12
  refine cCond rfl (fun c1 => ?_) (fun c1 => ?_)
  ·
    obtain ⟨b1, o1, p1, r1, cc1, e1, g1, x1⟩ := iR.atN (by omega)
    obtain ⟨rfl, rfl, rfl⟩ := e1
    have hl1 : ∀ k, k < Q.length → Q[k]? = some (Q.getD k 0) := fun k hk => by rw [List.getD_eq_getElem?_getD, List.getElem?_eq_getElem hk]; rfl
    have hxm := getD_mem c1
    have hx1 := hRR.lt _ hxm
    have hx0 := hrr.ne _ hxm
    have hbp := blen_pos_iff.2 hx0
    have hbn := blen_le_of_lt hx1
    have hbl : blen (Q.getD i 0) - 1 < last := by
      rw [hlast]; split
      · omega
      · have := fall_getD hrr (i := i - 1) (by omega)
        rw [show i - 1 + 1 = i by omega] at this; omega
    have halone := fun k (hk : k < Q.length) (hki : k ≠ i) => hrr.indep
    have hbit : ∀ k, k < Q.length → k ≠ i → (Q.getD k 0).testBit (blen (Q.getD i 0) - 1) = false := fun k hk hki => by
      refine hrr.alone _ hxm _ (getD_mem hk) fun e2 => ?_
      have hp := List.pairwise_iff_getElem.1 hrr.fall
      rw [getD_eq c1, getD_eq hk] at e2
      rcases Nat.lt_or_ge i k with hik | hik
      · have := hp i k c1 hk hik; rw [e2] at this; omega
      · have := hp k i hk c1 (by omega); rw [e2] at this; omega
    have hlt := leadsM_lt (n := n) (by omega) (Q.take i) fun r hr => hRR.lt r (List.mem_of_mem_take hr)
    have htk : Q.take (i + 1) = Q.take i ++ [Q.getD i 0] := by rw [getD_eq c1]; exact List.take_succ_eq_append_getElem c1
    refine cSkip (kSeqN ?_)
    refine cSeq ?_
    refine cBlock ?_
    refine cSeq ?_
    refine cRegion ?_
    refine sMv (v := nv _) rfl ?_
    refine sIx T22 S3 rfl rfl (by omega) ?_
    refine sLd (v := nv (Q.getD i 0)) A3 rfl g1 (x1 _ _ (hl1 i c1)) ?_
    generalize hx : Q.getD i 0 = x at *
    refine sAs (v := nv _) rfl ?_
    refine sAs (v := nv _) rfl ?_
    refine sNil (kSeqN ?_)
    refine cSeq ?_
    refine cRegion ?_
    refine sAs (v := .int .i64 (-1)) rfl ?_
    refine sNil (kSeqN ?_)
    refine cSeq ?_
    refine cSeq ?_
    refine cRegion ?_
    refine sMv (v := nv _) rfl ?_
    refine sAs (v := nv _) rfl ?_
    refine sNil (kSeqN ?_)
    refine cBlock ?_
    refine wpC_loop (fun k ρ m' => ∃ y, k = y ∧ y ≤ x ∧ blen y ≤ blen x ∧ m55 = m' ∧ Has ρ [(3, .bool mb), (9, .pointer (some ⟨b, 0, none⟩)), (10, nv n), (11, .slice qL L.length cL), (12, .slice (some ⟨b1, o1, some 1⟩) Q.length cR), (14, nv (leadsM (Q.take i))), (15, nv last), (59, .slice (some ⟨b1, o1, some 1⟩) Q.length cR), (60, nv Q.length), (61, nv i), (16, nv i), (17, nv x), (18, .int .i64 ((blen x : Int) - (blen y : Int) - (1 : Int))), (19, nv y)]) ⟨x, rfl, Nat.le_refl _, Nat.le_refl _, rfl, rfl, rfl, rfl, rfl, rfl, rfl, rfl, rfl, rfl, rfl, rfl, rfl, by simp [updO], rfl, trivial⟩ ?_
    rintro k ρ m' ⟨y, rfl, hy, hyb, rfl, hh⟩
    rw [hh.env]; clear hh
    refine cSeq ?_   -- seq 18
    refine cSeq ?_
    refine cRegion ?_
    refine sMv (v := nv _) rfl ?_
    refine sBin rfl rfl (aInt_gtr (b := 0)) ?_
    refine sNil (kSeqN ?_)
    refine cCond rfl (fun c2 => ?_) (fun c2 => ?_)
    ·
      have hbs : blen k = 1 + blen (k >>> 1) := by rw [Nat.shiftRight_eq_div_pow]; exact blen_pos c2
      have e72 : (blen x : Int) - (blen k : Int) - (1 : Int) + (1 : Int) = (blen x : Int) - (blen (k >>> 1) : Int) - (1 : Int) := by omega
      have hkk : k >>> 1 < k := by rw [Nat.shiftRight_eq_div_pow]; omega
      refine cSkip (kSeqN ?_)
      refine cSeq ?_
      refine cBlock ?_
      refine cRegion ?_
      refine sMv (v := .int .i64 _) rfl ?_
      refine sBinI (v := .int .i64 ((blen x : Int) - (blen (k >>> 1) : Int) - (1 : Int))) (a := (blen x : Int) - (blen k : Int) - (1 : Int)) (b := 1) rfl rfl (by rw [aInt_addI (by omega), e72]) ?_
      generalize hk2 : k >>> 1 = k2 at *
      refine sAs (v := .int .i64 _) rfl ?_
      refine sNil (kBlkN (kSeqN ?_))
      refine cRegion ?_
      refine sMv (v := nv _) rfl ?_
      refine sShrN (b := 1) rfl rfl (by omega) ?_
      rw [hk2]
      refine sAs (v := nv _) rfl ?_
      refine sNil (kSeqN ?_)
      exact ⟨_, hkk, k2, rfl, by omega, by omega, rfl, rfl, rfl, rfl, rfl, rfl, rfl, rfl, rfl, rfl, rfl, rfl, rfl, rfl, rfl, trivial⟩
    ·
      obtain rfl : k = 0 := by omega
      have e18 : (Value.int .i64 ((blen x : Int) - (blen 0 : Int) - (1 : Int))) = nv (blen x - 1) := by
        rw [blen_zero]; exact lead_val hbp
      rw [e18]
      refine cExit (kSeqE (kSeqE (kBlkS (kSeqN ?_))))
      refine cSeq ?_   -- seq 21
      refine cSeq ?_
      refine cRegion ?_
      refine sMv (v := nv (blen x - 1)) rfl ?_
      refine sBin (v := .bool false) (b := 0) rfl rfl (lssF (by omega)) ?_
      refine sMv (v := .bool _) rfl ?_
      refine sG rfl rfl ?_
      refine sMv (v := nv (blen x - 1)) rfl ?_
      refine sG rfl rfl ?_
      refine sMv (v := nv _) rfl ?_
      refine sG rfl rfl ?_
      refine sBin (v := .bool false) rfl rfl (geqF (by omega)) ?_
      refine sP (v := .bool _) rfl ?_   -- t79 pick ['t75', '(bool true)', 't78']
      refine sNil (kSeqN ?_)
      refine cCondF rfl ?_
      refine cSkip (kSeqN ?_)
      refine cSeq ?_
      refine cSeq ?_
      refine cRegion ?_
      refine sMv (v := .slice _ _ _) rfl ?_
      refine sLen T22 rfl ?_
      refine sMv (v := nv 0) rfl ?_
      refine sNil (kSeqN ?_)
      refine cBlock ?_
      refine wpC_loop (fun q ρ m' => ∃ k, q = Q.length - k ∧ k ≤ Q.length ∧ m55 = m' ∧ Has ρ [(3, .bool mb), (9, .pointer (some ⟨b, 0, none⟩)), (10, nv n), (11, .slice qL L.length cL), (12, .slice (some ⟨b1, o1, some 1⟩) Q.length cR), (14, nv (leadsM (Q.take i))), (15, nv last), (59, .slice (some ⟨b1, o1, some 1⟩) Q.length cR), (60, nv Q.length), (61, nv i), (16, nv i), (17, nv x), (18, nv (blen x - 1)), (80, .slice (some ⟨b1, o1, some 1⟩) Q.length cR), (81, nv Q.length), (82, nv k)]) ⟨0, rfl, by omega, rfl, rfl, rfl, rfl, rfl, rfl, rfl, rfl, rfl, rfl, rfl, rfl, rfl, rfl, rfl, rfl, rfl, trivial⟩ ?_
      rintro q ρ m' ⟨k, rfl, hk, rfl, hh⟩
      rw [hh.env]; clear hh
      refine cSeq ?_
      refine cRegion ?_
      refine sBin rfl rfl (aInt_lss) ?_
      refine sNil (kSeqN ?_)
      refine cSeq ?_   -- seq 26
      refine cCond rfl (fun c4 => ?_) (fun c4 => ?_)
      ·
        have hyl := hRR.lt _ (getD_mem c4)
        refine cSkip (kSeqN ?_)
        refine cSeq ?_
        refine cBlock ?_
        refine cSeq ?_
        refine cRegion ?_
        refine sMv (v := nv _) rfl ?_
        refine sIx T22 S3 rfl rfl (by omega) ?_
        refine sLd (v := nv (Q.getD k 0)) A3 rfl g1 (x1 _ _ (hl1 k c4)) ?_
        refine sAs (v := nv _) rfl ?_
        refine sAs (v := nv _) rfl ?_
        refine sNil (kSeqN ?_)
        refine cSeq ?_
        refine cRegion ?_
        refine sMv (v := nv _) rfl ?_
        refine sMv (v := nv _) rfl ?_
        refine sBin rfl rfl (aInt_neq) ?_
        refine sMv (v := .bool _) rfl ?_
        by_cases h1 : k ≠ i
        ·
          rw [decide_eq_true h1]
          refine sG rfl rfl ?_
          refine sMv (v := nv _) rfl ?_
          refine sG rfl rfl ?_
          refine sMv (v := nv (blen x - 1)) rfl ?_
          refine sG rfl rfl ?_
          refine sBin rfl rfl (aInt_shr (by omega)) ?_
          refine sG rfl rfl ?_
          refine sBin (b := 1) rfl rfl (aInt_and ⟨by have := Nat.shiftRight_le (Q.getD k 0) (blen x - 1); omega, by omega⟩) ?_
          refine sG rfl rfl ?_
          refine sBin (v := .bool false) (b := 1) rfl rfl (eqlF (fun h => by have h5 := hbit k c4 h1; rw [(bit_one _ _).1 h] at h5; cases h5)) ?_
          refine sP (v := .bool _) rfl ?_   -- t96 pick ['t90', 't95', '(bool false)']
          refine sNil (kSeqN ?_)
          refine cCondF rfl ?_
          refine cSkip (kBlkN (kSeqN ?_))
          refine cRegion ?_
          refine sBin rfl rfl (aInt_add (b := 1) (by omega)) ?_
          refine sMv (v := nv _) rfl ?_
          refine sNil (kSeqN ?_)
          refine ⟨_, ?_, k + 1, rfl, by omega, rfl, rfl, rfl, rfl, rfl, rfl, rfl, rfl, rfl, rfl, rfl, rfl, rfl, rfl, rfl, rfl, rfl, trivial⟩
          omega
        ·
          rw [decide_eq_false h1]
          refine sGno (q' := false) rfl rfl (by simp) ?_
          refine sGno (q' := false) rfl rfl (by simp) ?_
          refine sGno (q' := false) rfl rfl (by simp) ?_
          refine sGno (q' := false) rfl rfl (by simp) ?_
          refine sGno (q' := false) rfl rfl (by simp) ?_
          refine sP (v := .bool _) rfl ?_   -- t96 pick ['t90', 't95', '(bool false)']
          refine sNil (kSeqN ?_)
          refine cCondF rfl ?_
          refine cSkip (kBlkN (kSeqN ?_))
          refine cRegion ?_
          refine sBin rfl rfl (aInt_add (b := 1) (by omega)) ?_
          refine sMv (v := nv _) rfl ?_
          refine sNil (kSeqN ?_)
          refine ⟨_, ?_, k + 1, rfl, by omega, rfl, rfl, rfl, rfl, rfl, rfl, rfl, rfl, rfl, rfl, rfl, rfl, rfl, rfl, rfl, rfl, rfl, trivial⟩
          omega
      ·
        have h2l : 2 ^ (blen x - 1) ≤ 2 ^ 16 := Nat.pow_le_pow_right (by omega) (by omega)
        refine cExit (kSeqE (kSeqE (kBlkS (kSeqN ?_))))
        refine cSeq ?_
        refine cRegion ?_
        refine sMv (v := nv _) rfl ?_
        refine sMv (v := nv (blen x - 1)) rfl ?_
        refine sBin rfl rfl (aInt_shl (a := 1) (by omega)) ?_
        rw [Nat.shiftLeft_eq, Nat.one_mul]
        have e101 : leadsM (Q.take (i + 1)) = leadsM (Q.take i) ||| 2 ^ (blen x - 1) := by rw [htk, leadsM_snoc]
        refine sBin (v := nv (leadsM (Q.take (i + 1)))) rfl rfl (by rw [e101]; exact aInt_or (by omega)) ?_
        refine sAs (v := nv _) rfl ?_
        refine sNil (kSeqN ?_)
        refine cRegion ?_
        refine sMv (v := nv (blen x - 1)) rfl ?_
        refine sAs (v := nv _) rfl ?_
        refine sNil (kBlkN (kSeqN ?_))
        refine cRegion ?_
        refine sBin rfl rfl (aInt_add (b := 1) (by omega)) ?_
        refine sMv (v := nv _) rfl ?_
        refine sNil (kSeqN ?_)
        refine ⟨_, ?_, i + 1, _, rfl, by omega, ?_, rfl, rfl, rfl, rfl, rfl, rfl, rfl, rfl, rfl, rfl, rfl, trivial⟩
        · omega
        · rw [if_neg (by omega), Nat.add_sub_cancel, hx]
  ·
    obtain rfl : i = Q.length := by omega
    rw [List.take_length]
    have hlt := leadsM_lt (n := n) (by omega) Q fun r hr => hRR.lt r hr
    refine cExit (kSeqE (kSeqE (kBlkS (kSeqN ?_))))
    refine cSeq ?_
    refine cRegion ?_
    refine sMv (v := .pointer _) rfl ?_
    refine sMv (v := nv _) rfl ?_
    obtain ⟨v106, m106, h106, M, oM, hMl, hMx, hS106, x106⟩ := spec_Made (n := n) (most := 8) hS55 (by omega) hb (by omega) (by omega)
    obtain ⟨qM, cM, rfl⟩ := oM.ints.lenN
    refine sCall3 rfl call32 rfl rfl rfl h106 ?_
    have hz106 := x106.1
    have oL55 := (oL.ext e47).ext e55
    refine sAs (v := .slice _ _ _) rfl ?_
    refine sNil (kSeqN ?_)
    refine cCut (fun ρ m' => ∃ M v, M.length ≤ 9 ∧ (∀ x ∈ M, x < 2 ^ n) ∧ OwnF m55.size m' v (ofs M) ∧ (mb = true → SameSpan M L) ∧ LowX m55.size b m55 m' ∧ Has ρ [(3, .bool mb), (10, nv n), (11, .slice qL L.length cL), (12, .slice qR Q.length cR), (14, nv (leadsM Q)), (22, v)]) ?_ ?_
    ·
      refine cSeq ?_
      refine cRegion ?_
      refine sMv (v := .bool mb) rfl ?_
      refine sNil (kSeqN ?_)
      refine cCond (p := mb = true) (by show Value.bool mb = _; simp) (fun c7 => ?_) (fun c7 => ?_)
      ·
        refine cSeq ?_
        refine cRegion ?_
        refine sMv (v := .slice _ _ _) rfl ?_
        obtain ⟨v109, m109, h109, oC, e109⟩ := spec_Clone (oL55.lowx x106 (by omega)).ints (by rw [ofs_length]; omega)
        obtain ⟨qC, cC, rfl⟩ := oC.ints.lenN
        have hz109 := e109.1
        have hS109 := hS106.ext hb e109
        have x109 : LowX m55.size b m55 m109 := x106.trans (Low.of_ext e109 (by omega)).x
        refine sCall1 rfl call18 rfl h109 ?_
        refine sAs (v := .slice _ _ _) rfl ?_
        refine sNil (kSeqN ?_)
        refine cSeq ?_
        refine cSeq ?_
        refine cRegion ?_
        refine sMv (v := .slice _ _ _) rfl ?_
        refine sLen T22 rfl ?_
        refine sMv (v := nv 0) rfl ?_
        refine sNil (kSeqN ?_)
        refine cBlock ?_
        refine wpC_loop (fun q ρ m' => ∃ i M, q = L.length - i ∧ i ≤ L.length ∧ M.length = L.length ∧ (∀ x ∈ M, x < 2 ^ n) ∧ OwnF m55.size m' (.slice qC L.length cC) (ofs M) ∧ SameSpan M L ∧ StoreAt m.size m35.size m' b (40 + 8 * i) ∧ LowX m55.size b m55 m' ∧ Has ρ [(3, .bool mb), (9, .pointer (some ⟨b, 0, none⟩)), (10, nv n), (11, .slice qL L.length cL), (12, .slice qR Q.length cR), (14, nv (leadsM Q)), (22, .slice qC L.length cC), (111, nv L.length), (112, nv i)]) ⟨0, L, rfl, by omega, rfl, hLx, oC.mono (by omega), .refl _, hS109.le (by omega), x109, rfl, rfl, rfl, rfl, rfl, rfl, rfl, rfl, rfl, trivial⟩ ?_
        rintro q ρ m' ⟨i, M', rfl, hi, hM'l, hM'x, oM', sM', hS', x', hh⟩
        rw [hh.env]; clear hh
        refine cSeq ?_
        refine cRegion ?_
        refine sBin rfl rfl (aInt_lss) ?_
        refine sNil (kSeqN ?_)
        refine cSeq ?_   -- seq 38
        refine cCond rfl (fun c8 => ?_) (fun c8 => ?_)
        ·
          refine cSkip (kSeqN ?_)
          refine cSeq ?_
          refine cBlock ?_
          refine cSeq ?_
          refine cRegion ?_
          refine sMv (v := nv _) rfl ?_
          refine sAs (v := nv _) rfl ?_
          refine sNil (kSeqN ?_)
          refine cSeq ?_
          refine cRegion ?_
          refine sMv (v := nv _) rfl ?_
          refine sMv (v := nv 0) rfl ?_
          refine sNil (kSeqN ?_)
          refine cBlock ?_
          refine wpC_loop (fun q ρ m' => ∃ j M, q = i - j ∧ j ≤ i ∧ M.length = L.length ∧ (∀ x ∈ M, x < 2 ^ n) ∧ OwnF m55.size m' (.slice qC L.length cC) (ofs M) ∧ SameSpan M L ∧ StoreAt m.size m35.size m' b (40 + 8 * i + j) ∧ LowX m55.size b m55 m' ∧ Has ρ [(3, .bool mb), (9, .pointer (some ⟨b, 0, none⟩)), (10, nv n), (11, .slice qL L.length cL), (12, .slice qR Q.length cR), (14, nv (leadsM Q)), (22, .slice qC L.length cC), (111, nv L.length), (112, nv i), (23, nv i), (115, nv i), (116, nv j)]) ⟨0, M', rfl, by omega, hM'l, hM'x, oM', sM', hS', x', rfl, rfl, rfl, rfl, rfl, rfl, rfl, rfl, rfl, rfl, rfl, rfl, trivial⟩ ?_
          clear oM' hS' x' sM' hM'x hM'l
          rintro q ρ m' ⟨j, M', rfl, hj, hM'l, hM'x, oM', sM', hS', x', hh⟩
          rw [hh.env]; clear hh
          refine cSeq ?_
          refine cRegion ?_
          refine sBin rfl rfl (aInt_lss) ?_
          refine sNil (kSeqN ?_)
          refine cSeq ?_   -- seq 43
          refine cCond rfl (fun c9 => ?_) (fun c9 => ?_)
          ·
            refine cSkip (kSeqN ?_)
            refine cSeq ?_
            refine cBlock ?_
            refine cSeq ?_
            refine cRegion ?_
            refine sMv (v := nv _) rfl ?_
            refine sAs (v := nv _) rfl ?_
            refine sNil (kSeqN ?_)
            refine cSeq ?_
            refine cRegion ?_
            refine sMv (v := .pointer _) rfl ?_
            obtain ⟨v120, m120, h120, ⟨y120, rfl⟩, hS120, o120⟩ := spec_Seldom (n := 2) hS' (by omega) (by omega) (by omega)
            refine sCall2 rfl call35 rfl rfl h120 ?_
            have oM120 := oM'.only o120 (by omega)
            have x120 := x'.trans (o120.x (N := m55.size))
            refine sNil (kSeqN ?_)
            refine cCond rfl (fun c10 => ?_) (fun c10 => ?_)
            ·
              obtain ⟨b1, cap1, cc1, e1, hb1, g1, hsz1, x1, hset⟩ := oM120.atN (by omega)
              rw [hM'l] at e1
              obtain ⟨rfl, rfl, rfl⟩ := e1
              rw [hM'l] at hset
              have hl1 : ∀ k, k < M'.length → M'[k]? = some (M'.getD k 0) := fun k hk => by rw [List.getD_eq_getElem?_getD, List.getElem?_eq_getElem hk]; rfl
              have hxi := hM'x _ (getD_mem (t := M') (k := i) (by omega))
              have hxj := hM'x _ (getD_mem (t := M') (k := j) (by omega))
              refine cDraw rfl ?_
              refine sMv (v := .slice _ _ _) rfl ?_
              refine sMv (v := nv _) rfl ?_
              refine sIx T22 S3 rfl rfl (by omega) ?_
              refine sLd (v := nv (M'.getD i 0)) A3 rfl g1 (x1 _ _ (hl1 i (by omega))) ?_
              refine sMv (v := .slice _ _ _) rfl ?_
              refine sMv (v := nv _) rfl ?_
              refine sIx T22 S3 rfl rfl (by omega) ?_
              refine sLd (v := nv (M'.getD j 0)) A3 rfl g1 (x1 _ _ (hl1 j (by omega))) ?_
              refine sBin rfl rfl (aInt_xor (by omega)) ?_
              refine sIx T22 S3 rfl rfl (by omega) ?_
              refine sSt (v := nv _) S3 rfl rfl g1 (by omega) rfl rfl ?_
              refine sNil (kBlkN (kSeqN ?_))
              refine cRegion ?_
              refine sBin rfl rfl (aInt_add (b := 1) (by omega)) ?_
              refine sMv (v := nv _) rfl ?_
              refine sNil (kSeqN ?_)
              have hX := Nat.xor_lt_two_pow hxi hxj
              refine ⟨_, ?_, j + 1, M'.set i (M'.getD i 0 ^^^ M'.getD j 0), rfl, by omega, by rw [List.length_set]; exact hM'l, set_lt hM'x hX, hset i _ (by omega), (xor_row_span (by omega) (by omega)).trans sM', (hS120.low hb (Low.set hb1 _) (by omega)).le (by omega), x120.trans (Low.set hb1 _).x, rfl, rfl, rfl, rfl, rfl, rfl, rfl, rfl, rfl, rfl, rfl, rfl, trivial⟩
              omega
            ·
              refine cSkip (kBlkN (kSeqN ?_))
              refine cRegion ?_
              refine sBin rfl rfl (aInt_add (b := 1) (by omega)) ?_
              refine sMv (v := nv _) rfl ?_
              refine sNil (kSeqN ?_)
              refine ⟨_, ?_, j + 1, M', rfl, by omega, hM'l, hM'x, oM120, sM', hS120.le (by omega), x120, rfl, rfl, rfl, rfl, rfl, rfl, rfl, rfl, rfl, rfl, rfl, rfl, trivial⟩
              omega
          ·
            refine cExit (kSeqE (kSeqE (kBlkS (kBlkN (kSeqN ?_)))))
            refine cRegion ?_
            refine sBin rfl rfl (aInt_add (b := 1) (by omega)) ?_
            refine sMv (v := nv _) rfl ?_
            refine sNil (kSeqN ?_)
            refine ⟨_, ?_, i + 1, M', rfl, by omega, hM'l, hM'x, oM', sM', hS'.le (by omega), x', rfl, rfl, rfl, rfl, rfl, rfl, rfl, rfl, rfl, trivial⟩
            omega
        ·
          have hll : 2 ^ L.length ≤ 2 ^ 8 := Nat.pow_le_pow_right (by omega) hLl
          have hlp : 0 < 2 ^ L.length := Nat.two_pow_pos _
          refine cExit (kSeqE (kSeqE (kBlkS (kSeqN ?_))))
          refine cRegion ?_
          refine sMv (v := .slice _ _ _) rfl ?_
          refine sMv (v := .slice _ _ _) rfl ?_
          refine sMv (v := .pointer _) rfl ?_
          refine sMv (v := .slice _ _ _) rfl ?_
          refine sLen T22 rfl ?_
          refine sBin rfl rfl (aInt_shl (a := 1) (by omega)) ?_
          rw [Nat.shiftLeft_eq, Nat.one_mul]
          obtain ⟨v139, m139, h139, ⟨w, rfl, hw⟩, hS139, o139⟩ := spec_Less (n := 2 ^ L.length) hS' (by omega) (by omega) (by omega)
          refine sCall2 rfl call33 rfl rfl h139 ?_
          have x139 := x'.trans (o139.x (N := m55.size))
          obtain ⟨v140, m140, h140, rfl, k140⟩ := spec_total (m := m139) (w := w) (oL55.lowx x139 (by omega)).ints (by omega) (fun x hx => Nat.lt_of_lt_of_le (hLx x hx) (by omega)) (by omega)
          rw [k140] at h140
          refine sCall2 rfl call37 rfl rfl h140 ?_
          refine sBuildS T22 S3 Z3 (by decide) (by decide) (by decide) (by kernel_rfl) fill1 rfl ?_
          refine sApp App22 rfl rfl (N := m55.size) (p := ofs M') ((oM'.only o139 (by omega)).ext (.push _ _)) one_ints (by have := x139.1; simp; omega) (by simp; omega) fun v3 m3 hO3 hL3 => ?_
          obtain ⟨q3, cp3, rfl⟩ := hO3.ints.len
          refine sAs (v := .slice _ _ _) rfl ?_
          refine sNil (kSeqN ?_)
          have hL4 := mk_own (by have := x139.1; omega) hL3
          exact ⟨M' ++ [total L w], _, by simp; omega, snoc_lt hM'x (total_lt hLx w), by rw [ofs_append]; exact hO3, fun _ => span_in sM', x139.trans hL4.x, rfl, rfl, rfl, rfl, rfl, rfl, trivial⟩
      ·
        refine cSkip (kSeqN ?_)
        exact ⟨M, _, by omega, hMx, oM, fun h => absurd h c7, x106, rfl, rfl, rfl, rfl, rfl, rfl, trivial⟩
    clear oM hMl hMx
    rintro ρ m' ⟨M, v, hMl, hMx, oM, hmb, xX, hh⟩
    obtain ⟨qM, cM, rfl⟩ := oM.ints.lenN
    rw [hh.env]; clear hh
    have hRM : Right M n := made_right hn1 (by omega) (by omega) hMl hMx
    have yX : Ext m m' := y55.lowx xX (by omega)
    have oL' := oL55.lowx xX (by omega)
    have oR' := (oR.ext e55).lowx xX (by omega)
    refine cSeq ?_
    refine cRegion ?_
    refine sMv (v := .slice _ _ _) rfl ?_
    refine sMv (v := nv _) rfl ?_
    obtain ⟨v146, m146, h146, w146, rfl, o146, e146⟩ := sp_Reduce hRR oR'.ints
    rw [hredR] at o146
    obtain ⟨q146, c146, rfl⟩ := o146.ints.lenN
    refine sCall2 rfl call43 rfl rfl h146 ?_
    refine sMv (v := .tuple _) rfl ?_
    refine sP (v := .slice _ _ _) rfl ?_   -- extract ['t143', '0']
    refine sP (v := nv _) rfl ?_   -- extract ['t143', '1']
    refine sAs (v := .slice _ _ _) rfl ?_
    refine sAs (v := nv _) rfl ?_
    refine sNil (kSeqN ?_)
    refine cSeq ?_
    refine cRegion ?_
    refine sMv (v := .slice _ _ _) rfl ?_
    refine sMv (v := nv _) rfl ?_
    obtain ⟨v152, m152, h152, w152, rfl, o152, e152⟩ := sp_Reduce hRM (oM.ext e146).ints
    obtain ⟨q152, c152, rfl⟩ := o152.ints.lenN
    have z152 := e146.trans e152
    refine sCall2 rfl call43 rfl rfl h152 ?_
    refine sMv (v := .tuple _) rfl ?_
    refine sP (v := .slice _ _ _) rfl ?_   -- extract ['t149', '0']
    refine sP (v := nv _) rfl ?_   -- extract ['t149', '1']
    refine sAs (v := .slice _ _ _) rfl ?_
    refine sAs (v := nv _) rfl ?_
    refine sNil (kSeqN ?_)
    refine cSeq ?_
    refine cRegion ?_
    refine sMv (v := .slice _ _ _) rfl ?_
    refine sMv (v := .slice _ _ _) rfl ?_
    refine sMv (v := nv _) rfl ?_
    obtain ⟨v159, m159, h159, rfl, e159⟩ := sp_Same hR hRM (oL'.ext z152).ints (oM.ext z152).ints
    have z159 := z152.trans e159
    rw [hgen] at h159
    refine sCall3 rfl kall62 rfl rfl rfl h159 ?_
    refine sMv (v := .tuple _) rfl ?_
    refine sP (v := .bool _) rfl ?_   -- extract ['t155', '0']
    refine sP (v := nv _) rfl ?_   -- extract ['t155', '1']
    refine sAs (v := .bool _) rfl ?_
    refine sAs (v := nv _) rfl ?_
    refine sNil (kSeqN ?_)
    refine cSeq ?_
    refine cRegion ?_
    refine sMv (v := .slice _ _ _) rfl ?_
    refine sMv (v := nv _) rfl ?_
    obtain ⟨v165, m165, h165, w165, rfl, o165, e165⟩ := sp_Free (hG.ext (yX.trans z159)) hR (oL'.ext z159).ints
    rw [← hfree] at o165
    obtain ⟨q165, c165, rfl⟩ := o165.ints.lenN
    have z165 := z159.trans e165
    refine sCall2 rfl kall59 rfl rfl h165 ?_
    refine sMv (v := .tuple _) rfl ?_
    refine sP (v := .slice _ _ _) rfl ?_   -- extract ['t162', '0']
    refine sP (v := nv _) rfl ?_   -- extract ['t162', '1']
    refine sAs (v := .slice _ _ _) rfl ?_
    refine sAs (v := nv _) rfl ?_
    refine sNil (kSeqN ?_)
    refine cCut (fun ρ m'' => m165 = m'' ∧ Has ρ [(10, nv n), (14, nv (leadsM Q)), (30, .slice q165 (orthCols Q n).length c165)]) ?_ ?_
    ·
      refine cSeq ?_
      refine cRegion ?_
      refine sMv (v := nv _) rfl ?_
      refine sBin (v := .bool false) (a := 0) (b := 0) rfl rfl (neqF rfl) ?_
      refine sMv (v := .bool _) rfl ?_
      refine sG rfl rfl ?_
      refine sMv (v := .slice _ _ _) rfl ?_
      refine sG rfl rfl ?_
      refine sMv (v := .slice _ _ _) rfl ?_
      refine sG rfl rfl ?_
      obtain ⟨v173, m173, h173, rfl, k173⟩ := spec_Eq (o146.ext (e152.trans (e159.trans e165))).ints (oR'.ext z165).ints (by omega)
      rw [k173, decide_eq_true rfl] at h173
      refine sCall2 rfl call23 rfl rfl h173 ?_
      refine sG rfl rfl ?_
      refine sP (v := .bool false) rfl ?_
      refine sP (v := .bool _) rfl ?_   -- t175 pick ['t170', '(bool true)', 't174']
      refine sMv (v := .bool _) rfl ?_
      refine sG rfl rfl ?_
      refine sMv (v := nv _) rfl ?_
      refine sG rfl rfl ?_
      refine sBin (v := .bool false) (a := 0) (b := 0) rfl rfl (neqF rfl) ?_
      refine sP (v := .bool _) rfl ?_   -- t179 pick ['t176', '(bool true)', 't178']
      refine sMv (v := .bool _) rfl ?_
      refine sG rfl rfl ?_
      refine sMv (v := nv _) rfl ?_
      refine sG rfl rfl ?_
      refine sBin (v := .bool false) (a := 0) (b := 0) rfl rfl (neqF rfl) ?_
      refine sP (v := .bool _) rfl ?_   -- t183 pick ['t180', '(bool true)', 't182']
      refine sMv (v := .bool _) rfl ?_
      refine sG rfl rfl ?_
      refine sMv (v := .bool _) rfl ?_
      refine sG rfl rfl ?_
      refine sMv (v := .slice _ _ _) rfl ?_
      refine sG rfl rfl ?_
      refine sMv (v := .slice _ _ _) rfl ?_
      refine sG rfl rfl ?_
      obtain ⟨v188, m188, h188, rfl, k188⟩ := spec_Eq (oR'.ext z165).ints (o152.ext (e159.trans e165)).ints (by omega)
      rw [k188] at h188
      refine sCall2 rfl call23 rfl rfl h188 ?_
      refine sG rfl rfl ?_
      refine sBinA (v := .bool false) rfl rfl (bneB rfl) ?_
      refine sP (v := .bool _) rfl ?_   -- t190 pick ['t184', '(bool true)', 't189']
      refine sMv (v := .bool _) rfl ?_
      refine sG rfl rfl ?_
      refine sMv (v := .bool mb) rfl ?_
      refine sG rfl rfl ?_
      refine sMv (v := .bool mb) rfl ?_
      by_cases h1 : mb = true
      ·
        have hsame := redM_of_span hRM.lt24 hR.lt24 (hmb h1)
        rw [hgen] at hsame
        subst h1
        refine sG rfl rfl ?_
        refine sMv (v := .bool _) rfl ?_
        refine sG rfl rfl ?_
        refine sP (v := .bool false) (by show some (Value.bool (!decide (Q = redM M))) = _; rw [decide_eq_true hsame.symm]; rfl) ?_
        refine sG rfl rfl ?_
        refine sP (v := .bool false) rfl ?_
        refine sP (v := .bool _) rfl ?_   -- t197 pick ['t191', '(bool true)', 't196']
        refine sMv (v := .bool _) rfl ?_
        refine sG rfl rfl ?_
        refine sMv (v := nv _) rfl ?_
        refine sG rfl rfl ?_
        refine sBin (v := .bool false) (a := 0) (b := 0) rfl rfl (neqF rfl) ?_
        refine sP (v := .bool _) rfl ?_   -- t201 pick ['t198', '(bool true)', 't200']
        refine sMv (v := .bool _) rfl ?_
        refine sG rfl rfl ?_
        refine sMv (v := .slice _ _ _) rfl ?_
        refine sG rfl rfl ?_
        refine sLen T22 rfl ?_
        refine sG rfl rfl ?_
        refine sMv (v := nv _) rfl ?_
        refine sG rfl rfl ?_
        refine sMv (v := .slice _ _ _) rfl ?_
        refine sG rfl rfl ?_
        refine sLen T22 rfl ?_
        refine sG rfl rfl ?_
        refine sBin rfl rfl (aInt_sub (by omega)) ?_
        refine sG rfl rfl ?_
        refine sBin (v := .bool false) rfl rfl (neqF (by omega)) ?_
        refine sP (v := .bool _) rfl ?_   -- t210 pick ['t202', '(bool true)', 't209']
        refine sNil (kSeqN ?_)
        refine cCondF rfl ?_
        refine cSkip (kSeqN ?_)
        exact ⟨rfl, rfl, rfl, rfl, trivial⟩
      ·
        obtain rfl : mb = false := by simpa using h1
        refine sGno (q' := false) rfl rfl (by simp) ?_
        refine sGno (q' := false) rfl rfl (by simp) ?_
        refine sG rfl rfl ?_
        refine sP (v := .bool false) rfl ?_
        refine sP (v := .bool _) rfl ?_   -- t197 pick ['t191', '(bool true)', 't196']
        refine sMv (v := .bool _) rfl ?_
        refine sG rfl rfl ?_
        refine sMv (v := nv _) rfl ?_
        refine sG rfl rfl ?_
        refine sBin (v := .bool false) (a := 0) (b := 0) rfl rfl (neqF rfl) ?_
        refine sP (v := .bool _) rfl ?_   -- t201 pick ['t198', '(bool true)', 't200']
        refine sMv (v := .bool _) rfl ?_
        refine sG rfl rfl ?_
        refine sMv (v := .slice _ _ _) rfl ?_
        refine sG rfl rfl ?_
        refine sLen T22 rfl ?_
        refine sG rfl rfl ?_
        refine sMv (v := nv _) rfl ?_
        refine sG rfl rfl ?_
        refine sMv (v := .slice _ _ _) rfl ?_
        refine sG rfl rfl ?_
        refine sLen T22 rfl ?_
        refine sG rfl rfl ?_
        refine sBin rfl rfl (aInt_sub (by omega)) ?_
        refine sG rfl rfl ?_
        refine sBin (v := .bool false) rfl rfl (neqF (by omega)) ?_
        refine sP (v := .bool _) rfl ?_   -- t210 pick ['t202', '(bool true)', 't209']
        refine sNil (kSeqN ?_)
        refine cCondF rfl ?_
        refine cSkip (kSeqN ?_)
        exact ⟨rfl, rfl, rfl, rfl, trivial⟩
    rintro ρ m'' ⟨rfl, hh⟩
    rw [hh.env]; clear hh
    have iF := o165.ints
    have hFm : ∀ k, k < (orthCols Q n).length → (orthCols Q n).getD k 0 ∈ orthCols Q n := fun k hk => getD_mem hk
    have hFl := fun k (hk : k < (orthCols Q n).length) => (mem_orthCols.1 (hFm k hk)).1
    have hFb := fun k (hk : k < (orthCols Q n).length) => free_bit (hFm k hk)
    have hFu := fun k (hk : k + 1 < (orthCols Q n).length) => free_lt hk
    have hFn : (orthCols Q n).length ≤ n := by omega
    generalize orthCols Q n = F at *
    refine cSeq ?_
    refine cSeq ?_
    refine cRegion ?_
    refine sMv (v := .slice _ _ _) rfl ?_
    refine sLen T22 rfl ?_
    refine sMv (v := nv 0) rfl ?_
    refine sNil (kSeqN ?_)
    refine cBlock ?_
    refine wpC_loop (fun k ρ m'' => ∃ i, k = F.length - i ∧ i ≤ F.length ∧ m165 = m'' ∧ Has ρ [(10, nv n), (14, nv (leadsM Q)), (30, .slice q165 F.length c165), (211, .slice q165 F.length c165), (212, nv F.length), (213, nv i)]) ⟨0, rfl, by omega, rfl, rfl, rfl, rfl, rfl, rfl, rfl, trivial⟩ ?_
    rintro k ρ m'' ⟨i, rfl, hi, rfl, hh⟩
    rw [hh.env]; clear hh
    refine cSeq ?_
    refine cRegion ?_
    refine sBin rfl rfl (aInt_lss) ?_
    refine sNil (kSeqN ?_)
    refine cSeq ?_   -- seq 56
    refine cCond rfl (fun c13 => ?_) (fun c13 => ?_)
    ·
      obtain ⟨b1, o1, p1, r1, cc1, e1, g1, x1⟩ := iF.atN (by omega)
      obtain ⟨rfl, rfl, rfl⟩ := e1
      have hl1 : ∀ k, k < F.length → F[k]? = some (F.getD k 0) := fun k hk => by rw [List.getD_eq_getElem?_getD, List.getElem?_eq_getElem hk]; rfl
      have hx1 := hFl i c13
      have hxb := hFb i c13
      refine cSkip (kSeqN ?_)
      refine cSeq ?_
      refine cBlock ?_
      refine cSeq ?_
      refine cRegion ?_
      refine sMv (v := nv _) rfl ?_
      refine sIx T22 S3 rfl rfl (by omega) ?_
      refine sLd (v := nv (F.getD i 0)) A3 rfl g1 (x1 _ _ (hl1 i c13)) ?_
      refine sAs (v := nv _) rfl ?_
      refine sAs (v := nv _) rfl ?_
      refine sNil (kSeqN ?_)
      refine cSeq ?_
      refine cRegion ?_
      refine sMv (v := nv _) rfl ?_
      refine sBin (v := .bool false) (b := 0) rfl rfl (lssF (by omega)) ?_
      refine sMv (v := .bool _) rfl ?_
      refine sG rfl rfl ?_
      refine sMv (v := nv _) rfl ?_
      refine sG rfl rfl ?_
      refine sMv (v := nv _) rfl ?_
      refine sG rfl rfl ?_
      refine sBin (v := .bool false) rfl rfl (geqF (by omega)) ?_
      refine sP (v := .bool _) rfl ?_   -- t224 pick ['t220', '(bool true)', 't223']
      refine sMv (v := .bool _) rfl ?_
      refine sG rfl rfl ?_
      refine sMv (v := nv _) rfl ?_
      refine sG rfl rfl ?_
      refine sMv (v := nv _) rfl ?_
      refine sG rfl rfl ?_
      refine sBin rfl rfl (aInt_shr (by omega)) ?_
      refine sG rfl rfl ?_
      refine sBin (b := 1) rfl rfl (aInt_and ⟨by have := Nat.shiftRight_le (leadsM Q) (F.getD i 0); omega, by omega⟩) ?_
      refine sG rfl rfl ?_
      refine sBin (v := .bool false) (b := 1) rfl rfl (eqlF (fun h => by rw [(bit_one _ _).1 h] at hxb; cases hxb)) ?_
      refine sP (v := .bool _) rfl ?_   -- t231 pick ['t225', '(bool true)', 't230']
      refine sMv (v := .bool _) rfl ?_
      refine sG rfl rfl ?_
      refine sMv (v := nv _) rfl ?_
      refine sG rfl rfl ?_
      refine sBin (b := 0) rfl rfl (aInt_gtr) ?_
      refine sG rfl rfl ?_
      refine sMv (v := .bool _) rfl ?_
      by_cases h1 : 0 < i
      ·
        rw [decide_eq_true h1]
        refine sG rfl rfl ?_
        refine sMv (v := .slice _ _ _) rfl ?_
        refine sG rfl rfl ?_
        refine sMv (v := nv _) rfl ?_
        refine sG rfl rfl ?_
        refine sBin (b := 1) rfl rfl (aInt_sub (by omega)) ?_
        refine sG rfl rfl ?_
        refine sIx T22 S3 rfl rfl (by omega) ?_
        refine sG rfl rfl ?_
        refine sLd (v := nv (F.getD (i - 1) 0)) A3 rfl g1 (x1 _ _ (hl1 (i - 1) (by omega))) ?_
        refine sG rfl rfl ?_
        refine sMv (v := nv _) rfl ?_
        refine sG rfl rfl ?_
        refine sBin (v := .bool false) rfl rfl (geqF (by have := hFu (i - 1) (by omega); rw [show i - 1 + 1 = i by omega] at this; omega)) ?_
        refine sG rfl rfl ?_
        refine sP (v := .bool _) rfl ?_   -- t243 pick ['t235', 't242', '(bool false)']
        refine sP (v := .bool _) rfl ?_   -- t244 pick ['t232', '(bool true)', 't243']
        refine sNil (kSeqN ?_)
        refine cCondF rfl ?_
        refine cSkip (kBlkN (kSeqN ?_))
        refine cRegion ?_
        refine sBin rfl rfl (aInt_add (b := 1) (by omega)) ?_
        refine sMv (v := nv _) rfl ?_
        refine sNil (kSeqN ?_)
        refine ⟨_, ?_, i + 1, rfl, by omega, rfl, rfl, rfl, rfl, rfl, rfl, rfl, trivial⟩
        omega
      ·
        rw [decide_eq_false h1]
        refine sGno (q' := false) rfl rfl (by simp) ?_
        refine sGno (q' := false) rfl rfl (by simp) ?_
        refine sGno (q' := false) rfl rfl (by simp) ?_
        refine sGno (q' := false) rfl rfl (by simp) ?_
        refine sGno (q' := false) rfl rfl (by simp) ?_
        refine sGno (q' := false) rfl rfl (by simp) ?_
        refine sGno (q' := false) rfl rfl (by simp) ?_
        refine sG rfl rfl ?_
        refine sP (v := .bool _) rfl ?_   -- t243 pick ['t235', 't242', '(bool false)']
        refine sP (v := .bool _) rfl ?_   -- t244 pick ['t232', '(bool true)', 't243']
        refine sNil (kSeqN ?_)
        refine cCondF rfl ?_
        refine cSkip (kBlkN (kSeqN ?_))
        refine cRegion ?_
        refine sBin rfl rfl (aInt_add (b := 1) (by omega)) ?_
        refine sMv (v := nv _) rfl ?_
        refine sNil (kSeqN ?_)
        refine ⟨_, ?_, i + 1, rfl, by omega, rfl, rfl, rfl, rfl, rfl, rfl, rfl, trivial⟩
        omega
    ·
      refine cExit (kSeqE (kSeqE (kBlkS (kSeqN ?_))))
      refine cSeq ?_
      refine cRegion ?_
      obtain ⟨v246, m246, h246, rfl, e246⟩ := spec_awake (hG.ext (yX.trans z165))
      refine sCall0 rfl call17 h246 ?_
      refine sAs (v := .bool _) rfl ?_
      refine sNil (kSeqN ?_)
      refine cRet ?_
      exact ⟨.inr rfl, _, rfl, rfl, trivial⟩

end Go.AM

/-! ### F12 -/
namespace Go.Proofs.YtgiidbomifmcaaaDoor
open Go Go.AM Go.ChangeShapes Go.WideShapes Go.ChangeAt Go.WideMaps Go.WideElems Go.RowKit
set_option maxRecDepth 100000
set_option linter.unusedVariables false
theorem own : ownKnob Tryd.prog.godebug = none := by kernel_rfl
/-- The door's own heap meets the condition: three closed facts. -/
theorem door_met (os : Os) (args : Array Value) : laidMetH Tryd.prog laid3 ((World.doorLaid Tryd.prog 400 os).forCall (fun _ _ => 0) ⟨#[], args, []⟩).memory :=
  laidMetH_of_parts3 (fuel := 8) (laidMet_of_run' 8 (by kernel_rfl) (by kernel_rfl)) (by kernel_rfl) (by kernel_rfl)
theorem lifted10 (os : Os) (started : os.Started) (H : Type) (enc : TypeId × Value → H) :
    ReturnsInHanded {} Tryd.checked os 10 .any (fun w args => (Rows.bitsReducedSpec.pre enc Tryd.prog Tryd.f10 [] false w args ∧ laidMetH Tryd.prog laid3 w) ∧ sizedMet enc Tryd.prog Tryd.f10 (OpenSpec.ofChange Rows.bitsReducedSpec) false w args)
      (Rows.bitsReducedSpec.post enc Tryd.prog Tryd.f10 false true false false) := by
  refine returnsInHanded_of_change_and (C := Tryd.checked) (X := fun w _ => laidMetH Tryd.prog laid3 w) (fun _ _ _ hh h => h.of_heap hh) own started (by kernel_rfl) Tryd.func10
    (ChangeSpec.witness_shaped (enc := enc) (C := Tryd.checked) (os := os) (X := fun w _ => laidMetH Tryd.prog laid3 w) false (World.doorLaid Tryd.prog 400 os) #[.slice none 0 0, .slice none 0 0, .int .u8 0, .bool false] 8 rfl (World.shaped_of_RefB (by kernel_rfl) (by kernel_rfl)) (by kernel_rfl) (by kernel_rfl) (by kernel_rfl) (door_met os _)) ?_
  intro W base args ds gs before hval0 hW _ _ hL _
  have hval : ∀ (j : Nat) t v, Tryd.f10.params[j]? = some t → args[j]? = some v → Value.okWide Tryd.prog W .any base t v := hval0
  have hW' := hW
  obtain ⟨p, q, hA0, hV, rfl, hfz, hnd⟩ := hW
  have hA : DataW.TrodAll enc Tryd.prog W 0 (fun _ => true) true [35, 35, 5, 4] args.toList ds p := hA0
  obtain ⟨v0, vs0, d0, ds0, p0, q0, hargs, rfl, rfl, h0, r0⟩ := trodAll_cons hA
  obtain ⟨v1, vs1, d1, ds1, p1, q1, rfl, rfl, rfl, h1, r1⟩ := trodAll_cons r0
  obtain ⟨v2, vs2, d2, ds2, p2, q2, rfl, rfl, rfl, h2, r2⟩ := trodAll_cons r1
  obtain ⟨v3, vs3, d3, ds3, p3, q3, rfl, rfl, rfl, h3, r3⟩ := trodAll_cons r2
  obtain ⟨rfl, rfl, rfl⟩ := trodAll_nil r3
  obtain rfl : args = #[v0, v1, v2, v3] := by cases args; simp_all
  obtain ⟨rfl, rfl⟩ := trodVars_none hV
  obtain ⟨a0, l0, f0, ok0, wf0, A0⟩ := ints_arg hL u35 u5 c5 (hval 0 35 v0 rfl rfl) h0
  have lt0 : ∀ x ∈ p0, x.block < W.heap.size := by obtain ⟨m, hm⟩ := h0; exact DataW.trod_lt m _ _ _ hm
  obtain ⟨a1, l1, f1, ok1, wf1, A1⟩ := ints_arg hL u35 u5 c5 (hval 1 35 v1 rfl rfl) h1
  have lt1 : ∀ x ∈ p1, x.block < W.heap.size := by obtain ⟨m, hm⟩ := h1; exact DataW.trod_lt m _ _ _ hm
  obtain ⟨n2, rfl, rfl, rfl, w2⟩ := open_int u5 (hval 2 5 v2 rfl rfl) h2
  obtain ⟨c2, hc2, rfl⟩ := u8_nat w2
  obtain ⟨n3, rfl, rfl, rfl⟩ := open_bool u4 (hval 3 4 v3 rfl rfl) h3
  refine (entry (args := #[f0 0, f1 1, .int .u8 (Int.ofNat c2), .bool n3]) (A := [a0, a1]) hL (by intro a ha; simp only [List.mem_cons, List.not_mem_nil, or_false] at ha; rcases ha with rfl | rfl <;> assumption) (fun bm => (arel_cons ((A0 _ 0 rfl).2 bm) (arel_cons ((A1 _ 1 rfl).2 bm) (arel_cons (.int _ _) (arel_cons (.bool _) arel_nil))))) (fun b => ?_)).mono ?_
  · obtain ⟨v, m, h, hv, _⟩ := spec_BitsReduced (glob0 b _) ((A0 [a0, a1] 0 rfl).1 b) ((A1 [a0, a1] 1 rfl).1 b) hc2
    exact ⟨v, m, h, hv⟩
  · rintro e W' ⟨rfl, bel⟩
    exact ⟨_, rfl, _, _, _, [], _, [], hW', trodAll_mk1 (shut_bool u4 _), (trodAll_cons_mk (Below.trod laidOut (by kernel_rfl) (of_decide_eq_true (by kernel_rfl)) h0 bel lt0) (trodAll_cons_mk (Below.trod laidOut (by kernel_rfl) (of_decide_eq_true (by kernel_rfl)) h1 bel lt1) (trodAll_cons_mk (shut_int u5 w2) (trodAll_cons_mk (shut_bool u4 _) trodAll_mk0)))), rfl, bel.frame _, fun h => by cases h⟩
theorem bitsReduced_holds : Rows.BitsReducedSaid :=
  OpenClaim.holds_of_wide 10 Tryd.f10 rfl rfl rfl rfl rfl rfl rfl ⟨rfl, rfl, rfl, rfl, rfl⟩ rfl rfl rfl rfl rfl (by kernel_rfl) Tryd.func10 (by kernel_rfl)
    (of_decide_eq_true (by kernel_rfl)) (by unfold Func.isWrapper; first | (rw [if_pos (by decide +kernel)]; kernel_rfl) | (rw [if_neg (by decide +kernel)]; exact ⟨rfl, rfl⟩))
    (fun os started H enc _ => lifted10 os started H enc)
theorem bitsReducedCard_holds : Rows.BitsReducedCardSaid :=
  Claim7.holds_tied_plain_at .later [] [.data, .data, .funcs] true (true, "4e90e708c3a0b8b9bd838c7bc74774a1a5a946fb69b32deeeece4d3212f6d5ce") false
    bitsReduced_holds (fun _ h => by cases h) (by kernel_rfl) (fun _ h => by cases h) bitsReduced_row_tie rfl ⟨rfl, rfl⟩ (by kernel_rfl) rfl
    (fun f fn hf hfn => by
      obtain rfl : f = 10 := Option.some.inj ((show Tryd.prog.funcNamed "spoondrift/spoondriftlaw02.BitsReduced" = some 10 by kernel_rfl).symm.trans hf) |>.symm
      obtain rfl : fn = Tryd.f10 := (Option.some.inj (Tryd.func10.symm.trans hfn)).symm
      exact ⟨by kernel_rfl, fun j t ht => by
        have hm : t ∈ [35, 35, 5, 4] := by simpa using Array.mem_of_getElem? (show (#[35, 35, 5, 4] : Array Nat)[j]? = some t from ht)
        have hall : ([35, 35, 5, 4].all fun u => !Tryd.prog.wantsStandIn u) = true := by kernel_rfl
        exact (show Tryd.prog.wantsStandIn t = false by simpa using List.all_eq_true.1 hall t hm)⟩)
    (by kernel_rfl)
end Go.Proofs.YtgiidbomifmcaaaDoor
